/- Part 19 of the walks (own work). -/
import Derived.Test.YtilpjnckfkjkbaaGreatDoorQ18
set_option maxRecDepth 100000
set_option maxHeartbeats 4000000
set_option linter.unusedSimpArgs false
set_option linter.unusedVariables false
namespace Go.Dv
open Go.Proofs
attribute [local congr] bind_congr_first cb_congr condA_congr gd_congr br_congr
def dV (v:AV) (D:List Nat):List Nat:=match blkO v with
 | some b=>b::D
 | none=>D
theorem dV_mem {v:AV} {D:List Nat} {d:Nat}:d∈dV v D↔blkO v=some d∨d∈D:=by
 unfold dV
 cases blkO v with
 | none=>simp
 | some b=>simp [eq_comm]
theorem bs25' {v:AV} (hv:v.cells=[v]/\v.one=true) (hs:v=.nilSlice∨∃ i k es l c e,v=.slice i k es l c e) (H:AH):buildSliceA Tryz.prog none 25 1 [(0,v)] H=some (.slice H.length 0 1 1 1 true,H++[.cells [v] 31]):=by
 rcases hs with rfl | ⟨i,k,es,l,c,e,rfl⟩ <;> kernel_rfl
theorem Own.sh {b:Nat} {H:AH} {es:Nat} {elem:TypeId} {v:AV} {xs:List AV} (h:Own b H es elem v xs):v=.nilSlice∨∃ i k es l c e,v=.slice i k es l c e:=by
 cases h with
 | nil=>exact .inl rfl
 | «at» i k len cap ex cs xs h1 hi hl hc h=>exact .inr ⟨_,_,_,_,_,_,rfl⟩
theorem at25c:AppT Tryz.prog 25 (some 25) 31 1:=⟨by kernel_rfl,⟨(zeroA Tryz.prog 31).getD uA,by kernel_rfl,by kernel_rfl,by (have h:((zeroA Tryz.prog 31).getD uA).cells.length=1:=by kernel_rfl); intro e; rw [e] at h; cases h⟩,by kernel_rfl,by kernel_rfl⟩
theorem b31:Nat.ble (Tryz.prog.bytesOf 31) 1000=true:=by kernel_rfl
theorem rowQ_set9 (vc vm vs vs' va:AV) (f:Con) (rc:List Bool) (en:Int):(rowQ vc vm vs va f rc en).set 9 vs'=rowQ vc vm vs' va f rc en:=rfl
theorem rowQ_len (vc vm vs va:AV) (f:Con) {rc:List Bool} (h:rc.length=16) (en:Int):(rowQ vc vm vs va f rc en).length=28:=by unfold rowQ rowF; simp [h]
def rc0:List Bool:=List.replicate 16 false
structure StrInv (D:List Nat) (K5 K:AH) (q:Nat) (cv mv av:AV) (f:Con) (ss:List (List Itm)) (i:Nat):Prop where
 ag:AgX K5 K q
 ex:∃ vq,K[q]? =some (.cells (rowQ cv mv vq av f rc0 0) 71)/\∃ pr:List (List Itm × AV),pr.map (·.1)=ss.take i/\Own K5.length K 1 31 vq (pr.map (·.2))/\∀ p∈pr,ItmsR (killD D (killV vq K)) p.1 p.2
theorem new_str {H K5:AH} {ss:List (List Itm)} {vs cv mv av:AV} {f:Con} {q:Nat} {D:List Nat} (hH:Agree H K5) (hHq:H.length<=q) (hq5:q < K5.length) (hs:StrsR H ss vs) (hn4:ss.length<=4) (hxl:∀ xs∈ss,xs.length<=1000/\∀ x∈xs,x.args.length<=1000) (hqD:q∈D) (hDl:∀ d∈D,d < K5.length) (hN:ss.length < 2 ^ 60):∀ (d j:Nat) (tm:List AV) (K:AH),ss.length - j=d->j<=ss.length->(tm.length=100/\tm.getD 11 uA=.ptr q 0/\tm.getD 67 uA=vs/\tm.getD 68 uA=I ss.length/\tm.getD 69 uA=I ((j:Nat):Int)/\StrInv D K5 K q cv mv av f ss j) ->
   ∃ X K1,EvC Tryz.prog C0 W0 pl10 l10_2 (tm,K)=some (.exit 2,(X,K1))/\(X.length=100/\X.getD 11 uA=.ptr q 0/\X.getD 67 uA=vs/\X.getD 68 uA=I ss.length/\X.getD 69 uA=I ((ss.length:Nat):Int)/\StrInv D K5 K1 q cv mv av f ss ss.length):=by
 intro d
 induction d with
 | zero =>
   intro j tm K hd hj hI
   have hjl:j=ss.length:=by omega
   subst hjl
   have hI0:=hI
   obtain ⟨hlen,h11,h67,h68,h69,hI5⟩:=hI
   have hlt:ltB (((ss.length:Nat)):Int) (ss.length:Nat)=false:=ltB_f (by omega)
   rw [el10_2]
   simp -implicitDefEqProofs only [b10_2,Tryz.f10,aP,hlen,h11,h67,h68,h69,hlt,↓cbT,↓cbF,↓evDn,evUp,eu,sevalprocAttr]
   refine ⟨_,K,rfl,?_⟩
   exact ⟨by first | exact hlen | simp only [List.length_set,hlen],Aj4 (by simp only [hlen,h11,h67,h68,h69,gB,and_self,sevalprocAttr]) hI5⟩
 | succ d ih =>
   intro j tm K hd hj hI
   have hI0:=hI
   obtain ⟨hlen,h11,h67,h68,h69,hI5⟩:=hI
   have hjN:j < ss.length:=by omega
   have hlt:ltB (j:Int) (ss.length:Nat)=true:=ltB_t (by omega)
   have hw:=inc_i (j:=j) (by omega)
   obtain ⟨hX5,vq,hKq,prq,hprq,hoq,hitq⟩:=hI5
   have hAH:Agree H K:=fun i hi=>(hX5.2 i (Nat.lt_of_lt_of_le hi hH.len) (by omega)).trans (hH i hi)
   obtain ⟨i0,k0,w0,hix0,hrd0,hxs⟩:=hs.at hAH hjN
   have hln:=hxs.len
   have hsm:=hxl _ (strAt_mem hjN)
   have ht:ss.take (j+1)=ss.take j++[strAt ss j]:=by rw [List.take_add_one,strAt_lt hjN]; rfl
   have hDq:∀ d∈dV vq D,d < K.length:=fun d hd=>by
     rcases dV_mem.1 hd with h | h
     · exact (own_blk hoq h).2
     · exact Nat.lt_of_lt_of_le (hDl d h) hX5.1
   generalize strAt ss j=xs at *
   rw [el10_2]
   rw [<-List.append_nil K]
   have key:∀ (tmN:List AV) (KN:AH) (Z:Option (AExit × St)),EvC Tryz.prog C0 W0 pl10 l10_2 (tmN,KN)=Z->(tmN.length=100/\tmN.getD 11 uA=.ptr q 0/\tmN.getD 67 uA=vs/\tmN.getD 68 uA=I ss.length/\tmN.getD 69 uA=I (((j+1):Nat):Int)/\StrInv D K5 KN q cv mv av f ss (j+1))->∃ X K1,Z=some (.exit 2,(X,K1))/\(X.length=100/\X.getD 11 uA=.ptr q 0/\X.getD 67 uA=vs/\X.getD 68 uA=I ss.length/\X.getD 69 uA=I ((ss.length:Nat):Int)/\StrInv D K5 K1 q cv mv av f ss ss.length):=by
     intro tmN KN Z h hJ
     obtain ⟨X,K1,A,B⟩:=ih (j+1) tmN KN (by omega) (by omega) hJ
     exact ⟨X,K1,h.symm.trans A,B⟩
   simp -implicitDefEqProofs only [b10_2,Tryz.f10,aP,hlen,h11,h67,h68,h69,hlt,hw,hix0,hrd0,hln,r5,↓evLd,nck,↓cbT,↓cbF,↓evDn,evUp,eu,sevalprocAttr]
   simp only [List.append_nil]
   generalize hZ:EvC Tryz.prog C0 W0 _ (Code.loop _) _=Z
   obtain ⟨X,K1,he,xl,x11,x67,x68,x69,_,_,_,hA1,v,x16,pri,hpri,hov,hargs⟩:=new_itm' (H:=H) (vs:=vs) (q:=q) (n:=ss.length) (i:=j) (D:=dV vq D) hZ hAH hxs hsm.1 hsm.2 hDq (by omega) ⟨by simp only [ls,hlen],Aj6 (by simp only [hlen,h11,h67,h68,h69,gB,and_self,sevalprocAttr]) ⟨by simp only [hlen,gB,sevalprocAttr]; try rfl,Agree.refl K,.nilSlice,by simp only [hlen,gB,sevalprocAttr],[],rfl,.nil,by simp⟩⟩
   subst he
   rw [List.take_length] at hpri
   have hq1:K1[q]? =some (.cells (rowQ cv mv vq av f rc0 0) 71):=hA1.get hKq
   have hq9:rdCells K1 q 9 1=some [vq]:=by
     unfold rdCells
     rw [hq1]
     simp only
     rw [if_pos (by rw [rowQ_len _ _ _ _ _ rfl]; decide)]; rfl
   have hvc:=hov.cells
   have hvc1:=hvc.1
   have hvc2:=hvc.2
   have hb25:=bs25' hvc hov.sh K1
   have hprl:prq.length=j:=by
     have:=congrArg List.length hprq
     rw [List.length_map,List.length_take,Nat.min_eq_left (Nat.le_of_lt hjN)] at this; exact this
   have hlq:lenOfA vq=j:=by
     have:=hoq.length
     rw [List.length_map,hprl,Nat.mul_one] at this; exact this.symm
   have hoq1:=(hoq.agree hA1).agree (Agree.app K1 [AObj.cells [v] 31])
   obtain ⟨vq',K2,happ,hown',hll,hsame,hblk⟩:=app_own at25c hoq1 (by rw [List.length_append]; exact Nat.le_trans (Nat.le_trans hX5.1 hA1.len) (Nat.le_add_right _ _)) (x:=.slice K1.length 0 1 1 1 true) (new:=[v]) (.at _ _ _ _ _ _ (by rw [rd_app0]; rfl)) (by simp [hvc2]) (grow_le b31 (by rw [hlq,lenOfA_slice]; omega))
   have hqb:blkO vq≠some q:=fun e=>by have:=(own_blk hoq e).1; omega
   have hq1l:=lt_of_get hq1
   have hq2:K2[q]? =some (.cells (rowQ cv mv vq av f rc0 0) 71):=by
     rw [hsame q (by rw [List.length_append]; exact Nat.lt_add_right _ hq1l) hqb,List.getElem?_append_left hq1l]; exact hq1
   have hvq':=hown'.cells
   have hvq1:=hvq'.1
   have hvq2:=hvq'.2
   have hwr:=wr_obj hq2 (k:=9) (x:=vq') (by rw [rowQ_len _ _ _ _ _ rfl]; decide) hvq2
   rw [rowQ_set9] at hwr
   simp -implicitDefEqProofs only [xl,x11,x67,x68,x69,x16,hw,hq9,hb25,↓hvc1,↓hvq1,↓callA_append,happ,st25,hwr,r5,↓evLd,nck,↓cbT,↓cbF,↓evDn,evUp,eu,sevalprocAttr]
   generalize hX':EvC Tryz.prog C0 W0 _ _ _=Z
   refine key _ _ _ hX' ?_
   refine ⟨by first | exact xl | simp only [List.length_set,xl],Aj4 (by simp only [xl,x11,x67,x68,x69,gB,and_self,sevalprocAttr]) (⟨⟨?_,?_⟩,vq',?_,prq++[(xs,v)],?_,?_,?_⟩)⟩
   · rw [List.length_set]; rw [List.length_append] at hll; exact Nat.le_trans (Nat.le_trans hX5.1 hA1.len) (Nat.le_trans (Nat.le_add_right _ _) hll)
   · intro b hb hne
     have hbK:b < K.length:=Nat.lt_of_lt_of_le hb hX5.1
     rw [List.getElem?_set_ne (Ne.symm hne),hsame b (by rw [List.length_append]; exact Nat.lt_add_right _ (Nat.lt_of_lt_of_le hbK hA1.len)) (fun e=>by have:=(own_blk hoq e).1; omega),List.getElem?_append_left (Nat.lt_of_lt_of_le hbK hA1.len),hA1 b hbK]
     exact hX5.2 b hb hne
   · rw [List.getElem?_set_self (lt_of_get hq2)]
   · rw [List.map_append,hprq,ht]; rfl
   · rw [List.map_append]
     exact hown'.other fun b k e l c x hv=>List.getElem?_set_ne (fun h=>by have:=(own_blk hown' (i:=b) (by rw [hv]; rfl)).1; omega)
   · have hgv:∀ b o,b∉D->blkO vq≠some b->b < K1.length+1->(K1++[AObj.cells [v] 31])[b]? =some o->(killD D (killV vq' (K2.set q (.cells (rowQ cv mv vq' av f rc0 0) 71))))[b]? =some o:=fun b o hbD hbv hbl hbo=>by
       rw [killD_get D _ b hbD,killV_get,List.getElem?_set_ne (fun e=>hbD (by rw [<-e]; exact hqD)),hsame b (by rw [List.length_append]; exact hbl) hbv]
       · exact hbo
       · intro e
         rcases hblk b e with h | h
         · exact hbv h
         · rw [List.length_append] at h; exact absurd hbl (Nat.not_lt.2 h)
     intro p hp
     rcases List.mem_append.1 hp with h | h
     · refine (hitq p h).sub fun b o hb ho=>?_
       have hbD:b∉D:=fun h=>(killD_gone D (killV vq K) b h).ne hb ho rfl
       rw [killD_get D _ b hbD] at hb
       have hbv:blkO vq≠some b:=fun e=>(killV_gone (K:=K) e).ne hb ho rfl
       rw [killV_get hbv] at hb
       have hbK:=lt_of_get hb
       exact hgv b o hbD hbv (Nat.lt_of_lt_of_le hbK (Nat.le_trans hA1.len (Nat.le_succ _))) (by rw [List.getElem?_append_left (Nat.lt_of_lt_of_le hbK hA1.len)]; exact hA1.get hb)
     · rw [List.mem_singleton] at h
       subst h
       obtain ⟨_,n1,n2,n3,n4⟩:=hxs
       have hov2:Own K.length (killD D (killV vq' (K2.set q (.cells (rowQ cv mv vq' av f rc0 0) 71)))) 9 34 v (pri.map xrow).flatten:=hov.other fun b k e l c x hv=>by
         have hb:=own_blk hov (i:=b) (by rw [hv]; rfl)
         have hbo:=List.getElem?_eq_getElem hb.2
         rw [hbo]
         exact hgv b _ (fun h=>by have:=hDl b h; have:=hX5.1; omega) (fun e=>by have:=(own_blk hoq e).2; omega) (Nat.lt_succ_of_lt hb.2) (by rw [List.getElem?_append_left hb.2]; exact hbo)
       refine ⟨⟨pri,hpri,?_,fun p hp=>(hargs p hp).sub fun b o hb ho=>?_⟩,n1,n2,n3,n4⟩
       · exact Own.slsG ix31T (by decide) hov2 (xrow_len pri)
       · have hbD:b∉dV vq D:=fun h=>(killD_gone _ (killV v K1) b h).ne hb ho rfl
         rw [killD_get _ _ b hbD] at hb
         have hbv:blkO v≠some b:=fun e=>(killV_gone (K:=K1) e).ne hb ho rfl
         rw [killV_get hbv] at hb
         have hbl:=lt_of_get hb
         exact hgv b o (fun h=>hbD (dV_mem.2 (.inr h))) (fun e=>hbD (dV_mem.2 (.inl e))) (Nat.lt_succ_of_lt hbl) (by rw [List.getElem?_append_left hbl]; exact hb)
theorem new_str' {H K5:AH} {ss:List (List Itm)} {vs cv mv av:AV} {f:Con} {q:Nat} {D:List Nat} {tm:List AV} {K:AH} {Z:Option (AExit × St)} (hX:EvC Tryz.prog C0 W0 pl10 l10_2 (tm,K)=Z) (hH:Agree H K5) (hHq:H.length<=q) (hq5:q < K5.length) (hs:StrsR H ss vs) (hn4:ss.length<=4) (hxl:∀ xs∈ss,xs.length<=1000/\∀ x∈xs,x.args.length<=1000) (hqD:q∈D) (hDl:∀ d∈D,d < K5.length) (hN:ss.length < 2 ^ 60) (hI:tm.length=100/\tm.getD 11 uA=.ptr q 0/\tm.getD 67 uA=vs/\tm.getD 68 uA=I ss.length/\tm.getD 69 uA=I ((0:Nat):Int)/\StrInv D K5 K q cv mv av f ss 0) :
   ∃ X K1,Z=some (.exit 2,(X,K1))/\(X.length=100/\X.getD 11 uA=.ptr q 0/\X.getD 67 uA=vs/\X.getD 68 uA=I ss.length/\X.getD 69 uA=I ((ss.length:Nat):Int)/\StrInv D K5 K1 q cv mv av f ss ss.length):=by
 subst hX
 exact new_str hH hHq hq5 hs hn4 hxl hqD hDl hN (ss.length) 0 tm K (by omega) (by omega) hI
theorem lkK {K:AH} {m:Nat} {l:List ByteArray} (h:K[m]? =some (.map (strE l) l.length)) (s:ByteArray) (L:AH):lookupA Tryz.prog 172 (.map m) (.str s) false (K++L)=some (.bool (sIn l s)):=
 lk172 ((Agree.app K L).get h) s
theorem mpK {K:AH} {m:Nat} {l:List ByteArray} (h:K[m]? =some (.map (strE l) l.length)) {s:ByteArray} (hc:sIn l s=false) (L:AH):mapPutA Tryz.prog 172 (.map m) (.str s) (.bool true) (K++L)=some (K.set m (.map (strE (l++[s])) (l++[s]).length)++L):=by
 rw [mp172 ((Agree.app K L).get h) hc,List.set_append_left _ _ (lt_of_get h)]
theorem set_map {K:AH} {m:Nat} {o:AObj} (h:K[m]? =some o) (x:AObj) (L:AH):(K.set m x++L)[m]? =some x:=by
 have hl:=lt_of_get h
 rw [List.getElem?_append_left (by rw [List.length_set]; exact hl),List.getElem?_set_self hl]
def pNs (c:Cod):List ByteArray:=c.params.map (·.name)
def sNs (c:Cod):List ByteArray:=c.shared.map (·.name)
def nmAt (l:List ByteArray) (j:Nat):ByteArray:=l.getD j eS
def szAt (c:Cod) (j:Nat):Int:=match c.shared[j]? with
 | some a=>a.size
 | none=>0
def parF (c:Cod) (j:Nat):Bool:=nameP (nmAt (pNs c) j) && !sIn ((pNs c).take j) (nmAt (pNs c) j)
def shrF (c:Cod) (j:Nat):Bool:=nameP (nmAt (sNs c) j) && !sIn (pNs c++(sNs c).take j) (nmAt (sNs c) j) && !ltB (szAt c j) 1 && !ltB 64 (szAt c j)
theorem take_snoc {l:List ByteArray} {j:Nat} (h:j < l.length):l.take (j+1)=l.take j++[nmAt l j]:=by
 unfold nmAt
 rw [List.take_add_one,gde,List.getElem?_eq_getElem h]; rfl
theorem nmP {c:Cod} {j:Nat} (h:j < c.params.length):nmAt (pNs c) j=(c.params[j]'h).name:=by
 unfold nmAt pNs
 rw [gde,List.getElem?_map,List.getElem?_eq_getElem h]; rfl
theorem nmS {c:Cod} {j:Nat} (h:j < c.shared.length):nmAt (sNs c) j=(c.shared[j]'h).name:=by
 unfold nmAt sNs
 rw [gde,List.getElem?_map,List.getElem?_eq_getElem h]; rfl
theorem szS {c:Cod} {j:Nat} (h:j < c.shared.length):szAt c j=(c.shared[j]'h).size:=by
 unfold szAt
 rw [List.getElem?_eq_getElem h]
theorem shr_at {H K:AH} {c:Cod} {vp vs vi:AV} (h:CodR H c vp vs vi) (hA:Agree H K) {j:Nat} (hj:j < c.shared.length):∃ i k,(∀ kk,indexAddrA Tryz.prog 63 vs (.int kk (j:Int))=some (.ptr i k))/\(∀ L,rdCells (K++L) i k 1=some [.str (nmAt (sNs c) j)])/\(∀ L,rdCells (K++L) i (k+1) 1=some [I (szAt c j)])/\(∀ L,rdCells (K++L) i k 2=some [.str (nmAt (sNs c) j),I (szAt c j)]):=by
 obtain ⟨i,k,hi,hr⟩:=h.s.ix j (rowA (c.shared[j]'hj)) (by rw [List.getElem?_map,List.getElem?_eq_getElem hj]; rfl)
 rw [nmS hj,szS hj]
 exact ⟨i,k,hi,fun L=>row_0 hr hA L rfl,fun L=>row_c hr hA L 1 rfl,fun L=>row_rd hr hA L⟩
theorem prn_at {H K:AH} {c:Cod} {vp vs vi:AV} (h:CodR H c vp vs vi) (hA:Agree H K) {j:Nat} (hj:j < c.params.length):∃ i k b,(∀ kk,indexAddrA Tryz.prog 62 vp (.int kk (j:Int))=some (.ptr i k))/\(∀ L,rdCells (K++L) i k 1=some [.str (nmAt (pNs c) j)])/\(∀ L,rdCells (K++L) i k 2=some [.str (nmAt (pNs c) j),.bool b]):=by
 obtain ⟨i,k,hi,hr⟩:=h.p.ix j (rowP (c.params[j]'hj)) (by rw [List.getElem?_map,List.getElem?_eq_getElem hj]; rfl)
 rw [nmP hj]
 exact ⟨i,k,_,hi,fun L=>row_0 hr hA L rfl,fun L=>row_rd hr hA L⟩
theorem nmP_sz {H:AH} {c:Cod} {vp vs vi:AV} (h:CodR H c vp vs vi) {j:Nat} (hj:j < c.params.length):(nmAt (pNs c) j).size < 2 ^ 60:=by rw [nmP hj]; exact h.pn _ (List.getElem_mem _)
theorem nmS_sz {H:AH} {c:Cod} {vp vs vi:AV} (h:CodR H c vp vs vi) {j:Nat} (hj:j < c.shared.length):(nmAt (sNs c) j).size < 2 ^ 60:=by rw [nmS hj]; exact h.sn _ (List.getElem_mem _)
theorem pNs_len (c:Cod):(pNs c).length=c.params.length:=by unfold pNs; rw [List.length_map]
theorem sNs_len (c:Cod):(sNs c).length=c.shared.length:=by unfold sNs; rw [List.length_map]
theorem head_pl {G:AH} {c:Cod} {vp vs vi:AV} {q:Nat} (h:CodR G c vp vs vi) {m:Nat} (hm:G.length<=m) (hN:c.params.length < 2 ^ 60):∀ (d j:Nat) (tm:List AV) (K:AH),c.params.length - j=d->j<=c.params.length->Agree G K->tm.length=87->K[m]? =some (.map (strE ((pNs c).take j)) ((pNs c).take j).length)->tm.getD 1 uA=.ptr q 0->tm.getD 3 uA=.map m->tm.getD 36 uA=vp->tm.getD 37 uA=I c.params.length->tm.getD 38 uA=I ((j:Nat):Int) ->
   ∃ X Y K1 K2,EvC Tryz.prog C0 W0 plN l86_0 (tm,K)=br (allF (fun j=>parF c j) (c.params.length) (j)) (some (.exit 0,(X,K1))) (some (.ret,(Y,K2)))/\(X.length=87/\Agree G K1/\(allF (fun j=>parF c j) (c.params.length) (j)=true->K1[m]? =some (.map (strE ((pNs c).take c.params.length)) ((pNs c).take c.params.length).length))/\X.getD 1 uA=.ptr q 0/\X.getD 3 uA=.map m/\X.getD 36 uA=vp/\X.getD 37 uA=I c.params.length)/\Y.length=87/\Y.getD 2 uA=.bool false:=by
 intro d
 induction d with
 | zero =>
   intro j tm K hd hj hA hlen hI h1 h3 h36 h37 h38
   have hjl:j=c.params.length:=by omega
   subst hjl
   have hlt:ltB (((c.params.length:Nat)):Int) (c.params.length:Nat)=false:=ltB_f (by omega)
   rw [allF_end (Nat.le_refl _),el86_0]
   simp (maxSteps:=4000000) -implicitDefEqProofs only [b86_0,Tryz.f86,aP,hlen,h1,h3,h36,h37,h38,hlt,↓evDn,evUp,eu,sevalprocAttr]
   exact ⟨_,tm.set 2 (.bool false),_,K,rfl,⟨by first | exact hlen | simp only [List.length_set,hlen],hA,by first | exact hI | exact fun _=>hI,by first | exact h1 | simp only [hlen,h1,gB,sevalprocAttr],by first | exact h3 | simp only [hlen,h3,gB,sevalprocAttr],by first | exact h36 | simp only [hlen,h36,gB,sevalprocAttr],by first | exact h37 | simp only [hlen,h37,gB,sevalprocAttr]⟩,by simp only [ls,hlen],by simp only [hlen,gs_self,Nat.reduceLT]⟩
 | succ d ih =>
   intro j tm K hd hj hA hlen hI h1 h3 h36 h37 h38
   have hjN:j < c.params.length:=by omega
   have hlt:ltB (j:Int) (c.params.length:Nat)=true:=ltB_t (by omega)
   have hw:=inc_i (j:=j) (by omega)
   have hnz:=nmP_sz h hjN
   obtain ⟨i,k,b,hix,hrd0,hrd2⟩:=prn_at h hA hjN
   have hlk:=lkK hI (nmAt (pNs c) j)
   have h104:=fun L=>ev104 hnz L
   have hts:=take_snoc (l:=pNs c) (j:=j) (by rw [pNs_len]; exact hjN)
   rw [allF_step hjN,el86_0]
   rw [<-List.append_nil K]
   cases hp:(parF c j) with
   | true =>
     unfold parF at hp
     rw [Bool.and_eq_true,Bool.not_eq_true'] at hp
     obtain ⟨hp1,hp2⟩:=hp
     have hmp:=mpK hI hp2
     simp only [Bool.true_and]
     simp (maxSteps:=4000000) -implicitDefEqProofs only [b86_0,Tryz.f86,aP,hlen,h1,h3,h36,h37,h38,hlt,hw,hix,hrd0,hrd2,hlk,↓fc104,h104,z74,st74,rowP,↓evLd,hp1,hp2,hmp,↓evDn,evUp,eu,sevalprocAttr]
     exact ih (j+1) _ _ (by omega) (by omega) (by first | exact hA | exact hA.appR _ | exact (hA.appR _).appR _ | exact (hA.setR hm _).appR _) (by simp only [ls,hlen]) (by rw [hts]; first | exact set_map hI _ _ | exact set_map hI _ []) (by simp only [hlen,h1,gB,sevalprocAttr]) (by simp only [hlen,h3,gB,sevalprocAttr]) (by simp only [hlen,h36,gB,sevalprocAttr]) (by simp only [hlen,h37,gB,sevalprocAttr]) (by simp only [hlen,h38,gB,sevalprocAttr])
   | false =>
     simp only [Bool.false_and]
     unfold parF at hp
     cases hp1:nameP (nmAt (pNs c) j) with
     | false =>
       simp (maxSteps:=4000000) -implicitDefEqProofs only [b86_0,Tryz.f86,aP,hlen,h1,h3,h36,h37,h38,hlt,hw,hix,hrd0,hrd2,hlk,↓fc104,h104,z74,st74,rowP,↓evLd,hp1,↓evDn,evUp,eu,sevalprocAttr]
       exact ⟨tm,_,K,_,rfl,⟨hlen,hA,by first | exact trivial | (intro h; cases h),h1,h3,h36,h37⟩,by simp only [ls,hlen],by simp only [hlen,gB,sevalprocAttr]⟩
     | true =>
       rw [hp1,Bool.true_and,Bool.not_eq_false'] at hp
       simp (maxSteps:=4000000) -implicitDefEqProofs only [b86_0,Tryz.f86,aP,hlen,h1,h3,h36,h37,h38,hlt,hw,hix,hrd0,hrd2,hlk,↓fc104,h104,z74,st74,rowP,↓evLd,hp1,hp,↓evDn,evUp,eu,sevalprocAttr]
       exact ⟨tm,_,K,_,rfl,⟨hlen,hA,by first | exact trivial | (intro h; cases h),h1,h3,h36,h37⟩,by simp only [ls,hlen],by simp only [hlen,gB,sevalprocAttr]⟩
theorem head_pl' {G:AH} {c:Cod} {vp vs vi:AV} {q:Nat} {tm:List AV} {K:AH} {Z:Option (AExit × St)} (hX:EvC Tryz.prog C0 W0 plN l86_0 (tm,K)=Z) (h:CodR G c vp vs vi) {m:Nat} (hm:G.length<=m) (hN:c.params.length < 2 ^ 60) (hA:Agree G K) (hlen:tm.length=87) (hI:K[m]? =some (.map (strE ((pNs c).take 0)) ((pNs c).take 0).length)) (h1:tm.getD 1 uA=.ptr q 0) (h3:tm.getD 3 uA=.map m) (h36:tm.getD 36 uA=vp) (h37:tm.getD 37 uA=I c.params.length) (h38:tm.getD 38 uA=I ((0:Nat):Int)) :
   ∃ X Y K1 K2,Z=br (allF (fun j=>parF c j) (c.params.length) (0)) (some (.exit 0,(X,K1))) (some (.ret,(Y,K2)))/\(X.length=87/\Agree G K1/\(allF (fun j=>parF c j) (c.params.length) (0)=true->K1[m]? =some (.map (strE ((pNs c).take c.params.length)) ((pNs c).take c.params.length).length))/\X.getD 1 uA=.ptr q 0/\X.getD 3 uA=.map m/\X.getD 36 uA=vp/\X.getD 37 uA=I c.params.length)/\Y.length=87/\Y.getD 2 uA=.bool false:=by
 subst hX
 exact head_pl h hm hN (c.params.length) 0 tm K (by omega) (by omega) hA hlen hI h1 h3 h36 h37 h38
theorem head_sl {G:AH} {c:Cod} {vp vs vi:AV} (h:CodR G c vp vs vi) {m:Nat} (hm:G.length<=m) (hN:c.shared.length < 2 ^ 60):∀ (d j:Nat) (tm:List AV) (K:AH),c.shared.length - j=d->j<=c.shared.length->Agree G K->tm.length=87->K[m]? =some (.map (strE (pNs c++(sNs c).take j)) (pNs c++(sNs c).take j).length)->tm.getD 3 uA=.map m->tm.getD 57 uA=vs->tm.getD 58 uA=I c.shared.length->tm.getD 59 uA=I ((j:Nat):Int) ->
   ∃ X Y K1 K2,EvC Tryz.prog C0 W0 plN l86_1 (tm,K)=br (allF (fun j=>shrF c j) (c.shared.length) (j)) (some (.exit 2,(X,K1))) (some (.ret,(Y,K2)))/\(X.length=87/\Agree G K1/\(allF (fun j=>shrF c j) (c.shared.length) (j)=true->K1[m]? =some (.map (strE (pNs c++(sNs c).take c.shared.length)) (pNs c++(sNs c).take c.shared.length).length))/\X.getD 3 uA=.map m/\X.getD 57 uA=vs/\X.getD 58 uA=I c.shared.length)/\Y.length=87/\Y.getD 2 uA=.bool false:=by
 intro d
 induction d with
 | zero =>
   intro j tm K hd hj hA hlen hI h3 h57 h58 h59
   have hjl:j=c.shared.length:=by omega
   subst hjl
   have hlt:ltB (((c.shared.length:Nat)):Int) (c.shared.length:Nat)=false:=ltB_f (by omega)
   rw [allF_end (Nat.le_refl _),el86_1]
   simp (maxSteps:=4000000) -implicitDefEqProofs only [b86_1,Tryz.f86,aP,hlen,h3,h57,h58,h59,hlt,↓evDn,evUp,eu,sevalprocAttr]
   exact ⟨_,tm.set 2 (.bool false),_,K,rfl,⟨by first | exact hlen | simp only [List.length_set,hlen],hA,by first | exact hI | exact fun _=>hI,by first | exact h3 | simp only [hlen,h3,gB,sevalprocAttr],by first | exact h57 | simp only [hlen,h57,gB,sevalprocAttr],by first | exact h58 | simp only [hlen,h58,gB,sevalprocAttr]⟩,by simp only [ls,hlen],by simp only [hlen,gs_self,Nat.reduceLT]⟩
 | succ d ih =>
   intro j tm K hd hj hA hlen hI h3 h57 h58 h59
   have hjN:j < c.shared.length:=by omega
   have hlt:ltB (j:Int) (c.shared.length:Nat)=true:=ltB_t (by omega)
   have hw:=inc_i (j:=j) (by omega)
   have hnz:=nmS_sz h hjN
   obtain ⟨i,k,hix,hrd0,hrd1,hrd2⟩:=shr_at h hA hjN
   have hlk:=lkK hI (nmAt (sNs c) j)
   have h104:=fun L=>ev104 hnz L
   have hts:=take_snoc (l:=sNs c) (j:=j) (by rw [sNs_len]; exact hjN)
   rw [allF_step hjN,el86_1]
   rw [<-List.append_nil K]
   cases hp:(shrF c j) with
   | true =>
     unfold shrF at hp
     rw [Bool.and_eq_true,Bool.and_eq_true,Bool.and_eq_true,Bool.not_eq_true',Bool.not_eq_true',Bool.not_eq_true'] at hp
     obtain ⟨⟨⟨hp1,hp2⟩,hp3⟩,hp4⟩:=hp
     have hmp:=mpK hI hp2
     simp only [Bool.true_and]
     simp (maxSteps:=4000000) -implicitDefEqProofs only [b86_1,Tryz.f86,aP,hlen,h3,h57,h58,h59,hlt,hw,hix,hrd0,hrd1,hrd2,hlk,↓fc104,h104,z77,st77,rowA,↓evLd,hp1,hp2,hp3,hp4,hmp,↓evDn,evUp,eu,sevalprocAttr]
     exact ih (j+1) _ _ (by omega) (by omega) (by first | exact hA | exact hA.appR _ | exact (hA.appR _).appR _ | exact (hA.setR hm _).appR _) (by simp only [ls,hlen]) (by rw [hts,<-List.append_assoc]; first | exact set_map hI _ _ | exact set_map hI _ []) (by simp only [hlen,h3,gB,sevalprocAttr]) (by simp only [hlen,h57,gB,sevalprocAttr]) (by simp only [hlen,h58,gB,sevalprocAttr]) (by simp only [hlen,h59,gB,sevalprocAttr])
   | false =>
     simp only [Bool.false_and]
     unfold shrF at hp
     cases hp1:nameP (nmAt (sNs c) j) with
     | false =>
       simp (maxSteps:=4000000) -implicitDefEqProofs only [b86_1,Tryz.f86,aP,hlen,h3,h57,h58,h59,hlt,hw,hix,hrd0,hrd1,hrd2,hlk,↓fc104,h104,z77,st77,rowA,↓evLd,hp1,↓evDn,evUp,eu,sevalprocAttr]
       exact ⟨tm,_,K,_,rfl,⟨hlen,hA,by first | exact trivial | (intro h; cases h),h3,h57,h58⟩,by simp only [ls,hlen],by simp only [hlen,gB,sevalprocAttr]⟩
     | true =>
       cases hp2:sIn (pNs c++(sNs c).take j) (nmAt (sNs c) j) with
       | true =>
         simp (maxSteps:=4000000) -implicitDefEqProofs only [b86_1,Tryz.f86,aP,hlen,h3,h57,h58,h59,hlt,hw,hix,hrd0,hrd1,hrd2,hlk,↓fc104,h104,z77,st77,rowA,↓evLd,hp1,hp2,↓evDn,evUp,eu,sevalprocAttr]
         exact ⟨tm,_,K,_,rfl,⟨hlen,hA,by first | exact trivial | (intro h; cases h),h3,h57,h58⟩,by simp only [ls,hlen],by simp only [hlen,gB,sevalprocAttr]⟩
       | false =>
         cases hp3:ltB (szAt c j) 1 with
         | true =>
           simp (maxSteps:=4000000) -implicitDefEqProofs only [b86_1,Tryz.f86,aP,hlen,h3,h57,h58,h59,hlt,hw,hix,hrd0,hrd1,hrd2,hlk,↓fc104,h104,z77,st77,rowA,↓evLd,hp1,hp2,hp3,↓evDn,evUp,eu,sevalprocAttr]
           exact ⟨tm,_,K,_,rfl,⟨hlen,hA,by first | exact trivial | (intro h; cases h),h3,h57,h58⟩,by simp only [ls,hlen],by simp only [hlen,gB,sevalprocAttr]⟩
         | false =>
           rw [hp1,hp2,hp3] at hp
           have hp4:ltB 64 (szAt c j)=true:=by simpa using hp
           simp (maxSteps:=4000000) -implicitDefEqProofs only [b86_1,Tryz.f86,aP,hlen,h3,h57,h58,h59,hlt,hw,hix,hrd0,hrd1,hrd2,hlk,↓fc104,h104,z77,st77,rowA,↓evLd,hp1,hp2,hp3,hp4,↓evDn,evUp,eu,sevalprocAttr]
           exact ⟨tm,_,K,_,rfl,⟨hlen,hA,by first | exact trivial | (intro h; cases h),h3,h57,h58⟩,by simp only [ls,hlen],by simp only [hlen,gB,sevalprocAttr]⟩
theorem head_sl' {G:AH} {c:Cod} {vp vs vi:AV} {tm:List AV} {K:AH} {Z:Option (AExit × St)} (hX:EvC Tryz.prog C0 W0 plN l86_1 (tm,K)=Z) (h:CodR G c vp vs vi) {m:Nat} (hm:G.length<=m) (hN:c.shared.length < 2 ^ 60) (hA:Agree G K) (hlen:tm.length=87) (hI:K[m]? =some (.map (strE (pNs c++(sNs c).take 0)) (pNs c++(sNs c).take 0).length)) (h3:tm.getD 3 uA=.map m) (h57:tm.getD 57 uA=vs) (h58:tm.getD 58 uA=I c.shared.length) (h59:tm.getD 59 uA=I ((0:Nat):Int)) :
   ∃ X Y K1 K2,Z=br (allF (fun j=>shrF c j) (c.shared.length) (0)) (some (.exit 2,(X,K1))) (some (.ret,(Y,K2)))/\(X.length=87/\Agree G K1/\(allF (fun j=>shrF c j) (c.shared.length) (0)=true->K1[m]? =some (.map (strE (pNs c++(sNs c).take c.shared.length)) (pNs c++(sNs c).take c.shared.length).length))/\X.getD 3 uA=.map m/\X.getD 57 uA=vs/\X.getD 58 uA=I c.shared.length)/\Y.length=87/\Y.getD 2 uA=.bool false:=by
 subst hX
 exact head_sl h hm hN (c.shared.length) 0 tm K (by omega) (by omega) hA hlen hI h3 h57 h58 h59
def headP (c:Cod):Bool:=nameP c.name && !ltB 6 (c.params.length:Int) && !ltB 4 (c.shared.length:Int) && !ltB c.loc 0 && !ltB 64 c.loc && allF (fun j=>parF c j) c.params.length 0 && allF (fun j=>shrF c j) c.shared.length 0
theorem box_rd {G K L:AH} {cs:List AV} {e:TypeId} (hA:Agree (G++[.cells cs e]) K) (k n:Nat):rdCells (K++L) G.length k n=if k+n<=cs.length then some ((cs.drop k).take n) else none:=by
 refine obj_rd (e:=e) (hA.get (i:=G.length) (o:=.cells cs e) ?_) L k n
 rw [List.getElem?_append_right (Nat.le_refl _),Nat.sub_self]; rfl
theorem ev86 {H:AH} {c:Cod} {vp vs vi:AV} (h:CodR H c vp vs vi):Ev Tryz.prog C0 W0 86 [.agg (rowC c vp vs vi)] H=some (.bool (headP c),H):=by
 obtain ⟨tm,ht,g0,g1⟩:=tm1 (.agg (rowC c vp vs vi)) 87 (by decide)
 rw [fe86,ht]
 rw [<-List.append_nil (ro H)]
 unfold headP
 have hlp:=h.ro.lp
 have hls:=h.ro.ls
 have h104:=fun L=>ev104 h.nm L
 cases h0:nameP c.name with
 | false=>simp (maxSteps:=4000000) -implicitDefEqProofs only [c86,Tryz.f86,aP,g0,g1,hlp,hls,↓fc104,h104,r5,↓evLd,h0,↓evDn,evUp,eu,sevalprocAttr]
 | true =>
   cases h1:ltB 6 (c.params.length:Int) with
   | true=>simp (maxSteps:=4000000) -implicitDefEqProofs only [c86,Tryz.f86,aP,g0,g1,hlp,hls,↓fc104,h104,r5,↓evLd,h0,h1,↓evDn,evUp,eu,sevalprocAttr]
   | false =>
     cases h2:ltB 4 (c.shared.length:Int) with
     | true=>simp (maxSteps:=4000000) -implicitDefEqProofs only [c86,Tryz.f86,aP,g0,g1,hlp,hls,↓fc104,h104,r5,↓evLd,h0,h1,h2,↓evDn,evUp,eu,sevalprocAttr]
     | false =>
       cases h3:ltB c.loc 0 with
       | true=>simp (maxSteps:=4000000) -implicitDefEqProofs only [c86,Tryz.f86,aP,g0,g1,hlp,hls,↓fc104,h104,r5,↓evLd,h0,h1,h2,h3,↓evDn,evUp,eu,sevalprocAttr]
       | false =>
         cases h4:ltB 64 c.loc with
         | true=>simp (maxSteps:=4000000) -implicitDefEqProofs only [c86,Tryz.f86,aP,g0,g1,hlp,hls,↓fc104,h104,r5,↓evLd,h0,h1,h2,h3,h4,↓evDn,evUp,eu,sevalprocAttr]
         | false =>
           simp (maxSteps:=4000000) -implicitDefEqProofs only [c86,Tryz.f86,aP,g0,g1,hlp,hls,↓fc104,h104,r5,↓evLd,h0,h1,h2,h3,h4,↓evDn,evUp,eu,sevalprocAttr]
           have hG:Agree (ro H++[AObj.cells (rowC c vp vs vi) 66]) (ro H++[AObj.cells (rowC c vp vs vi) 66,AObj.map [] 0]):=by
             have:=Agree.app (ro H++[AObj.cells (rowC c vp vs vi) 66]) [AObj.map [] 0]
             rwa [List.append_assoc] at this
           have hR:=h.ro.agree (Agree.app (ro H) [AObj.cells (rowC c vp vs vi) 66])
           have hm:(ro H++[AObj.cells (rowC c vp vs vi) 66]).length<=(ro H).length+1:=by rw [List.length_append]; exact Nat.le_refl _
           have hI0:(ro H++[AObj.cells (rowC c vp vs vi) 66,AObj.map [] 0])[(ro H).length+1]? =some (.map (strE ((pNs c).take 0)) ((pNs c).take 0).length):=by
             rw [List.getElem?_append_right (Nat.le_add_right _ _),Nat.add_sub_cancel_left]; rfl
           generalize hX:EvC Tryz.prog C0 W0 _ (Code.loop _) _=Z
           obtain ⟨X,Y,K1,K2,he,xs,y0,y1⟩:=head_pl' (q:=(ro H).length) hX hR hm (Nat.lt_trans h.np (by decide)) (hG) (by simp only [ls,g0]) hI0 (by simp only [g0,gB,sevalprocAttr]; try rfl) (by simp only [g0,gB,sevalprocAttr]; try rfl) (by simp only [g0,gB,sevalprocAttr]; try rfl) (by simp only [g0,gB,sevalprocAttr]; try rfl) (by simp only [g0,gB,sevalprocAttr]; try rfl)
           subst he
           cases hf:allF (fun j=>parF c j) c.params.length 0 with
           | false=>simp (maxSteps:=4000000) -implicitDefEqProofs only [xs.1,y0,y1,hf,↓evDn,evUp,eu,sevalprocAttr]
           | true =>
             have hI1:=xs.2.2.1 hf
             rw [List.take_of_length_le (by rw [pNs_len]; exact Nat.le_refl _)] at hI1
             have hb:=fun k n=>box_rd (L:=[]) xs.2.1 k n
             simp only [List.append_nil] at hb
             obtain ⟨x0,xA,xI,x1,x3,x4,x5⟩:=xs
             have hI2:K1[(ro H).length+1]? =some (.map (strE (pNs c++(sNs c).take 0)) (pNs c++(sNs c).take 0).length):=by rw [List.take_zero,List.append_nil]; exact hI1
             simp (maxSteps:=4000000) -implicitDefEqProofs only [aP,hf,x0,x1,x3,hb,hls,r5,↓evLd,↓evDn,evUp,eu,sevalprocAttr]
             generalize hX:EvC Tryz.prog C0 W0 _ (Code.loop _) _=Z
             obtain ⟨X2,Y2,K3,K4,he,xs,z0,z1⟩:=head_sl'  hX hR hm (Nat.lt_trans h.ns (by decide)) (xA) (by simp only [ls,x0]) hI2 (by simp only [x0,x3,gB,sevalprocAttr]; try rfl) (by simp only [x0,gB,sevalprocAttr]; try rfl) (by simp only [x0,gB,sevalprocAttr]; try rfl) (by simp only [x0,gB,sevalprocAttr]; try rfl)
             subst he
             cases hf2:allF (fun j=>shrF c j) c.shared.length 0 with
             | false=>simp (maxSteps:=4000000) -implicitDefEqProofs only [xs.1,z0,z1,hf2,↓evDn,evUp,eu,sevalprocAttr]
             | true=>simp (maxSteps:=4000000) -implicitDefEqProofs only [xs.1,z0,z1,hf2,↓evDn,evUp,eu,sevalprocAttr]
theorem wr_fullA (H A:AH) (n:Nat) (L:AH) (cs vs:List AV) (e:TypeId) (hn:A.length=n) (hl:vs.length=cs.length) (ho:vs.all AV.one=true):wrCells (H++(A++.cells cs e::L)) (H.length+n) 0 vs=some (H++(A++.cells vs e::L)):=by
 subst hn
 rw [<-List.append_assoc,<-List.append_assoc,<-List.length_append]
 exact wr_full (H++A) L cs vs e hl ho
theorem ev88 {H:AH} {c:Cod} {vp vs vi:AV} (h:CodR H c vp vs vi) {x:Ins} (hx:i32R x.imm):Ev Tryz.prog C0 W0 88 [.agg (rowC c vp vs vi),.agg (rowI x),.agg kindsCs] H=some (.bool (insP c x),H):=by
 obtain ⟨tm,ht,g0,g1,g2,g3⟩:=tm3 (.agg (rowC c vp vs vi)) (.agg (rowI x)) (.agg kindsCs) 93 (by decide)
 rw [fe88,ht]
 rw [<-List.append_nil (ro H)]
 obtain ⟨kind,op,d,a,b,imm,to,join⟩:=x
 unfold insP
 simp only at hx ⊢
 have hli:=h.ro.li
 have hib:=h.ni
 have hwi:IntKind.i64.wrap ((c.insns.length:Int)+1)=(c.insns.length:Int)+1:=wr_i (by omega)
 have h107:=fun L fd fa fb far ff fbr fl fp fw ft fj fo=>ev107 (h.ro.agree (Agree.app _ L)) fd fa fb far ff fbr fl fp fw ft fj fo hx
 simp only [rowC] at h107
 cases h0:leB 0 kind with
 | false =>
   have h0':ltB kind 0=true:=by rw [ltB_iff]; rw [leB_iff0] at h0; exact h0
   simp (maxSteps:=4000000) -implicitDefEqProofs only [c88,Tryz.f88,aP,g0,g1,g2,g3,hli,r5,↓evLd,fa152_0,fa152_1,fa152_2,fa152_3,fa152_4,fa152_5,fa152_6,fa152_7,fa152_8,fa152_9,fa152_10,fa152_11,h0',↓evDn,evUp,eu,sevalprocAttr]
 | true =>
   have h0':ltB kind 0=false:=by rw [ltB_iff0]; rw [leB_iff] at h0; exact h0
   cases h1:ltB kind 16 with
   | false =>
     have h1':leB 16 kind=true:=by rw [leB_iff]; rw [ltB_iff0] at h1; exact h1
     simp (maxSteps:=4000000) -implicitDefEqProofs only [c88,Tryz.f88,aP,g0,g1,g2,g3,hli,r5,↓evLd,fa152_0,fa152_1,fa152_2,fa152_3,fa152_4,fa152_5,fa152_6,fa152_7,fa152_8,fa152_9,fa152_10,fa152_11,h0',h1',↓evDn,evUp,eu,sevalprocAttr]
   | true =>
     have h1':leB 16 kind=false:=by rw [leB_iff0]; rw [ltB_iff] at h1; exact h1
     rw [leB_iff] at h0
     rw [ltB_iff] at h1
     obtain ⟨j,rfl⟩:∃ j:Nat,kind=j:=⟨kind.toNat,by omega⟩
     have hj:j < 16:=by omega
     have hjj:((0:Int)<=(j:Int)/\(j:Int) < 16)=True:=eq_true (by omega)
     have hkr:=fun A B L=>kinds_rd (ro H) L A B hj
     simp only [rowK] at hkr
     cases hF:kFold j with
     | true =>
       cases hf:foldP op with
       | false=>simp (maxSteps:=4000000) -implicitDefEqProofs only [c88,Tryz.f88,aP,g0,g1,g2,g3,hli,r5,↓evLd,fa152_0,fa152_1,fa152_2,fa152_3,fa152_4,fa152_5,fa152_6,fa152_7,fa152_8,fa152_9,fa152_10,fa152_11,h0',h1',hjj,hkr,ia153,z152,st152,↓fc105,ev105,↓fc106,ev106,↓fc107,h107,hwi,hF,hf,↓evDn,evUp,eu,sevalprocAttr]
       | true =>
         cases hd:withinP (kD j) d 16 with
         | false=>simp (maxSteps:=4000000) -implicitDefEqProofs only [c88,Tryz.f88,aP,g0,g1,g2,g3,hli,r5,↓evLd,fa152_0,fa152_1,fa152_2,fa152_3,fa152_4,fa152_5,fa152_6,fa152_7,fa152_8,fa152_9,fa152_10,fa152_11,h0',h1',hjj,hkr,ia153,z152,st152,↓fc105,ev105,↓fc106,ev106,↓fc107,h107,hwi,hF,hf,hd,↓evDn,evUp,eu,sevalprocAttr]
         | true =>
           cases ha:withinP (kA j) a 16 with
           | false=>simp (maxSteps:=4000000) -implicitDefEqProofs only [c88,Tryz.f88,aP,g0,g1,g2,g3,hli,r5,↓evLd,fa152_0,fa152_1,fa152_2,fa152_3,fa152_4,fa152_5,fa152_6,fa152_7,fa152_8,fa152_9,fa152_10,fa152_11,h0',h1',hjj,hkr,ia153,z152,st152,↓fc105,ev105,↓fc106,ev106,↓fc107,h107,hwi,hF,hf,hd,ha,↓evDn,evUp,eu,sevalprocAttr]
           | true =>
             cases hb:withinP (kB j) b 16 with
             | false=>simp (maxSteps:=4000000) -implicitDefEqProofs only [c88,Tryz.f88,aP,g0,g1,g2,g3,hli,r5,↓evLd,fa152_0,fa152_1,fa152_2,fa152_3,fa152_4,fa152_5,fa152_6,fa152_7,fa152_8,fa152_9,fa152_10,fa152_11,h0',h1',hjj,hkr,ia153,z152,st152,↓fc105,ev105,↓fc106,ev106,↓fc107,h107,hwi,hF,hf,hd,ha,hb,↓evDn,evUp,eu,sevalprocAttr]
             | true =>
               cases hi:immG c (kWord j) (kArr j) (kPar j) (kBar j) (kLoc j) imm with
               | false=>simp (maxSteps:=4000000) -implicitDefEqProofs only [c88,Tryz.f88,aP,g0,g1,g2,g3,hli,r5,↓evLd,fa152_0,fa152_1,fa152_2,fa152_3,fa152_4,fa152_5,fa152_6,fa152_7,fa152_8,fa152_9,fa152_10,fa152_11,h0',h1',hjj,hkr,ia153,z152,st152,↓fc105,ev105,↓fc106,ev106,↓fc107,h107,hwi,hF,hf,hd,ha,hb,hi,↓evDn,evUp,eu,sevalprocAttr]
               | true =>
                 cases ht:withinP (kTo j) to c.insns.length with
                 | false=>simp (maxSteps:=4000000) -implicitDefEqProofs only [c88,Tryz.f88,aP,g0,g1,g2,g3,hli,r5,↓evLd,fa152_0,fa152_1,fa152_2,fa152_3,fa152_4,fa152_5,fa152_6,fa152_7,fa152_8,fa152_9,fa152_10,fa152_11,h0',h1',hjj,hkr,ia153,z152,st152,↓fc105,ev105,↓fc106,ev106,↓fc107,h107,hwi,hF,hf,hd,ha,hb,hi,ht,↓evDn,evUp,eu,sevalprocAttr]
                 | true =>
                   simp (maxSteps:=4000000) -implicitDefEqProofs only [c88,Tryz.f88,aP,g0,g1,g2,g3,hli,r5,↓evLd,fa152_0,fa152_1,fa152_2,fa152_3,fa152_4,fa152_5,fa152_6,fa152_7,fa152_8,fa152_9,fa152_10,fa152_11,h0',h1',hjj,hkr,ia153,z152,st152,↓fc105,ev105,↓fc106,ev106,↓fc107,h107,hwi,hF,hf,hd,ha,hb,hi,ht,↓evDn,evUp,eu,sevalprocAttr]
     | false =>
       cases hf:withinP (ltB 0 (kOps j)) op (kOps j) with
       | false=>simp (maxSteps:=4000000) -implicitDefEqProofs only [c88,Tryz.f88,aP,g0,g1,g2,g3,hli,r5,↓evLd,fa152_0,fa152_1,fa152_2,fa152_3,fa152_4,fa152_5,fa152_6,fa152_7,fa152_8,fa152_9,fa152_10,fa152_11,h0',h1',hjj,hkr,ia153,z152,st152,↓fc105,ev105,↓fc106,ev106,↓fc107,h107,hwi,hF,hf,↓evDn,evUp,eu,sevalprocAttr]
       | true =>
         cases hd:withinP (kD j) d 16 with
         | false=>simp (maxSteps:=4000000) -implicitDefEqProofs only [c88,Tryz.f88,aP,g0,g1,g2,g3,hli,r5,↓evLd,fa152_0,fa152_1,fa152_2,fa152_3,fa152_4,fa152_5,fa152_6,fa152_7,fa152_8,fa152_9,fa152_10,fa152_11,h0',h1',hjj,hkr,ia153,z152,st152,↓fc105,ev105,↓fc106,ev106,↓fc107,h107,hwi,hF,hf,hd,↓evDn,evUp,eu,sevalprocAttr]
         | true =>
           cases ha:withinP (kA j) a 16 with
           | false=>simp (maxSteps:=4000000) -implicitDefEqProofs only [c88,Tryz.f88,aP,g0,g1,g2,g3,hli,r5,↓evLd,fa152_0,fa152_1,fa152_2,fa152_3,fa152_4,fa152_5,fa152_6,fa152_7,fa152_8,fa152_9,fa152_10,fa152_11,h0',h1',hjj,hkr,ia153,z152,st152,↓fc105,ev105,↓fc106,ev106,↓fc107,h107,hwi,hF,hf,hd,ha,↓evDn,evUp,eu,sevalprocAttr]
           | true =>
             cases hb:withinP (kB j) b 16 with
             | false=>simp (maxSteps:=4000000) -implicitDefEqProofs only [c88,Tryz.f88,aP,g0,g1,g2,g3,hli,r5,↓evLd,fa152_0,fa152_1,fa152_2,fa152_3,fa152_4,fa152_5,fa152_6,fa152_7,fa152_8,fa152_9,fa152_10,fa152_11,h0',h1',hjj,hkr,ia153,z152,st152,↓fc105,ev105,↓fc106,ev106,↓fc107,h107,hwi,hF,hf,hd,ha,hb,↓evDn,evUp,eu,sevalprocAttr]
             | true =>
               cases hi:immG c (kWord j) (kArr j) (kPar j) (kBar j) (kLoc j) imm with
               | false=>simp (maxSteps:=4000000) -implicitDefEqProofs only [c88,Tryz.f88,aP,g0,g1,g2,g3,hli,r5,↓evLd,fa152_0,fa152_1,fa152_2,fa152_3,fa152_4,fa152_5,fa152_6,fa152_7,fa152_8,fa152_9,fa152_10,fa152_11,h0',h1',hjj,hkr,ia153,z152,st152,↓fc105,ev105,↓fc106,ev106,↓fc107,h107,hwi,hF,hf,hd,ha,hb,hi,↓evDn,evUp,eu,sevalprocAttr]
               | true =>
                 cases ht:withinP (kTo j) to c.insns.length with
                 | false=>simp (maxSteps:=4000000) -implicitDefEqProofs only [c88,Tryz.f88,aP,g0,g1,g2,g3,hli,r5,↓evLd,fa152_0,fa152_1,fa152_2,fa152_3,fa152_4,fa152_5,fa152_6,fa152_7,fa152_8,fa152_9,fa152_10,fa152_11,h0',h1',hjj,hkr,ia153,z152,st152,↓fc105,ev105,↓fc106,ev106,↓fc107,h107,hwi,hF,hf,hd,ha,hb,hi,ht,↓evDn,evUp,eu,sevalprocAttr]
                 | true =>
                   simp (maxSteps:=4000000) -implicitDefEqProofs only [c88,Tryz.f88,aP,g0,g1,g2,g3,hli,r5,↓evLd,fa152_0,fa152_1,fa152_2,fa152_3,fa152_4,fa152_5,fa152_6,fa152_7,fa152_8,fa152_9,fa152_10,fa152_11,h0',h1',hjj,hkr,ia153,z152,st152,↓fc105,ev105,↓fc106,ev106,↓fc107,h107,hwi,hF,hf,hd,ha,hb,hi,ht,↓evDn,evUp,eu,sevalprocAttr]
end Go.Dv
