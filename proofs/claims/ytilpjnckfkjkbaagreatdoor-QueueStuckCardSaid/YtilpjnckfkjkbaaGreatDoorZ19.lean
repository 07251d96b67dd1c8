/- Part 19 of the walks (own work). -/
import Derived.Test.YtilpjnckfkjkbaaGreatDoorZ13
set_option maxRecDepth 100000
set_option maxHeartbeats 4000000
set_option linter.unusedSimpArgs false
set_option linter.unusedVariables false
namespace Go.Dv
open Go.Proofs
attribute [local congr] bind_congr_first cb_congr condA_congr gd_congr br_congr
theorem lkK {K:AH} {m:Nat} {l:List ByteArray} (h:K[m]? =some (.map (strE l) l.length)) (s:ByteArray) (L:AH):lookupA Tryz.prog 172 (.map m) (.str s) false (K++L)=some (.bool (sIn l s)):=
 lk172 ((Agree.app K L).get h) s
theorem mpK {K:AH} {m:Nat} {l:List ByteArray} (h:K[m]? =some (.map (strE l) l.length)) {s:ByteArray} (hc:sIn l s=false) (L:AH):mapPutA Tryz.prog 172 (.map m) (.str s) (.bool true) (K++L)=some (K.set m (.map (strE (l++[s])) (l++[s]).length)++L):=by
 rw [mp172 ((Agree.app K L).get h) hc,List.set_append_left _ _ (lt_of_get h)]
theorem set_map {K:AH} {m:Nat} {o:AObj} (h:K[m]? =some o) (x:AObj) (L:AH):(K.set m x++L)[m]? =some x:=by
 have hl:=lt_of_get h
 rw [List.getElem?_append_left (by rw [List.length_set]; exact hl),List.getElem?_set_self hl]
def pNs (c:Cod):List ByteArray:=c.params.map (·.name)
def sNs (c:Cod):List ByteArray:=c.shared.map (·.name)
def nmAt (l:List ByteArray) (j:Nat):ByteArray:=l.getD j eS
def szAt (c:Cod) (j:Nat):Int:=match c.shared[j]? with
 | some a=>a.size
 | none=>0
def parF (c:Cod) (j:Nat):Bool:=nameP (nmAt (pNs c) j) && !sIn ((pNs c).take j) (nmAt (pNs c) j)
def shrF (c:Cod) (j:Nat):Bool:=nameP (nmAt (sNs c) j) && !sIn (pNs c++(sNs c).take j) (nmAt (sNs c) j) && !ltB (szAt c j) 1 && !ltB 64 (szAt c j)
theorem take_snoc {l:List ByteArray} {j:Nat} (h:j < l.length):l.take (j+1)=l.take j++[nmAt l j]:=by
 unfold nmAt
 rw [List.take_add_one,gde,List.getElem?_eq_getElem h]; rfl
theorem nmP {c:Cod} {j:Nat} (h:j < c.params.length):nmAt (pNs c) j=(c.params[j]'h).name:=by
 unfold nmAt pNs
 rw [gde,List.getElem?_map,List.getElem?_eq_getElem h]; rfl
theorem nmS {c:Cod} {j:Nat} (h:j < c.shared.length):nmAt (sNs c) j=(c.shared[j]'h).name:=by
 unfold nmAt sNs
 rw [gde,List.getElem?_map,List.getElem?_eq_getElem h]; rfl
theorem szS {c:Cod} {j:Nat} (h:j < c.shared.length):szAt c j=(c.shared[j]'h).size:=by
 unfold szAt
 rw [List.getElem?_eq_getElem h]
theorem shr_at {H K:AH} {c:Cod} {vp vs vi:AV} (h:CodR H c vp vs vi) (hA:Agree H K) {j:Nat} (hj:j < c.shared.length):∃ i k,(∀ kk,indexAddrA Tryz.prog 63 vs (.int kk (j:Int))=some (.ptr i k))/\(∀ L,rdCells (K++L) i k 1=some [.str (nmAt (sNs c) j)])/\(∀ L,rdCells (K++L) i (k+1) 1=some [I (szAt c j)])/\(∀ L,rdCells (K++L) i k 2=some [.str (nmAt (sNs c) j),I (szAt c j)]):=by
 obtain ⟨i,k,hi,hr⟩:=h.s.ix j (rowA (c.shared[j]'hj)) (by rw [List.getElem?_map,List.getElem?_eq_getElem hj]; rfl)
 rw [nmS hj,szS hj]
 exact ⟨i,k,hi,fun L=>row_0 hr hA L rfl,fun L=>row_c hr hA L 1 rfl,fun L=>row_rd hr hA L⟩
theorem prn_at {H K:AH} {c:Cod} {vp vs vi:AV} (h:CodR H c vp vs vi) (hA:Agree H K) {j:Nat} (hj:j < c.params.length):∃ i k b,(∀ kk,indexAddrA Tryz.prog 62 vp (.int kk (j:Int))=some (.ptr i k))/\(∀ L,rdCells (K++L) i k 1=some [.str (nmAt (pNs c) j)])/\(∀ L,rdCells (K++L) i k 2=some [.str (nmAt (pNs c) j),.bool b]):=by
 obtain ⟨i,k,hi,hr⟩:=h.p.ix j (rowP (c.params[j]'hj)) (by rw [List.getElem?_map,List.getElem?_eq_getElem hj]; rfl)
 rw [nmP hj]
 exact ⟨i,k,_,hi,fun L=>row_0 hr hA L rfl,fun L=>row_rd hr hA L⟩
theorem nmP_sz {H:AH} {c:Cod} {vp vs vi:AV} (h:CodR H c vp vs vi) {j:Nat} (hj:j < c.params.length):(nmAt (pNs c) j).size < 2 ^ 60:=by rw [nmP hj]; exact h.pn _ (List.getElem_mem _)
theorem nmS_sz {H:AH} {c:Cod} {vp vs vi:AV} (h:CodR H c vp vs vi) {j:Nat} (hj:j < c.shared.length):(nmAt (sNs c) j).size < 2 ^ 60:=by rw [nmS hj]; exact h.sn _ (List.getElem_mem _)
theorem pNs_len (c:Cod):(pNs c).length=c.params.length:=by unfold pNs; rw [List.length_map]
theorem sNs_len (c:Cod):(sNs c).length=c.shared.length:=by unfold sNs; rw [List.length_map]
theorem head_pl {G:AH} {c:Cod} {vp vs vi:AV} {q:Nat} (h:CodR G c vp vs vi) {m:Nat} (hm:G.length<=m) (hN:c.params.length < 2 ^ 60):∀ (d j:Nat) (tm:List AV) (K:AH),c.params.length - j=d->j<=c.params.length->Agree G K->tm.length=87->K[m]? =some (.map (strE ((pNs c).take j)) ((pNs c).take j).length)->tm.getD 1 uA=.ptr q 0->tm.getD 3 uA=.map m->tm.getD 36 uA=vp->tm.getD 37 uA=I c.params.length->tm.getD 38 uA=I ((j:Nat):Int) ->
   ∃ X Y K1 K2,EvC Tryz.prog C0 W0 plN l86_0 (tm,K)=br (allF (fun j=>parF c j) (c.params.length) (j)) (some (.exit 0,(X,K1))) (some (.ret,(Y,K2)))/\(X.length=87/\Agree G K1/\(allF (fun j=>parF c j) (c.params.length) (j)=true->K1[m]? =some (.map (strE ((pNs c).take c.params.length)) ((pNs c).take c.params.length).length))/\X.getD 1 uA=.ptr q 0/\X.getD 3 uA=.map m/\X.getD 36 uA=vp/\X.getD 37 uA=I c.params.length)/\Y.length=87/\Y.getD 2 uA=.bool false:=by
 intro d
 induction d with
 | zero =>
   intro j tm K hd hj hA hlen hI h1 h3 h36 h37 h38
   have hjl:j=c.params.length:=by omega
   subst hjl
   have hlt:ltB (((c.params.length:Nat)):Int) (c.params.length:Nat)=false:=ltB_f (by omega)
   rw [allF_end (Nat.le_refl _),el86_0]
   simp (maxSteps:=4000000) -implicitDefEqProofs only [b86_0,Tryz.f86,aP,hlen,h1,h3,h36,h37,h38,hlt,↓evDn,evUp,eu,sevalprocAttr]
   exact ⟨_,tm.set 2 (.bool false),_,K,rfl,⟨by first | exact hlen | simp only [List.length_set,hlen],hA,by first | exact hI | exact fun _=>hI,by first | exact h1 | simp only [hlen,h1,gB,sevalprocAttr],by first | exact h3 | simp only [hlen,h3,gB,sevalprocAttr],by first | exact h36 | simp only [hlen,h36,gB,sevalprocAttr],by first | exact h37 | simp only [hlen,h37,gB,sevalprocAttr]⟩,by simp only [ls,hlen],by simp only [hlen,gs_self,Nat.reduceLT]⟩
 | succ d ih =>
   intro j tm K hd hj hA hlen hI h1 h3 h36 h37 h38
   have hjN:j < c.params.length:=by omega
   have hlt:ltB (j:Int) (c.params.length:Nat)=true:=ltB_t (by omega)
   have hw:=inc_i (j:=j) (by omega)
   have hnz:=nmP_sz h hjN
   obtain ⟨i,k,b,hix,hrd0,hrd2⟩:=prn_at h hA hjN
   have hlk:=lkK hI (nmAt (pNs c) j)
   have h104:=fun L=>ev104 hnz L
   have hts:=take_snoc (l:=pNs c) (j:=j) (by rw [pNs_len]; exact hjN)
   rw [allF_step hjN,el86_0]
   rw [<-List.append_nil K]
   cases hp:(parF c j) with
   | true =>
     unfold parF at hp
     rw [Bool.and_eq_true,Bool.not_eq_true'] at hp
     obtain ⟨hp1,hp2⟩:=hp
     have hmp:=mpK hI hp2
     simp only [Bool.true_and]
     simp (maxSteps:=4000000) -implicitDefEqProofs only [b86_0,Tryz.f86,aP,hlen,h1,h3,h36,h37,h38,hlt,hw,hix,hrd0,hrd2,hlk,↓fc104,h104,z74,st74,rowP,↓evLd,hp1,hp2,hmp,↓evDn,evUp,eu,sevalprocAttr]
     exact ih (j+1) _ _ (by omega) (by omega) (by first | exact hA | exact hA.appR _ | exact (hA.appR _).appR _ | exact (hA.setR hm _).appR _) (by simp only [ls,hlen]) (by rw [hts]; first | exact set_map hI _ _ | exact set_map hI _ []) (by simp only [hlen,h1,gB,sevalprocAttr]) (by simp only [hlen,h3,gB,sevalprocAttr]) (by simp only [hlen,h36,gB,sevalprocAttr]) (by simp only [hlen,h37,gB,sevalprocAttr]) (by simp only [hlen,h38,gB,sevalprocAttr])
   | false =>
     simp only [Bool.false_and]
     unfold parF at hp
     cases hp1:nameP (nmAt (pNs c) j) with
     | false =>
       simp (maxSteps:=4000000) -implicitDefEqProofs only [b86_0,Tryz.f86,aP,hlen,h1,h3,h36,h37,h38,hlt,hw,hix,hrd0,hrd2,hlk,↓fc104,h104,z74,st74,rowP,↓evLd,hp1,↓evDn,evUp,eu,sevalprocAttr]
       exact ⟨tm,_,K,_,rfl,⟨hlen,hA,by first | exact trivial | (intro h; cases h),h1,h3,h36,h37⟩,by simp only [ls,hlen],by simp only [hlen,gB,sevalprocAttr]⟩
     | true =>
       rw [hp1,Bool.true_and,Bool.not_eq_false'] at hp
       simp (maxSteps:=4000000) -implicitDefEqProofs only [b86_0,Tryz.f86,aP,hlen,h1,h3,h36,h37,h38,hlt,hw,hix,hrd0,hrd2,hlk,↓fc104,h104,z74,st74,rowP,↓evLd,hp1,hp,↓evDn,evUp,eu,sevalprocAttr]
       exact ⟨tm,_,K,_,rfl,⟨hlen,hA,by first | exact trivial | (intro h; cases h),h1,h3,h36,h37⟩,by simp only [ls,hlen],by simp only [hlen,gB,sevalprocAttr]⟩
theorem head_pl' {G:AH} {c:Cod} {vp vs vi:AV} {q:Nat} {tm:List AV} {K:AH} {Z:Option (AExit × St)} (hX:EvC Tryz.prog C0 W0 plN l86_0 (tm,K)=Z) (h:CodR G c vp vs vi) {m:Nat} (hm:G.length<=m) (hN:c.params.length < 2 ^ 60) (hA:Agree G K) (hlen:tm.length=87) (hI:K[m]? =some (.map (strE ((pNs c).take 0)) ((pNs c).take 0).length)) (h1:tm.getD 1 uA=.ptr q 0) (h3:tm.getD 3 uA=.map m) (h36:tm.getD 36 uA=vp) (h37:tm.getD 37 uA=I c.params.length) (h38:tm.getD 38 uA=I ((0:Nat):Int)) :
   ∃ X Y K1 K2,Z=br (allF (fun j=>parF c j) (c.params.length) (0)) (some (.exit 0,(X,K1))) (some (.ret,(Y,K2)))/\(X.length=87/\Agree G K1/\(allF (fun j=>parF c j) (c.params.length) (0)=true->K1[m]? =some (.map (strE ((pNs c).take c.params.length)) ((pNs c).take c.params.length).length))/\X.getD 1 uA=.ptr q 0/\X.getD 3 uA=.map m/\X.getD 36 uA=vp/\X.getD 37 uA=I c.params.length)/\Y.length=87/\Y.getD 2 uA=.bool false:=by
 subst hX
 exact head_pl h hm hN (c.params.length) 0 tm K (by omega) (by omega) hA hlen hI h1 h3 h36 h37 h38
theorem head_sl {G:AH} {c:Cod} {vp vs vi:AV} (h:CodR G c vp vs vi) {m:Nat} (hm:G.length<=m) (hN:c.shared.length < 2 ^ 60):∀ (d j:Nat) (tm:List AV) (K:AH),c.shared.length - j=d->j<=c.shared.length->Agree G K->tm.length=87->K[m]? =some (.map (strE (pNs c++(sNs c).take j)) (pNs c++(sNs c).take j).length)->tm.getD 3 uA=.map m->tm.getD 57 uA=vs->tm.getD 58 uA=I c.shared.length->tm.getD 59 uA=I ((j:Nat):Int) ->
   ∃ X Y K1 K2,EvC Tryz.prog C0 W0 plN l86_1 (tm,K)=br (allF (fun j=>shrF c j) (c.shared.length) (j)) (some (.exit 2,(X,K1))) (some (.ret,(Y,K2)))/\(X.length=87/\Agree G K1/\(allF (fun j=>shrF c j) (c.shared.length) (j)=true->K1[m]? =some (.map (strE (pNs c++(sNs c).take c.shared.length)) (pNs c++(sNs c).take c.shared.length).length))/\X.getD 3 uA=.map m/\X.getD 57 uA=vs/\X.getD 58 uA=I c.shared.length)/\Y.length=87/\Y.getD 2 uA=.bool false:=by
 intro d
 induction d with
 | zero =>
   intro j tm K hd hj hA hlen hI h3 h57 h58 h59
   have hjl:j=c.shared.length:=by omega
   subst hjl
   have hlt:ltB (((c.shared.length:Nat)):Int) (c.shared.length:Nat)=false:=ltB_f (by omega)
   rw [allF_end (Nat.le_refl _),el86_1]
   simp (maxSteps:=4000000) -implicitDefEqProofs only [b86_1,Tryz.f86,aP,hlen,h3,h57,h58,h59,hlt,↓evDn,evUp,eu,sevalprocAttr]
   exact ⟨_,tm.set 2 (.bool false),_,K,rfl,⟨by first | exact hlen | simp only [List.length_set,hlen],hA,by first | exact hI | exact fun _=>hI,by first | exact h3 | simp only [hlen,h3,gB,sevalprocAttr],by first | exact h57 | simp only [hlen,h57,gB,sevalprocAttr],by first | exact h58 | simp only [hlen,h58,gB,sevalprocAttr]⟩,by simp only [ls,hlen],by simp only [hlen,gs_self,Nat.reduceLT]⟩
 | succ d ih =>
   intro j tm K hd hj hA hlen hI h3 h57 h58 h59
   have hjN:j < c.shared.length:=by omega
   have hlt:ltB (j:Int) (c.shared.length:Nat)=true:=ltB_t (by omega)
   have hw:=inc_i (j:=j) (by omega)
   have hnz:=nmS_sz h hjN
   obtain ⟨i,k,hix,hrd0,hrd1,hrd2⟩:=shr_at h hA hjN
   have hlk:=lkK hI (nmAt (sNs c) j)
   have h104:=fun L=>ev104 hnz L
   have hts:=take_snoc (l:=sNs c) (j:=j) (by rw [sNs_len]; exact hjN)
   rw [allF_step hjN,el86_1]
   rw [<-List.append_nil K]
   cases hp:(shrF c j) with
   | true =>
     unfold shrF at hp
     rw [Bool.and_eq_true,Bool.and_eq_true,Bool.and_eq_true,Bool.not_eq_true',Bool.not_eq_true',Bool.not_eq_true'] at hp
     obtain ⟨⟨⟨hp1,hp2⟩,hp3⟩,hp4⟩:=hp
     have hmp:=mpK hI hp2
     simp only [Bool.true_and]
     simp (maxSteps:=4000000) -implicitDefEqProofs only [b86_1,Tryz.f86,aP,hlen,h3,h57,h58,h59,hlt,hw,hix,hrd0,hrd1,hrd2,hlk,↓fc104,h104,z77,st77,rowA,↓evLd,hp1,hp2,hp3,hp4,hmp,↓evDn,evUp,eu,sevalprocAttr]
     exact ih (j+1) _ _ (by omega) (by omega) (by first | exact hA | exact hA.appR _ | exact (hA.appR _).appR _ | exact (hA.setR hm _).appR _) (by simp only [ls,hlen]) (by rw [hts,<-List.append_assoc]; first | exact set_map hI _ _ | exact set_map hI _ []) (by simp only [hlen,h3,gB,sevalprocAttr]) (by simp only [hlen,h57,gB,sevalprocAttr]) (by simp only [hlen,h58,gB,sevalprocAttr]) (by simp only [hlen,h59,gB,sevalprocAttr])
   | false =>
     simp only [Bool.false_and]
     unfold shrF at hp
     cases hp1:nameP (nmAt (sNs c) j) with
     | false =>
       simp (maxSteps:=4000000) -implicitDefEqProofs only [b86_1,Tryz.f86,aP,hlen,h3,h57,h58,h59,hlt,hw,hix,hrd0,hrd1,hrd2,hlk,↓fc104,h104,z77,st77,rowA,↓evLd,hp1,↓evDn,evUp,eu,sevalprocAttr]
       exact ⟨tm,_,K,_,rfl,⟨hlen,hA,by first | exact trivial | (intro h; cases h),h3,h57,h58⟩,by simp only [ls,hlen],by simp only [hlen,gB,sevalprocAttr]⟩
     | true =>
       cases hp2:sIn (pNs c++(sNs c).take j) (nmAt (sNs c) j) with
       | true =>
         simp (maxSteps:=4000000) -implicitDefEqProofs only [b86_1,Tryz.f86,aP,hlen,h3,h57,h58,h59,hlt,hw,hix,hrd0,hrd1,hrd2,hlk,↓fc104,h104,z77,st77,rowA,↓evLd,hp1,hp2,↓evDn,evUp,eu,sevalprocAttr]
         exact ⟨tm,_,K,_,rfl,⟨hlen,hA,by first | exact trivial | (intro h; cases h),h3,h57,h58⟩,by simp only [ls,hlen],by simp only [hlen,gB,sevalprocAttr]⟩
       | false =>
         cases hp3:ltB (szAt c j) 1 with
         | true =>
           simp (maxSteps:=4000000) -implicitDefEqProofs only [b86_1,Tryz.f86,aP,hlen,h3,h57,h58,h59,hlt,hw,hix,hrd0,hrd1,hrd2,hlk,↓fc104,h104,z77,st77,rowA,↓evLd,hp1,hp2,hp3,↓evDn,evUp,eu,sevalprocAttr]
           exact ⟨tm,_,K,_,rfl,⟨hlen,hA,by first | exact trivial | (intro h; cases h),h3,h57,h58⟩,by simp only [ls,hlen],by simp only [hlen,gB,sevalprocAttr]⟩
         | false =>
           rw [hp1,hp2,hp3] at hp
           have hp4:ltB 64 (szAt c j)=true:=by simpa using hp
           simp (maxSteps:=4000000) -implicitDefEqProofs only [b86_1,Tryz.f86,aP,hlen,h3,h57,h58,h59,hlt,hw,hix,hrd0,hrd1,hrd2,hlk,↓fc104,h104,z77,st77,rowA,↓evLd,hp1,hp2,hp3,hp4,↓evDn,evUp,eu,sevalprocAttr]
           exact ⟨tm,_,K,_,rfl,⟨hlen,hA,by first | exact trivial | (intro h; cases h),h3,h57,h58⟩,by simp only [ls,hlen],by simp only [hlen,gB,sevalprocAttr]⟩
theorem head_sl' {G:AH} {c:Cod} {vp vs vi:AV} {tm:List AV} {K:AH} {Z:Option (AExit × St)} (hX:EvC Tryz.prog C0 W0 plN l86_1 (tm,K)=Z) (h:CodR G c vp vs vi) {m:Nat} (hm:G.length<=m) (hN:c.shared.length < 2 ^ 60) (hA:Agree G K) (hlen:tm.length=87) (hI:K[m]? =some (.map (strE (pNs c++(sNs c).take 0)) (pNs c++(sNs c).take 0).length)) (h3:tm.getD 3 uA=.map m) (h57:tm.getD 57 uA=vs) (h58:tm.getD 58 uA=I c.shared.length) (h59:tm.getD 59 uA=I ((0:Nat):Int)) :
   ∃ X Y K1 K2,Z=br (allF (fun j=>shrF c j) (c.shared.length) (0)) (some (.exit 2,(X,K1))) (some (.ret,(Y,K2)))/\(X.length=87/\Agree G K1/\(allF (fun j=>shrF c j) (c.shared.length) (0)=true->K1[m]? =some (.map (strE (pNs c++(sNs c).take c.shared.length)) (pNs c++(sNs c).take c.shared.length).length))/\X.getD 3 uA=.map m/\X.getD 57 uA=vs/\X.getD 58 uA=I c.shared.length)/\Y.length=87/\Y.getD 2 uA=.bool false:=by
 subst hX
 exact head_sl h hm hN (c.shared.length) 0 tm K (by omega) (by omega) hA hlen hI h3 h57 h58 h59
def headP (c:Cod):Bool:=nameP c.name && !ltB 6 (c.params.length:Int) && !ltB 4 (c.shared.length:Int) && !ltB c.loc 0 && !ltB 64 c.loc && allF (fun j=>parF c j) c.params.length 0 && allF (fun j=>shrF c j) c.shared.length 0
theorem box_rd {G K L:AH} {cs:List AV} {e:TypeId} (hA:Agree (G++[.cells cs e]) K) (k n:Nat):rdCells (K++L) G.length k n=if k+n<=cs.length then some ((cs.drop k).take n) else none:=by
 refine obj_rd (e:=e) (hA.get (i:=G.length) (o:=.cells cs e) ?_) L k n
 rw [List.getElem?_append_right (Nat.le_refl _),Nat.sub_self]; rfl
theorem ev86 {H:AH} {c:Cod} {vp vs vi:AV} (h:CodR H c vp vs vi):Ev Tryz.prog C0 W0 86 [.agg (rowC c vp vs vi)] H=some (.bool (headP c),H):=by
 obtain ⟨tm,ht,g0,g1⟩:=tm1 (.agg (rowC c vp vs vi)) 87 (by decide)
 rw [fe86,ht]
 rw [<-List.append_nil (ro H)]
 unfold headP
 have hlp:=h.ro.lp
 have hls:=h.ro.ls
 have h104:=fun L=>ev104 h.nm L
 cases h0:nameP c.name with
 | false=>simp (maxSteps:=4000000) -implicitDefEqProofs only [c86,Tryz.f86,aP,g0,g1,hlp,hls,↓fc104,h104,r5,↓evLd,h0,↓evDn,evUp,eu,sevalprocAttr]
 | true =>
   cases h1:ltB 6 (c.params.length:Int) with
   | true=>simp (maxSteps:=4000000) -implicitDefEqProofs only [c86,Tryz.f86,aP,g0,g1,hlp,hls,↓fc104,h104,r5,↓evLd,h0,h1,↓evDn,evUp,eu,sevalprocAttr]
   | false =>
     cases h2:ltB 4 (c.shared.length:Int) with
     | true=>simp (maxSteps:=4000000) -implicitDefEqProofs only [c86,Tryz.f86,aP,g0,g1,hlp,hls,↓fc104,h104,r5,↓evLd,h0,h1,h2,↓evDn,evUp,eu,sevalprocAttr]
     | false =>
       cases h3:ltB c.loc 0 with
       | true=>simp (maxSteps:=4000000) -implicitDefEqProofs only [c86,Tryz.f86,aP,g0,g1,hlp,hls,↓fc104,h104,r5,↓evLd,h0,h1,h2,h3,↓evDn,evUp,eu,sevalprocAttr]
       | false =>
         cases h4:ltB 64 c.loc with
         | true=>simp (maxSteps:=4000000) -implicitDefEqProofs only [c86,Tryz.f86,aP,g0,g1,hlp,hls,↓fc104,h104,r5,↓evLd,h0,h1,h2,h3,h4,↓evDn,evUp,eu,sevalprocAttr]
         | false =>
           simp (maxSteps:=4000000) -implicitDefEqProofs only [c86,Tryz.f86,aP,g0,g1,hlp,hls,↓fc104,h104,r5,↓evLd,h0,h1,h2,h3,h4,↓evDn,evUp,eu,sevalprocAttr]
           have hG:Agree (ro H++[AObj.cells (rowC c vp vs vi) 66]) (ro H++[AObj.cells (rowC c vp vs vi) 66,AObj.map [] 0]):=by
             have:=Agree.app (ro H++[AObj.cells (rowC c vp vs vi) 66]) [AObj.map [] 0]
             rwa [List.append_assoc] at this
           have hR:=h.ro.agree (Agree.app (ro H) [AObj.cells (rowC c vp vs vi) 66])
           have hm:(ro H++[AObj.cells (rowC c vp vs vi) 66]).length<=(ro H).length+1:=by rw [List.length_append]; exact Nat.le_refl _
           have hI0:(ro H++[AObj.cells (rowC c vp vs vi) 66,AObj.map [] 0])[(ro H).length+1]? =some (.map (strE ((pNs c).take 0)) ((pNs c).take 0).length):=by
             rw [List.getElem?_append_right (Nat.le_add_right _ _),Nat.add_sub_cancel_left]; rfl
           generalize hX:EvC Tryz.prog C0 W0 _ (Code.loop _) _=Z
           obtain ⟨X,Y,K1,K2,he,xs,y0,y1⟩:=head_pl' (q:=(ro H).length) hX hR hm (Nat.lt_trans h.np (by decide)) (hG) (by simp only [ls,g0]) hI0 (by simp only [g0,gB,sevalprocAttr]; try rfl) (by simp only [g0,gB,sevalprocAttr]; try rfl) (by simp only [g0,gB,sevalprocAttr]; try rfl) (by simp only [g0,gB,sevalprocAttr]; try rfl) (by simp only [g0,gB,sevalprocAttr]; try rfl)
           subst he
           cases hf:allF (fun j=>parF c j) c.params.length 0 with
           | false=>simp (maxSteps:=4000000) -implicitDefEqProofs only [xs.1,y0,y1,hf,↓evDn,evUp,eu,sevalprocAttr]
           | true =>
             have hI1:=xs.2.2.1 hf
             rw [List.take_of_length_le (by rw [pNs_len]; exact Nat.le_refl _)] at hI1
             have hb:=fun k n=>box_rd (L:=[]) xs.2.1 k n
             simp only [List.append_nil] at hb
             obtain ⟨x0,xA,xI,x1,x3,x4,x5⟩:=xs
             have hI2:K1[(ro H).length+1]? =some (.map (strE (pNs c++(sNs c).take 0)) (pNs c++(sNs c).take 0).length):=by rw [List.take_zero,List.append_nil]; exact hI1
             simp (maxSteps:=4000000) -implicitDefEqProofs only [aP,hf,x0,x1,x3,hb,hls,r5,↓evLd,↓evDn,evUp,eu,sevalprocAttr]
             generalize hX:EvC Tryz.prog C0 W0 _ (Code.loop _) _=Z
             obtain ⟨X2,Y2,K3,K4,he,xs,z0,z1⟩:=head_sl'  hX hR hm (Nat.lt_trans h.ns (by decide)) (xA) (by simp only [ls,x0]) hI2 (by simp only [x0,x3,gB,sevalprocAttr]; try rfl) (by simp only [x0,gB,sevalprocAttr]; try rfl) (by simp only [x0,gB,sevalprocAttr]; try rfl) (by simp only [x0,gB,sevalprocAttr]; try rfl)
             subst he
             cases hf2:allF (fun j=>shrF c j) c.shared.length 0 with
             | false=>simp (maxSteps:=4000000) -implicitDefEqProofs only [xs.1,z0,z1,hf2,↓evDn,evUp,eu,sevalprocAttr]
             | true=>simp (maxSteps:=4000000) -implicitDefEqProofs only [xs.1,z0,z1,hf2,↓evDn,evUp,eu,sevalprocAttr]
theorem wr_fullA (H A:AH) (n:Nat) (L:AH) (cs vs:List AV) (e:TypeId) (hn:A.length=n) (hl:vs.length=cs.length) (ho:vs.all AV.one=true):wrCells (H++(A++.cells cs e::L)) (H.length+n) 0 vs=some (H++(A++.cells vs e::L)):=by
 subst hn
 rw [<-List.append_assoc,<-List.append_assoc,<-List.length_append]
 exact wr_full (H++A) L cs vs e hl ho
theorem ev88 {H:AH} {c:Cod} {vp vs vi:AV} (h:CodR H c vp vs vi) {x:Ins} (hx:i32R x.imm):Ev Tryz.prog C0 W0 88 [.agg (rowC c vp vs vi),.agg (rowI x),.agg kindsCs] H=some (.bool (insP c x),H):=by
 obtain ⟨tm,ht,g0,g1,g2,g3⟩:=tm3 (.agg (rowC c vp vs vi)) (.agg (rowI x)) (.agg kindsCs) 93 (by decide)
 rw [fe88,ht]
 rw [<-List.append_nil (ro H)]
 obtain ⟨kind,op,d,a,b,imm,to,join⟩:=x
 unfold insP
 simp only at hx ⊢
 have hli:=h.ro.li
 have hib:=h.ni
 have hwi:IntKind.i64.wrap ((c.insns.length:Int)+1)=(c.insns.length:Int)+1:=wr_i (by omega)
 have h107:=fun L fd fa fb far ff fbr fl fp fw ft fj fo=>ev107 (h.ro.agree (Agree.app _ L)) fd fa fb far ff fbr fl fp fw ft fj fo hx
 simp only [rowC] at h107
 cases h0:leB 0 kind with
 | false =>
   have h0':ltB kind 0=true:=by rw [ltB_iff]; rw [leB_iff0] at h0; exact h0
   simp (maxSteps:=4000000) -implicitDefEqProofs only [c88,Tryz.f88,aP,g0,g1,g2,g3,hli,r5,↓evLd,fa152_0,fa152_1,fa152_2,fa152_3,fa152_4,fa152_5,fa152_6,fa152_7,fa152_8,fa152_9,fa152_10,fa152_11,h0',↓evDn,evUp,eu,sevalprocAttr]
 | true =>
   have h0':ltB kind 0=false:=by rw [ltB_iff0]; rw [leB_iff] at h0; exact h0
   cases h1:ltB kind 16 with
   | false =>
     have h1':leB 16 kind=true:=by rw [leB_iff]; rw [ltB_iff0] at h1; exact h1
     simp (maxSteps:=4000000) -implicitDefEqProofs only [c88,Tryz.f88,aP,g0,g1,g2,g3,hli,r5,↓evLd,fa152_0,fa152_1,fa152_2,fa152_3,fa152_4,fa152_5,fa152_6,fa152_7,fa152_8,fa152_9,fa152_10,fa152_11,h0',h1',↓evDn,evUp,eu,sevalprocAttr]
   | true =>
     have h1':leB 16 kind=false:=by rw [leB_iff0]; rw [ltB_iff] at h1; exact h1
     rw [leB_iff] at h0
     rw [ltB_iff] at h1
     obtain ⟨j,rfl⟩:∃ j:Nat,kind=j:=⟨kind.toNat,by omega⟩
     have hj:j < 16:=by omega
     have hjj:((0:Int)<=(j:Int)/\(j:Int) < 16)=True:=eq_true (by omega)
     have hkr:=fun A B L=>kinds_rd (ro H) L A B hj
     simp only [rowK] at hkr
     cases hF:kFold j with
     | true =>
       cases hf:foldP op with
       | false=>simp (maxSteps:=4000000) -implicitDefEqProofs only [c88,Tryz.f88,aP,g0,g1,g2,g3,hli,r5,↓evLd,fa152_0,fa152_1,fa152_2,fa152_3,fa152_4,fa152_5,fa152_6,fa152_7,fa152_8,fa152_9,fa152_10,fa152_11,h0',h1',hjj,hkr,ia153,z152,st152,↓fc105,ev105,↓fc106,ev106,↓fc107,h107,hwi,hF,hf,↓evDn,evUp,eu,sevalprocAttr]
       | true =>
         cases hd:withinP (kD j) d 16 with
         | false=>simp (maxSteps:=4000000) -implicitDefEqProofs only [c88,Tryz.f88,aP,g0,g1,g2,g3,hli,r5,↓evLd,fa152_0,fa152_1,fa152_2,fa152_3,fa152_4,fa152_5,fa152_6,fa152_7,fa152_8,fa152_9,fa152_10,fa152_11,h0',h1',hjj,hkr,ia153,z152,st152,↓fc105,ev105,↓fc106,ev106,↓fc107,h107,hwi,hF,hf,hd,↓evDn,evUp,eu,sevalprocAttr]
         | true =>
           cases ha:withinP (kA j) a 16 with
           | false=>simp (maxSteps:=4000000) -implicitDefEqProofs only [c88,Tryz.f88,aP,g0,g1,g2,g3,hli,r5,↓evLd,fa152_0,fa152_1,fa152_2,fa152_3,fa152_4,fa152_5,fa152_6,fa152_7,fa152_8,fa152_9,fa152_10,fa152_11,h0',h1',hjj,hkr,ia153,z152,st152,↓fc105,ev105,↓fc106,ev106,↓fc107,h107,hwi,hF,hf,hd,ha,↓evDn,evUp,eu,sevalprocAttr]
           | true =>
             cases hb:withinP (kB j) b 16 with
             | false=>simp (maxSteps:=4000000) -implicitDefEqProofs only [c88,Tryz.f88,aP,g0,g1,g2,g3,hli,r5,↓evLd,fa152_0,fa152_1,fa152_2,fa152_3,fa152_4,fa152_5,fa152_6,fa152_7,fa152_8,fa152_9,fa152_10,fa152_11,h0',h1',hjj,hkr,ia153,z152,st152,↓fc105,ev105,↓fc106,ev106,↓fc107,h107,hwi,hF,hf,hd,ha,hb,↓evDn,evUp,eu,sevalprocAttr]
             | true =>
               cases hi:immG c (kWord j) (kArr j) (kPar j) (kBar j) (kLoc j) imm with
               | false=>simp (maxSteps:=4000000) -implicitDefEqProofs only [c88,Tryz.f88,aP,g0,g1,g2,g3,hli,r5,↓evLd,fa152_0,fa152_1,fa152_2,fa152_3,fa152_4,fa152_5,fa152_6,fa152_7,fa152_8,fa152_9,fa152_10,fa152_11,h0',h1',hjj,hkr,ia153,z152,st152,↓fc105,ev105,↓fc106,ev106,↓fc107,h107,hwi,hF,hf,hd,ha,hb,hi,↓evDn,evUp,eu,sevalprocAttr]
               | true =>
                 cases ht:withinP (kTo j) to c.insns.length with
                 | false=>simp (maxSteps:=4000000) -implicitDefEqProofs only [c88,Tryz.f88,aP,g0,g1,g2,g3,hli,r5,↓evLd,fa152_0,fa152_1,fa152_2,fa152_3,fa152_4,fa152_5,fa152_6,fa152_7,fa152_8,fa152_9,fa152_10,fa152_11,h0',h1',hjj,hkr,ia153,z152,st152,↓fc105,ev105,↓fc106,ev106,↓fc107,h107,hwi,hF,hf,hd,ha,hb,hi,ht,↓evDn,evUp,eu,sevalprocAttr]
                 | true =>
                   simp (maxSteps:=4000000) -implicitDefEqProofs only [c88,Tryz.f88,aP,g0,g1,g2,g3,hli,r5,↓evLd,fa152_0,fa152_1,fa152_2,fa152_3,fa152_4,fa152_5,fa152_6,fa152_7,fa152_8,fa152_9,fa152_10,fa152_11,h0',h1',hjj,hkr,ia153,z152,st152,↓fc105,ev105,↓fc106,ev106,↓fc107,h107,hwi,hF,hf,hd,ha,hb,hi,ht,↓evDn,evUp,eu,sevalprocAttr]
     | false =>
       cases hf:withinP (ltB 0 (kOps j)) op (kOps j) with
       | false=>simp (maxSteps:=4000000) -implicitDefEqProofs only [c88,Tryz.f88,aP,g0,g1,g2,g3,hli,r5,↓evLd,fa152_0,fa152_1,fa152_2,fa152_3,fa152_4,fa152_5,fa152_6,fa152_7,fa152_8,fa152_9,fa152_10,fa152_11,h0',h1',hjj,hkr,ia153,z152,st152,↓fc105,ev105,↓fc106,ev106,↓fc107,h107,hwi,hF,hf,↓evDn,evUp,eu,sevalprocAttr]
       | true =>
         cases hd:withinP (kD j) d 16 with
         | false=>simp (maxSteps:=4000000) -implicitDefEqProofs only [c88,Tryz.f88,aP,g0,g1,g2,g3,hli,r5,↓evLd,fa152_0,fa152_1,fa152_2,fa152_3,fa152_4,fa152_5,fa152_6,fa152_7,fa152_8,fa152_9,fa152_10,fa152_11,h0',h1',hjj,hkr,ia153,z152,st152,↓fc105,ev105,↓fc106,ev106,↓fc107,h107,hwi,hF,hf,hd,↓evDn,evUp,eu,sevalprocAttr]
         | true =>
           cases ha:withinP (kA j) a 16 with
           | false=>simp (maxSteps:=4000000) -implicitDefEqProofs only [c88,Tryz.f88,aP,g0,g1,g2,g3,hli,r5,↓evLd,fa152_0,fa152_1,fa152_2,fa152_3,fa152_4,fa152_5,fa152_6,fa152_7,fa152_8,fa152_9,fa152_10,fa152_11,h0',h1',hjj,hkr,ia153,z152,st152,↓fc105,ev105,↓fc106,ev106,↓fc107,h107,hwi,hF,hf,hd,ha,↓evDn,evUp,eu,sevalprocAttr]
           | true =>
             cases hb:withinP (kB j) b 16 with
             | false=>simp (maxSteps:=4000000) -implicitDefEqProofs only [c88,Tryz.f88,aP,g0,g1,g2,g3,hli,r5,↓evLd,fa152_0,fa152_1,fa152_2,fa152_3,fa152_4,fa152_5,fa152_6,fa152_7,fa152_8,fa152_9,fa152_10,fa152_11,h0',h1',hjj,hkr,ia153,z152,st152,↓fc105,ev105,↓fc106,ev106,↓fc107,h107,hwi,hF,hf,hd,ha,hb,↓evDn,evUp,eu,sevalprocAttr]
             | true =>
               cases hi:immG c (kWord j) (kArr j) (kPar j) (kBar j) (kLoc j) imm with
               | false=>simp (maxSteps:=4000000) -implicitDefEqProofs only [c88,Tryz.f88,aP,g0,g1,g2,g3,hli,r5,↓evLd,fa152_0,fa152_1,fa152_2,fa152_3,fa152_4,fa152_5,fa152_6,fa152_7,fa152_8,fa152_9,fa152_10,fa152_11,h0',h1',hjj,hkr,ia153,z152,st152,↓fc105,ev105,↓fc106,ev106,↓fc107,h107,hwi,hF,hf,hd,ha,hb,hi,↓evDn,evUp,eu,sevalprocAttr]
               | true =>
                 cases ht:withinP (kTo j) to c.insns.length with
                 | false=>simp (maxSteps:=4000000) -implicitDefEqProofs only [c88,Tryz.f88,aP,g0,g1,g2,g3,hli,r5,↓evLd,fa152_0,fa152_1,fa152_2,fa152_3,fa152_4,fa152_5,fa152_6,fa152_7,fa152_8,fa152_9,fa152_10,fa152_11,h0',h1',hjj,hkr,ia153,z152,st152,↓fc105,ev105,↓fc106,ev106,↓fc107,h107,hwi,hF,hf,hd,ha,hb,hi,ht,↓evDn,evUp,eu,sevalprocAttr]
                 | true =>
                   simp (maxSteps:=4000000) -implicitDefEqProofs only [c88,Tryz.f88,aP,g0,g1,g2,g3,hli,r5,↓evLd,fa152_0,fa152_1,fa152_2,fa152_3,fa152_4,fa152_5,fa152_6,fa152_7,fa152_8,fa152_9,fa152_10,fa152_11,h0',h1',hjj,hkr,ia153,z152,st152,↓fc105,ev105,↓fc106,ev106,↓fc107,h107,hwi,hF,hf,hd,ha,hb,hi,ht,↓evDn,evUp,eu,sevalprocAttr]
def opP (k op:Int):Bool:=br (kFold k) (foldP op) (withinP (ltB 0 (kOps k)) op (kOps k))
theorem ev99k {k:Int} (h0:0<=k) (h1:k < 16) (op d a b imm to join:Int) (H:AH):Ev Tryz.prog C0 W0 99 [.agg (rowI (⟨k,op,d,a,b,imm,to,join⟩:Ins))] H=some (.bool (opP k op),H):=by
 refine cases16 (p:=fun k=>Ev Tryz.prog C0 W0 99 [.agg (rowI (⟨k,op,d,a,b,imm,to,join⟩:Ins))] H=some (.bool (opP k op),H)) h0 h1 ?_ ?_ ?_ ?_ ?_ ?_ ?_ ?_ ?_ ?_ ?_ ?_ ?_ ?_ ?_ ?_
 · obtain ⟨tm,ht,g0,g1⟩:=tm1 (.agg (rowI (⟨0,op,d,a,b,imm,to,join⟩:Ins))) 44 (by decide)
   rw [fe99,ht]
   rw [<-List.append_nil (ro H)]
   simp (maxSteps:=4000000) -implicitDefEqProofs only [c99,Tryz.f99,aP,g0,g1,r5,↓evLd,eqQ,↓fc122,ev122,↓evDn,evUp,eu,sevalprocAttr]
   first | done | rfl
 · obtain ⟨tm,ht,g0,g1⟩:=tm1 (.agg (rowI (⟨1,op,d,a,b,imm,to,join⟩:Ins))) 44 (by decide)
   rw [fe99,ht]
   rw [<-List.append_nil (ro H)]
   simp (maxSteps:=4000000) -implicitDefEqProofs only [c99,Tryz.f99,aP,g0,g1,r5,↓evLd,eqQ,↓fc122,ev122,↓evDn,evUp,eu,sevalprocAttr]
   first | done | rfl
 · obtain ⟨tm,ht,g0,g1⟩:=tm1 (.agg (rowI (⟨2,op,d,a,b,imm,to,join⟩:Ins))) 44 (by decide)
   rw [fe99,ht]
   rw [<-List.append_nil (ro H)]
   cases hq:leB 0 op <;> simp (maxSteps:=4000000) -implicitDefEqProofs only [c99,Tryz.f99,aP,g0,g1,r5,↓evLd,eqQ,hq,↓fc122,ev122,↓evDn,evUp,eu,sevalprocAttr] <;> (show _=some (AV.bool (leB 0 op && _),H); rw [hq]; rfl)
 · obtain ⟨tm,ht,g0,g1⟩:=tm1 (.agg (rowI (⟨3,op,d,a,b,imm,to,join⟩:Ins))) 44 (by decide)
   rw [fe99,ht]
   rw [<-List.append_nil (ro H)]
   cases hq:leB 0 op <;> simp (maxSteps:=4000000) -implicitDefEqProofs only [c99,Tryz.f99,aP,g0,g1,r5,↓evLd,eqQ,hq,↓fc122,ev122,↓evDn,evUp,eu,sevalprocAttr] <;> (show _=some (AV.bool (leB 0 op && _),H); rw [hq]; rfl)
 · obtain ⟨tm,ht,g0,g1⟩:=tm1 (.agg (rowI (⟨4,op,d,a,b,imm,to,join⟩:Ins))) 44 (by decide)
   rw [fe99,ht]
   rw [<-List.append_nil (ro H)]
   cases hq:leB 0 op <;> simp (maxSteps:=4000000) -implicitDefEqProofs only [c99,Tryz.f99,aP,g0,g1,r5,↓evLd,eqQ,hq,↓fc122,ev122,↓evDn,evUp,eu,sevalprocAttr] <;> (show _=some (AV.bool (leB 0 op && _),H); rw [hq]; rfl)
 · obtain ⟨tm,ht,g0,g1⟩:=tm1 (.agg (rowI (⟨5,op,d,a,b,imm,to,join⟩:Ins))) 44 (by decide)
   rw [fe99,ht]
   rw [<-List.append_nil (ro H)]
   simp (maxSteps:=4000000) -implicitDefEqProofs only [c99,Tryz.f99,aP,g0,g1,r5,↓evLd,eqQ,↓fc122,ev122,↓evDn,evUp,eu,sevalprocAttr]
   first | done | rfl
 · obtain ⟨tm,ht,g0,g1⟩:=tm1 (.agg (rowI (⟨6,op,d,a,b,imm,to,join⟩:Ins))) 44 (by decide)
   rw [fe99,ht]
   rw [<-List.append_nil (ro H)]
   simp (maxSteps:=4000000) -implicitDefEqProofs only [c99,Tryz.f99,aP,g0,g1,r5,↓evLd,eqQ,↓fc122,ev122,↓evDn,evUp,eu,sevalprocAttr]
   first | done | rfl
 · obtain ⟨tm,ht,g0,g1⟩:=tm1 (.agg (rowI (⟨7,op,d,a,b,imm,to,join⟩:Ins))) 44 (by decide)
   rw [fe99,ht]
   rw [<-List.append_nil (ro H)]
   simp (maxSteps:=4000000) -implicitDefEqProofs only [c99,Tryz.f99,aP,g0,g1,r5,↓evLd,eqQ,↓fc122,ev122,↓evDn,evUp,eu,sevalprocAttr]
   first | done | rfl
 · obtain ⟨tm,ht,g0,g1⟩:=tm1 (.agg (rowI (⟨8,op,d,a,b,imm,to,join⟩:Ins))) 44 (by decide)
   rw [fe99,ht]
   rw [<-List.append_nil (ro H)]
   simp (maxSteps:=4000000) -implicitDefEqProofs only [c99,Tryz.f99,aP,g0,g1,r5,↓evLd,eqQ,↓fc122,ev122,↓evDn,evUp,eu,sevalprocAttr]
   first | done | rfl
 · obtain ⟨tm,ht,g0,g1⟩:=tm1 (.agg (rowI (⟨9,op,d,a,b,imm,to,join⟩:Ins))) 44 (by decide)
   rw [fe99,ht]
   rw [<-List.append_nil (ro H)]
   simp (maxSteps:=4000000) -implicitDefEqProofs only [c99,Tryz.f99,aP,g0,g1,r5,↓evLd,eqQ,↓fc122,ev122,↓evDn,evUp,eu,sevalprocAttr]
   first | done | rfl
 · obtain ⟨tm,ht,g0,g1⟩:=tm1 (.agg (rowI (⟨10,op,d,a,b,imm,to,join⟩:Ins))) 44 (by decide)
   rw [fe99,ht]
   rw [<-List.append_nil (ro H)]
   simp (maxSteps:=4000000) -implicitDefEqProofs only [c99,Tryz.f99,aP,g0,g1,r5,↓evLd,eqQ,↓fc122,ev122,↓evDn,evUp,eu,sevalprocAttr]
   first | done | rfl
 · obtain ⟨tm,ht,g0,g1⟩:=tm1 (.agg (rowI (⟨11,op,d,a,b,imm,to,join⟩:Ins))) 44 (by decide)
   rw [fe99,ht]
   rw [<-List.append_nil (ro H)]
   simp (maxSteps:=4000000) -implicitDefEqProofs only [c99,Tryz.f99,aP,g0,g1,r5,↓evLd,eqQ,↓fc122,ev122,↓evDn,evUp,eu,sevalprocAttr]
   first | done | rfl
 · obtain ⟨tm,ht,g0,g1⟩:=tm1 (.agg (rowI (⟨12,op,d,a,b,imm,to,join⟩:Ins))) 44 (by decide)
   rw [fe99,ht]
   rw [<-List.append_nil (ro H)]
   simp (maxSteps:=4000000) -implicitDefEqProofs only [c99,Tryz.f99,aP,g0,g1,r5,↓evLd,eqQ,↓fc122,ev122,↓evDn,evUp,eu,sevalprocAttr]
   first | done | rfl
 · obtain ⟨tm,ht,g0,g1⟩:=tm1 (.agg (rowI (⟨13,op,d,a,b,imm,to,join⟩:Ins))) 44 (by decide)
   rw [fe99,ht]
   rw [<-List.append_nil (ro H)]
   simp (maxSteps:=4000000) -implicitDefEqProofs only [c99,Tryz.f99,aP,g0,g1,r5,↓evLd,eqQ,↓fc122,ev122,↓evDn,evUp,eu,sevalprocAttr]
   first | done | rfl
 · obtain ⟨tm,ht,g0,g1⟩:=tm1 (.agg (rowI (⟨14,op,d,a,b,imm,to,join⟩:Ins))) 44 (by decide)
   rw [fe99,ht]
   rw [<-List.append_nil (ro H)]
   simp (maxSteps:=4000000) -implicitDefEqProofs only [c99,Tryz.f99,aP,g0,g1,r5,↓evLd,eqQ,↓fc122,ev122,↓evDn,evUp,eu,sevalprocAttr]
   first | done | rfl
 · obtain ⟨tm,ht,g0,g1⟩:=tm1 (.agg (rowI (⟨15,op,d,a,b,imm,to,join⟩:Ins))) 44 (by decide)
   rw [fe99,ht]
   rw [<-List.append_nil (ro H)]
   simp (maxSteps:=4000000) -implicitDefEqProofs only [c99,Tryz.f99,aP,g0,g1,r5,↓evLd,eqQ,↓fc122,ev122,↓evDn,evUp,eu,sevalprocAttr]
   first | done | rfl
theorem ev99 {x:Ins} (h0:0<=x.kind) (h1:x.kind < 16) (H:AH):Ev Tryz.prog C0 W0 99 [.agg (rowI x)] H=some (.bool (opP x.kind x.op),H):=by
 obtain ⟨k,op,d,a,b,imm,to,join⟩:=x
 exact ev99k h0 h1 op d a b imm to join H
theorem ev100k {H:AH} {c:Cod} {vp vs vi:AV} (h:CodR H c vp vs vi) {k:Int} (h0:0<=k) (h1:k < 16) (op d a b:Int) {imm:Int} (hn:i32R imm) (to join:Int):Ev Tryz.prog C0 W0 100 [.agg (rowC c vp vs vi),.agg (rowI (⟨k,op,d,a,b,imm,to,join⟩:Ins))] H=some (.bool (immG c (kWord k) (kArr k) (kPar k) (kBar k) (kLoc k) imm),H):=by
 have hn':=hn
 obtain ⟨n0,n1⟩:=hn
 have hlp:=h.ro.lp
 have hls:=h.ro.ls
 have hwn:IntKind.i64.wrap imm=imm:=wr_i (by omega)
 have h123:=fun L=>ev123 (h.ro.agree (Agree.app _ L)) hn'
 simp only [rowC] at h123
 refine cases16 (p:=fun k=>Ev Tryz.prog C0 W0 100 [.agg (rowC c vp vs vi),.agg (rowI (⟨k,op,d,a,b,imm,to,join⟩:Ins))] H=some (.bool (immG c (kWord k) (kArr k) (kPar k) (kBar k) (kLoc k) imm),H)) h0 h1 ?_ ?_ ?_ ?_ ?_ ?_ ?_ ?_ ?_ ?_ ?_ ?_ ?_ ?_ ?_ ?_
 · obtain ⟨tm,ht,g0,g1,g2⟩:=tm2 (.agg (rowC c vp vs vi)) (.agg (rowI (⟨0,op,d,a,b,imm,to,join⟩:Ins))) 69 (by decide)
   rw [fe100,ht]
   rw [<-List.append_nil (ro H)]
   simp (maxSteps:=4000000) -implicitDefEqProofs only [c100,Tryz.f100,aP,g0,g1,g2,r5,↓evLd,eqQ,hlp,hls,hwn,↓fc123,h123,↓evDn,evUp,eu,sevalprocAttr]
   first | rfl | done
 · obtain ⟨tm,ht,g0,g1,g2⟩:=tm2 (.agg (rowC c vp vs vi)) (.agg (rowI (⟨1,op,d,a,b,imm,to,join⟩:Ins))) 69 (by decide)
   rw [fe100,ht]
   rw [<-List.append_nil (ro H)]
   simp (maxSteps:=4000000) -implicitDefEqProofs only [c100,Tryz.f100,aP,g0,g1,g2,r5,↓evLd,eqQ,hlp,hls,hwn,↓fc123,h123,↓evDn,evUp,eu,sevalprocAttr]
   first | rfl | done
 · obtain ⟨tm,ht,g0,g1,g2⟩:=tm2 (.agg (rowC c vp vs vi)) (.agg (rowI (⟨2,op,d,a,b,imm,to,join⟩:Ins))) 69 (by decide)
   rw [fe100,ht]
   rw [<-List.append_nil (ro H)]
   simp (maxSteps:=4000000) -implicitDefEqProofs only [c100,Tryz.f100,aP,g0,g1,g2,r5,↓evLd,eqQ,hlp,hls,hwn,↓fc123,h123,↓evDn,evUp,eu,sevalprocAttr]
   first | rfl | done
 · obtain ⟨tm,ht,g0,g1,g2⟩:=tm2 (.agg (rowC c vp vs vi)) (.agg (rowI (⟨3,op,d,a,b,imm,to,join⟩:Ins))) 69 (by decide)
   rw [fe100,ht]
   rw [<-List.append_nil (ro H)]
   simp (maxSteps:=4000000) -implicitDefEqProofs only [c100,Tryz.f100,aP,g0,g1,g2,r5,↓evLd,eqQ,hlp,hls,hwn,↓fc123,h123,↓evDn,evUp,eu,sevalprocAttr]
   first | rfl | done
 · obtain ⟨tm,ht,g0,g1,g2⟩:=tm2 (.agg (rowC c vp vs vi)) (.agg (rowI (⟨4,op,d,a,b,imm,to,join⟩:Ins))) 69 (by decide)
   rw [fe100,ht]
   rw [<-List.append_nil (ro H)]
   simp (maxSteps:=4000000) -implicitDefEqProofs only [c100,Tryz.f100,aP,g0,g1,g2,r5,↓evLd,eqQ,hlp,hls,hwn,↓fc123,h123,↓evDn,evUp,eu,sevalprocAttr]
   first | rfl | done
 · obtain ⟨tm,ht,g0,g1,g2⟩:=tm2 (.agg (rowC c vp vs vi)) (.agg (rowI (⟨5,op,d,a,b,imm,to,join⟩:Ins))) 69 (by decide)
   rw [fe100,ht]
   rw [<-List.append_nil (ro H)]
   cases h0:leB 0 imm with
   | false =>
     simp (maxSteps:=4000000) -implicitDefEqProofs only [c100,Tryz.f100,aP,g0,g1,g2,r5,↓evLd,eqQ,hlp,hls,hwn,↓fc123,h123,h0,↓evDn,evUp,eu,sevalprocAttr]
     show _=some (AV.bool (leB 0 imm && _ && _),H)
     rw [h0]
     rfl
   | true =>
     cases hl:ltB imm c.params.length with
     | false =>
       simp (maxSteps:=4000000) -implicitDefEqProofs only [c100,Tryz.f100,aP,g0,g1,g2,r5,↓evLd,eqQ,hlp,hls,hwn,↓fc123,h123,h0,hl,↓evDn,evUp,eu,sevalprocAttr]
       show _=some (AV.bool (leB 0 imm && ltB imm c.params.length && _),H)
       rw [h0,hl]
       rfl
     | true =>
       rw [leB_iff] at h0
       obtain ⟨j,rfl⟩:∃ j:Nat,imm=j:=⟨imm.toNat,by omega⟩
       have hj:j < c.params.length:=by have:=(ltB_iff _ _).1 hl; omega
       obtain ⟨i,kk,hi,hr0,hr1,hr2,hb⟩:=prm_at h.ro (Agree.refl _) hj
       have h0':leB 0 (j:Int)=true:=leB_t (by omega)
       simp (maxSteps:=4000000) -implicitDefEqProofs only [c100,Tryz.f100,aP,g0,g1,g2,r5,↓evLd,eqQ,hlp,hls,hwn,↓fc123,h123,h0',hl,hi,hr1,↓evDn,evUp,eu,sevalprocAttr]
       show _=some (AV.bool (leB 0 (j:Int) && ltB (j:Int) c.params.length && !bufAt c j),H)
       rw [h0',hl,hb]
       rfl
 · obtain ⟨tm,ht,g0,g1,g2⟩:=tm2 (.agg (rowC c vp vs vi)) (.agg (rowI (⟨6,op,d,a,b,imm,to,join⟩:Ins))) 69 (by decide)
   rw [fe100,ht]
   rw [<-List.append_nil (ro H)]
   simp (maxSteps:=4000000) -implicitDefEqProofs only [c100,Tryz.f100,aP,g0,g1,g2,r5,↓evLd,eqQ,hlp,hls,hwn,↓fc123,h123,↓evDn,evUp,eu,sevalprocAttr]
   rfl
 · obtain ⟨tm,ht,g0,g1,g2⟩:=tm2 (.agg (rowC c vp vs vi)) (.agg (rowI (⟨7,op,d,a,b,imm,to,join⟩:Ins))) 69 (by decide)
   rw [fe100,ht]
   rw [<-List.append_nil (ro H)]
   simp (maxSteps:=4000000) -implicitDefEqProofs only [c100,Tryz.f100,aP,g0,g1,g2,r5,↓evLd,eqQ,hlp,hls,hwn,↓fc123,h123,↓evDn,evUp,eu,sevalprocAttr]
   rfl
 · obtain ⟨tm,ht,g0,g1,g2⟩:=tm2 (.agg (rowC c vp vs vi)) (.agg (rowI (⟨8,op,d,a,b,imm,to,join⟩:Ins))) 69 (by decide)
   rw [fe100,ht]
   rw [<-List.append_nil (ro H)]
   simp (maxSteps:=4000000) -implicitDefEqProofs only [c100,Tryz.f100,aP,g0,g1,g2,r5,↓evLd,eqQ,hlp,hls,hwn,↓fc123,h123,↓evDn,evUp,eu,sevalprocAttr]
   rfl
 · obtain ⟨tm,ht,g0,g1,g2⟩:=tm2 (.agg (rowC c vp vs vi)) (.agg (rowI (⟨9,op,d,a,b,imm,to,join⟩:Ins))) 69 (by decide)
   rw [fe100,ht]
   rw [<-List.append_nil (ro H)]
   cases h0:leB 0 imm <;> simp (maxSteps:=4000000) -implicitDefEqProofs only [c100,Tryz.f100,aP,g0,g1,g2,r5,↓evLd,eqQ,hlp,hls,hwn,↓fc123,h123,h0,↓evDn,evUp,eu,sevalprocAttr] <;> first | rfl | (show _=some (AV.bool (leB 0 imm && _),H); rw [h0]; rfl)
 · obtain ⟨tm,ht,g0,g1,g2⟩:=tm2 (.agg (rowC c vp vs vi)) (.agg (rowI (⟨10,op,d,a,b,imm,to,join⟩:Ins))) 69 (by decide)
   rw [fe100,ht]
   rw [<-List.append_nil (ro H)]
   cases h0:leB 0 imm <;> simp (maxSteps:=4000000) -implicitDefEqProofs only [c100,Tryz.f100,aP,g0,g1,g2,r5,↓evLd,eqQ,hlp,hls,hwn,↓fc123,h123,h0,↓evDn,evUp,eu,sevalprocAttr] <;> first | rfl | (show _=some (AV.bool (leB 0 imm && _),H); rw [h0]; rfl)
 · obtain ⟨tm,ht,g0,g1,g2⟩:=tm2 (.agg (rowC c vp vs vi)) (.agg (rowI (⟨11,op,d,a,b,imm,to,join⟩:Ins))) 69 (by decide)
   rw [fe100,ht]
   rw [<-List.append_nil (ro H)]
   cases h0:leB 0 imm <;> simp (maxSteps:=4000000) -implicitDefEqProofs only [c100,Tryz.f100,aP,g0,g1,g2,r5,↓evLd,eqQ,hlp,hls,hwn,↓fc123,h123,h0,↓evDn,evUp,eu,sevalprocAttr] <;> first | rfl | (show _=some (AV.bool (leB 0 imm && _),H); rw [h0]; rfl)
 · obtain ⟨tm,ht,g0,g1,g2⟩:=tm2 (.agg (rowC c vp vs vi)) (.agg (rowI (⟨12,op,d,a,b,imm,to,join⟩:Ins))) 69 (by decide)
   rw [fe100,ht]
   rw [<-List.append_nil (ro H)]
   cases h0:leB 0 imm <;> simp (maxSteps:=4000000) -implicitDefEqProofs only [c100,Tryz.f100,aP,g0,g1,g2,r5,↓evLd,eqQ,hlp,hls,hwn,↓fc123,h123,h0,↓evDn,evUp,eu,sevalprocAttr] <;> first | rfl | (show _=some (AV.bool (leB 0 imm && _),H); rw [h0]; rfl)
 · obtain ⟨tm,ht,g0,g1,g2⟩:=tm2 (.agg (rowC c vp vs vi)) (.agg (rowI (⟨13,op,d,a,b,imm,to,join⟩:Ins))) 69 (by decide)
   rw [fe100,ht]
   rw [<-List.append_nil (ro H)]
   simp (maxSteps:=4000000) -implicitDefEqProofs only [c100,Tryz.f100,aP,g0,g1,g2,r5,↓evLd,eqQ,hlp,hls,hwn,↓fc123,h123,↓evDn,evUp,eu,sevalprocAttr]
   first | rfl | done
 · obtain ⟨tm,ht,g0,g1,g2⟩:=tm2 (.agg (rowC c vp vs vi)) (.agg (rowI (⟨14,op,d,a,b,imm,to,join⟩:Ins))) 69 (by decide)
   rw [fe100,ht]
   rw [<-List.append_nil (ro H)]
   simp (maxSteps:=4000000) -implicitDefEqProofs only [c100,Tryz.f100,aP,g0,g1,g2,r5,↓evLd,eqQ,hlp,hls,hwn,↓fc123,h123,↓evDn,evUp,eu,sevalprocAttr]
   first | rfl | done
 · obtain ⟨tm,ht,g0,g1,g2⟩:=tm2 (.agg (rowC c vp vs vi)) (.agg (rowI (⟨15,op,d,a,b,imm,to,join⟩:Ins))) 69 (by decide)
   rw [fe100,ht]
   rw [<-List.append_nil (ro H)]
   simp (maxSteps:=4000000) -implicitDefEqProofs only [c100,Tryz.f100,aP,g0,g1,g2,r5,↓evLd,eqQ,hlp,hls,hwn,↓fc123,h123,↓evDn,evUp,eu,sevalprocAttr]
   first | rfl | done
end Go.Dv
