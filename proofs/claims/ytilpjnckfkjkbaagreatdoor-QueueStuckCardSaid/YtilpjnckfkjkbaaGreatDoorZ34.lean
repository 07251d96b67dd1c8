/- Part 34 of the walks (own work). -/
import Derived.Test.YtilpjnckfkjkbaaGreatDoorZ33
set_option maxRecDepth 100000
set_option maxHeartbeats 4000000
set_option linter.unusedSimpArgs false
set_option linter.unusedVariables false
namespace Go.Dv
open Go.Proofs
attribute [local congr] bind_congr_first cb_congr condA_congr gd_congr br_congr
def recS (rc:List Bool) (n:Nat):List Nat:=(List.range n).filter fun e=>rc.getD e false
theorem recS_succ (rc:List Bool) (n:Nat):recS rc (n+1)=recS rc n++if rc.getD n false then [n] else []:=by
 unfold recS
 rw [List.range_succ,List.filter_append,List.filter_cons,List.filter_nil]
theorem recS_le (rc:List Bool) (n:Nat):(recS rc n).length<=n:=by
 unfold recS
 exact Nat.le_trans (List.length_filter_le _ _) (by rw [List.length_range]; exact Nat.le_refl _)
theorem aop_ix {C:Cfg Tryz.prog} (slot:Option Nat) (ev:Operand->Option AV) (dst:Option Tmp) (ty:TypeId) (pos:String) (after:Array Edge) (g:Option (Nat × Bool)) (H:AH) (x i:Operand):aop Tryz.prog C slot ev ⟨dst,.index 69 x i,ty,pos,after,g⟩ H=(pureA Tryz.prog ev ⟨dst,.index 69 x i,ty,pos,after,g⟩).map fun n=>(n,H):=rfl
theorem rc_part {vc vm vs va:AV} {f:Con} {rc:List Bool} {en:Int} (hr:rc.length=16):((rowQ vc vm vs va f rc en).drop 11).take 16=rc.map .bool:=by
 unfold rowQ rowF
 simp [hr]
theorem rec15_l {G:AH} {q:Nat} {rc:List Bool} (hlr:rc.length=16):∀ (d j:Nat) (tm:List AV) (K:AH),16 - j=d->j<=16->(tm.length=24/\tm.getD 0 uA=.ptr q 0/\tm.getD 12 uA=.agg (rc.map .bool)/\tm.getD 13 uA=I ((j:Nat):Int)/\Agree G K/\∃ v,tm.getD 3 uA=v/\Own G.length K 1 3 v ((recS rc (j)).map fun (n:Nat)=>I (n:Int))) ->
   ∃ X K1,EvC Tryz.prog C0 W0 plN l15_0 (tm,K)=some (.exit 0,(X,K1))/\(X.length=24/\X.getD 0 uA=.ptr q 0/\X.getD 12 uA=.agg (rc.map .bool)/\X.getD 13 uA=I ((16:Nat):Int)/\Agree G K1/\∃ v,X.getD 3 uA=v/\Own G.length K1 1 3 v ((recS rc (16)).map fun (n:Nat)=>I (n:Int))):=by
 intro d
 induction d with
 | zero =>
   intro j tm K hd hj hI
   have hjl:j=16:=by omega
   subst hjl
   obtain ⟨hlen,h0,h12,h13,hA,v,h3,ho⟩:=hI
   have hlt:ltB ((16:Nat):Int) 16=false:=ltB_f (by omega)
   rw [el15_0]
   simp -implicitDefEqProofs only [b15_0,Tryz.f15,aP,hlen,h0,h12,h13,h3,hlt,r5,↓evLd,nck,↓cbT,↓cbF,↓evDn,evUp,eu,sevalprocAttr]
   exact ⟨_,K,rfl,by simp only [ls,hlen],Aj3 (by simp only [hlen,h0,h12,h13,gB,and_self,sevalprocAttr]) ⟨hA,v,by simp only [hlen,h3,gB,sevalprocAttr],ho⟩⟩
 | succ d ih =>
   intro j tm K hd hj hI
   have hjN:j < 16:=by omega
   obtain ⟨hlen,h0,h12,h13,hA,v,h3,ho⟩:=hI
   have hlt:ltB (j:Int) 16=true:=ltB_t (by omega)
   have hw:=inc_i (j:=j) (by omega)
   have hix:=fun ev x i hx hi dst ty pos after g=>ix69p (ev:=ev) (x:=x) (i:=i) hlr hjN hx hi dst ty pos after g
   have key:∀ (tmN:List AV) (KN:AH) (Z:Option (AExit × St)),EvC Tryz.prog C0 W0 plN l15_0 (tmN,KN)=Z->(tmN.length=24/\tmN.getD 0 uA=.ptr q 0/\tmN.getD 12 uA=.agg (rc.map .bool)/\tmN.getD 13 uA=I (((j+1):Nat):Int)/\Agree G KN/\∃ v,tmN.getD 3 uA=v/\Own G.length KN 1 3 v ((recS rc ((j+1))).map fun (n:Nat)=>I (n:Int)))->∃ X K1,Z=some (.exit 0,(X,K1))/\(X.length=24/\X.getD 0 uA=.ptr q 0/\X.getD 12 uA=.agg (rc.map .bool)/\X.getD 13 uA=I ((16:Nat):Int)/\Agree G K1/\∃ v,X.getD 3 uA=v/\Own G.length K1 1 3 v ((recS rc (16)).map fun (n:Nat)=>I (n:Int))):=by
     intro tmN KN Z h hJ
     obtain ⟨X,K1,A,B⟩:=ih (j+1) tmN KN (by omega) (by omega) hJ
     exact ⟨X,K1,h.symm.trans A,B⟩
   rw [el15_0]
   rw [recS_succ] at key
   cases hb:rc.getD j false with
   | true =>
     rw [hb] at hix key
     obtain ⟨v',K',happ,hA',ho',_⟩:=app_int hA ho (by have:=recS_le rc j; omega) j
     have bs:=bs30' (j:Int) K
     simp -implicitDefEqProofs only [b15_0,Tryz.f15,aP,hlen,h0,h12,h13,h3,hlt,hw,↓aop_ix,hix,bs,↓callA_append,happ,r5,↓evLd,nck,↓cbT,↓cbF,↓evDn,evUp,eu,sevalprocAttr]
     generalize hX:EvC Tryz.prog C0 W0 _ _ _=Z
     exact key _ _ _ hX ⟨by simp only [ls,hlen],Aj3 (by simp only [hlen,h0,h12,h13,gB,and_self,sevalprocAttr]) ⟨hA',v',by simp only [hlen,h3,gB,sevalprocAttr],ho'⟩⟩
   | false =>
     rw [hb] at hix key
     simp -implicitDefEqProofs only [b15_0,Tryz.f15,aP,hlen,h0,h12,h13,h3,hlt,hw,↓aop_ix,hix,r5,↓evLd,nck,↓cbT,↓cbF,↓evDn,evUp,eu,sevalprocAttr]
     generalize hX:EvC Tryz.prog C0 W0 _ _ _=Z
     exact key _ _ _ hX ⟨by simp only [ls,hlen],Aj3 (by simp only [hlen,h0,h12,h13,gB,and_self,sevalprocAttr]) ⟨hA,v,by simp only [hlen,h3,gB,sevalprocAttr],by rw [if_neg Bool.false_ne_true,List.append_nil]; exact ho⟩⟩
theorem rec15_l' {G:AH} {q:Nat} {rc:List Bool} (hlr:rc.length=16) {tm:List AV} {K:AH} {Z:Option (AExit × St)} (hX:EvC Tryz.prog C0 W0 plN l15_0 (tm,K)=Z) (hI:tm.length=24/\tm.getD 0 uA=.ptr q 0/\tm.getD 12 uA=.agg (rc.map .bool)/\tm.getD 13 uA=I ((0:Nat):Int)/\Agree G K/\∃ v,tm.getD 3 uA=v/\Own G.length K 1 3 v ((recS rc (0)).map fun (n:Nat)=>I (n:Int))) :
   ∃ X K1,Z=some (.exit 0,(X,K1))/\(X.length=24/\X.getD 0 uA=.ptr q 0/\X.getD 12 uA=.agg (rc.map .bool)/\X.getD 13 uA=I ((16:Nat):Int)/\Agree G K1/\∃ v,X.getD 3 uA=v/\Own G.length K1 1 3 v ((recS rc (16)).map fun (n:Nat)=>I (n:Int))):=by
 subst hX
 exact rec15_l hlr _ 0 tm K rfl (Nat.zero_le _) hI
theorem ev15 {G:AH} {q:Nat} {vc vm vs va:AV} {f:Con} {ss:List (List Itm)} {ad:List Nat} {m:List (List Int)} {rc:List Bool} (h:QueV G q vc vm vs va f ss ad m rc 0):∃ v K,Ev Tryz.prog C0 W0 15 [.ptr q 0] G=some (v,K)/\Agree G K/\Own G.length K 1 3 v ((recS rc 16).map fun (n:Nat)=>I (n:Int)):=by
 obtain ⟨tm,ht,g0,g1⟩:=tm1 (.ptr q 0) 24 (by decide)
 rw [fe15,ht]
 have hr:rdCells G q 11 16=some (rc.map .bool):=by
   have:=rd_sub h.row 11 16 (by omega)
   rw [Nat.zero_add,rc_part h.lr] at this
   exact this
 simp -implicitDefEqProofs only [c15,Tryz.f15,aP,g0,g1,↓peq37,hr,r5,↓evLd,nck,↓cbT,↓cbF,↓evDn,evUp,eu,sevalprocAttr]
 generalize hX:EvC Tryz.prog C0 W0 plN (Code.loop _) _=Z
 obtain ⟨X,K1,he,xl,x0,x12,x13,xA,v,x3,xo⟩:=rec15_l' (G:=G) (q:=q) h.lr hX ⟨by simp only [ls,g0],Aj2 (by simp only [g0,g1,gB,and_self,sevalprocAttr]) ⟨by simp only [g0,gB,sevalprocAttr]; try rfl,Agree.refl G,.nilSlice,by simp only [g0,gB,sevalprocAttr],.nil⟩⟩
 subst he
 refine ⟨v,K1,?_,xA,xo⟩
 simp -implicitDefEqProofs only [aP,xl,x0,x3,r5,↓evLd,nck,↓cbT,↓cbF,↓evDn,evUp,eu,sevalprocAttr]
def RowB (G K0 K:AH) (xs:List Itm) (j:Nat) (v:AV):Prop:=∃ l:List (Itm × AV),l.map (·.1)=(xs.take j).filter nkB/\(∀ p∈l,SlS 32 1 G p.2 (p.1.args.map row1))/\Own K0.length K 9 34 v (flR l).flatten
theorem take_filterB {xs:List Itm} {j:Nat} (hj:j < xs.length):(xs.take (j+1)).filter nkB=(xs.take j).filter nkB++if nkB (itmAt xs j) then [itmAt xs j] else []:=by
 rw [List.take_add_one,itmAt_lt hj,List.filter_append]
 refine congrArg (fun z=>List.filter nkB (xs.take j)++z) ?_
 simp only [Option.toList_some,List.filter_cons,List.filter_nil]
theorem RowB.miss {G K0 K K':AH} {xs:List Itm} {j:Nat} {v:AV} (hj:j < xs.length) (h:RowB G K0 K xs j v) (hA:Agree K K') (hp:nkB (itmAt xs j)=false):RowB G K0 K' xs (j+1) v:=by
 obtain ⟨l,h1,h2,h3⟩:=h
 refine ⟨l,?_,h2,h3.agree hA⟩
 rw [take_filterB hj,hp,h1]
 simp
theorem app_itmB {G K0 K:AH} {xs:List Itm} {j:Nat} {v va:AV} (hj:j < xs.length) (hxl:∀ n,n<=xs.length->growOk (Tryz.prog.bytesOf 34) n=true) (hA:Agree K0 K) (h:RowB G K0 K xs j v) (hp:nkB (itmAt xs j)=true) (hs:SlS 32 1 G va ((itmAt xs j).args.map row1)) :
   ∃ v' K',appendA Tryz.prog none 31 (some 31) v (.slice K.length 0 9 1 1 true) (K++[.cells (rowX (itmAt xs j) va) 34])=some (v',K')/\Agree K0 K'/\RowB G K0 K' xs (j+1) v':=by
 obtain ⟨l,h1,h2,h3⟩:=h
 have hll:=h3.length
 have hl1:=congrArg List.length h1
 rw [List.length_map] at hl1
 have hl2:=List.length_filter_le nkB (xs.take j)
 rw [List.length_take] at hl2
 rw [flat_len (flR_len l),flR,List.length_map] at hll
 have hrow:Row (K++[.cells (rowX (itmAt xs j) va) 34]) 9 (.slice K.length 0 9 1 1 true) (rowX (itmAt xs j) va):=.at _ _ _ _ _ _ (by rw [rd_app0]; rfl)
 obtain ⟨v',K',he,h4,h5,_,_⟩:=app_rows at31c (hA.appR _) (h3.agree (Agree.app _ _)) hrow (rowX_one hs.one) (hxl _ (by rw [lenOfA_slice]; omega))
 refine ⟨v',K',he,h4,l++[(itmAt xs j,va)],?_,?_,?_⟩
 · rw [List.map_append,h1,take_filterB hj,hp]; rfl
 · intro p hpm
   rcases List.mem_append.1 hpm with h | h
   · exact h2 p h
   · rw [List.mem_singleton] at h; subst h; exact hs
 · have e:(flR (l++[(itmAt xs j,va)])).flatten=(flR l).flatten++rowX (itmAt xs j) va:=by unfold flR; rw [List.map_append,List.flatten_append]; simp
   rw [e]; exact h5
def AllV (H G K:AH) (ss:List (List Itm)) (i:Nat) (v:AV):Prop:=∃ rows:List (List (Itm × AV) × AV),rows.map (fun r=>r.1.map (·.1))=(ss.take i).map (·.filter nkB)/\(∀ r∈rows,(∀ p∈r.1,SlS 32 1 H p.2 (p.1.args.map row1))/\Own G.length K 9 34 r.2 (flR r.1).flatten/\(∀ c,blkO r.2=some c->blkO v≠some c))/\Own G.length K 1 31 v (rows.map (·.2))
theorem allv_step {H G K K1:AH} {ss:List (List Itm)} {i:Nat} {v w:AV} (hi:i < ss.length) (hsl:∀ n,n<=ss.length->growOk (Tryz.prog.bytesOf 31) n=true) (hA:Agree G K) (hA1:Agree K K1) (h:AllV H G K ss i v) (hw:RowB H K K1 (strAt ss i) (strAt ss i).length w) :
   ∃ v' K2,appendA Tryz.prog none 25 (some 25) v (.slice K1.length 0 1 1 1 true) (K1++[.cells [w] 31])=some (v',K2)/\Agree G K2/\AllV H G K2 ss (i+1) v':=by
 obtain ⟨rows,h1,h2,h3⟩:=h
 obtain ⟨l,w1,w2,w3⟩:=hw
 rw [List.take_length] at w1
 have hl:=h3.length
 have hr1:=congrArg List.length h1
 rw [List.length_map,List.length_map,List.length_take] at hr1
 rw [List.length_map] at hl
 have hA2:Agree K (K1++[.cells [w] 31]):=hA1.appR _
 have hwo:=w3.cells
 have hrow:Row (K1++[.cells [w] 31]) 1 (.slice K1.length 0 1 1 1 true) [w]:=.at _ _ _ _ _ _ (by rw [rd_app0]; rfl)
 obtain ⟨v',K2,he,ho,hlen,hsame,hblk⟩:=app_own at25c (h3.agree hA2) (by rw [List.length_append]; have:=hA.len; have:=hA1.len; omega) hrow (by simp [hwo.2]) (hsl _ (by rw [lenOfA_slice]; omega))
 have hK1:=hA1.len
 have hlen1:(K1++[AObj.cells [w] 31]).length=K1.length+1:=by simp
 refine ⟨v',K2,he,fun c hc=>?_,rows++[(l,w)],?_,?_,?_⟩
 · have hGK:=hA.len
   rw [hsame c (by omega) (fun e=>by have:=(own_blkq h3 e).1; omega),hA2 c (by omega),hA c hc]
 · rw [List.map_append,h1,List.take_add_one,List.map_append,strAt_lt hi]
   simp only [List.map_cons,List.map_nil,Option.toList_some,w1]
 · intro r hr
   rcases List.mem_append.1 hr with hr | hr
   · obtain ⟨a1,a2,a3⟩:=h2 r hr
     refine ⟨a1,own_frame (a2.agree hA2) (fun c hc=>?_),fun c hc e=>?_⟩
     · have:=(own_blkq a2 hc).2
       exact hsame c (by omega) (a3 c hc)
     · rcases hblk c e with e | e
       · exact a3 c hc e
       · have:=(own_blkq a2 hc).2; omega
   · rw [List.mem_singleton] at hr
     subst hr
     refine ⟨w2,?_,fun c hc e=>?_⟩
     · refine own_frame ((w3.agree (Agree.app K1 [AObj.cells [w] 31])).up hA.len) (fun c hc=>?_)
       have:=own_blkq w3 hc
       exact hsame c (by omega) (fun e=>by have:=(own_blkq h3 e).2; omega)
     · have h5:=own_blkq w3 hc
       rcases hblk c e with e | e
       · have:=(own_blkq h3 e).2; omega
       · omega
 · rw [List.map_append]; exact ho
theorem bareS_len (ss:List (List Itm)):(bareS ss).length=ss.length:=by unfold bareS; rw [List.length_map]
theorem allv_fin {H G K:AH} {ss:List (List Itm)} {vs v:AV} (hs:StrsR H ss vs) (hA:Agree H K) (h:AllV H G K ss ss.length v):StrsR K (bareS ss) v:=by
 obtain ⟨rows,h1,h2,h3⟩:=h
 rw [List.take_length] at h1
 have hx:∀ l∈ss,l.length < 2 ^ 50/\∀ x∈l,x.args.length < 2 ^ 50/\(∀ a∈x.args,i32R a)/\i32R x.word:=fun r hr=>by
   obtain ⟨⟨ls,e,_,hi⟩,_⟩:=hs
   rw [<-e] at hr
   obtain ⟨p,hp,rfl⟩:=List.mem_map.1 hr
   obtain ⟨_,n,a,b,c⟩:=hi p hp
   exact ⟨n,fun x hx=>⟨a x hx,b x hx,c x hx⟩⟩
 have hrow:∀ r∈rows.map (fun (r:List (Itm × AV) × AV)=>[r.2]),r.length=1:=fun r hr=>by
   obtain ⟨p,_,rfl⟩:=List.mem_map.1 hr
   rfl
 have hcell:(rows.map fun (r:List (Itm × AV) × AV)=>[r.2]).flatten=rows.map (·.2):=flat1 _ _
 rw [<-hcell] at h3
 refine ⟨⟨rows.map fun r=>(r.1.map (·.1),r.2),?_,?_,?_⟩,by rw [bareS_len]; exact hs.n⟩
 · rw [List.map_map]; exact h1
 · rw [List.map_map]; exact Own.slsG ix25T (by decide) h3 hrow
 · intro p hp
   obtain ⟨r,hr,rfl⟩:=List.mem_map.1 hp
   obtain ⟨a1,a2,_⟩:=h2 r hr
   have hm:r.1.map (·.1)∈ss.map (·.filter nkB):=by rw [<-h1]; exact List.mem_map.2 ⟨r,hr,rfl⟩
   obtain ⟨l0,hl0,e⟩:=List.mem_map.1 hm
   obtain ⟨n0,f0⟩:=hx l0 hl0
   have hsub:∀ x∈r.1.map (·.1),x∈l0:=fun x hx=>by rw [<-e] at hx; exact (List.mem_filter.1 hx).1
   exact ⟨⟨r.1,rfl,Own.slsG ix31T (by decide) a2 (flR_len _),fun p hp=>(a1 p hp).same hA⟩,by
     show (r.1.map (·.1)).length < _
     rw [<-e]
     exact Nat.lt_of_le_of_lt (List.length_filter_le _ _) n0,fun x hx=>(f0 x (hsub x hx)).1,fun x hx=>(f0 x (hsub x hx)).2.1,fun x hx=>(f0 x (hsub x hx)).2.2⟩
theorem AllV.move {H G K K':AH} {ss:List (List Itm)} {i:Nat} {v:AV} (h:AllV H G K ss i v) (hf:∀ c,G.length<=c->K'[c]? =K[c]?):AllV H G K' ss i v:=by
 obtain ⟨rows,h1,h2,h3⟩:=h
 refine ⟨rows,h1,fun r hr=>?_,own_frame h3 fun c hc=>hf c (own_blkq h3 hc).1⟩
 obtain ⟨a1,a2,a3⟩:=h2 r hr
 exact ⟨a1,own_frame a2 fun c hc=>hf c (own_blkq a2 hc).1,a3⟩
theorem brow_l {H G K0:AH} {ss:List (List Itm)} {vs lv ta tb:AV} {i pb:Nat} (hs:StrsR H ss vs) (hH:Agree H G) (hG:Agree G K0) (hpb:∀ K,Agree G K->∀ L,rdCells (K++L) pb 2 1=some [vs]) (hi:i < ss.length) (hxl:∀ n,n<=(strAt ss i).length->growOk (Tryz.prog.bytesOf 34) n=true):∀ (d j:Nat) (tm:List AV) (K:AH),(strAt ss i).length - j=d->j<=(strAt ss i).length->(tm.length=133/\tm.getD 1 uA=ta/\tm.getD 2 uA=tb/\tm.getD 3 uA=.ptr pb 0/\tm.getD 7 uA=lv/\tm.getD 8 uA=I (i:Int)/\tm.getD 10 uA=I ((j:Nat):Int)/\Agree K0 K/\∃ v,tm.getD 9 uA=v/\RowB H K0 K (strAt ss i) (j) v) ->
   ∃ X K1,EvC Tryz.prog C0 W0 plN l3_0 (tm,K)=some (.exit 2,(X,K1))/\(X.length=133/\X.getD 1 uA=ta/\X.getD 2 uA=tb/\X.getD 3 uA=.ptr pb 0/\X.getD 7 uA=lv/\X.getD 8 uA=I (i:Int)/\X.getD 10 uA=I (((strAt ss i).length:Nat):Int)/\Agree K0 K1/\∃ v,X.getD 9 uA=v/\RowB H K0 K1 (strAt ss i) ((strAt ss i).length) v):=by
 intro d
 induction d with
 | zero =>
   intro j tm K hd hj hI
   have hjl:j=(strAt ss i).length:=by omega
   subst hjl
   obtain ⟨hlen,h1,h2,h3,h7,h8,h10,hA,v,h9,hv⟩:=hI
   have hlt:ltB (((strAt ss i).length:Nat):Int) ((strAt ss i).length:Nat)=false:=ltB_f (by omega)
   have hAG:=hG.trans hA
   obtain ⟨i0,k0,w0,hix,hrd,hx⟩:=hs.at (hH.trans hAG) hi
   have hrd:=hrd []
   have hq:=hpb K hAG []
   have hln:=hx.len
   rw [List.append_nil] at hrd hq
   rw [el3_0]
   simp -implicitDefEqProofs only [b3_0,Tryz.f3,aP,hlen,h1,h2,h3,h7,h8,h10,h9,hq,fa29_2,hix,hrd,hln,hlt,r5,↓evLd,nck,↓cbT,↓cbF,↓evDn,evUp,eu,sevalprocAttr]
   exact ⟨_,K,rfl,by simp only [ls,hlen],Aj6 (by simp only [hlen,h1,h2,h3,h7,h8,h10,gB,and_self,sevalprocAttr]) ⟨hA,v,by simp only [hlen,h9,gB,sevalprocAttr],hv⟩⟩
 | succ d ih =>
   intro j tm K hd hj hI
   have hjN:j < (strAt ss i).length:=by omega
   obtain ⟨hlen,h1,h2,h3,h7,h8,h10,hA,v,h9,hv⟩:=hI
   have hlt:ltB (j:Int) ((strAt ss i).length:Nat)=true:=ltB_t (by omega)
   have hAG:=hG.trans hA
   have hHK:=hH.trans hAG
   obtain ⟨i0,k0,w0,hix,hrd,hx⟩:=hs.at hHK hi
   have hxn:=hx.n
   have hw:=inc_i (j:=j) (by omega)
   have hq:=hpb K hAG
   have hln:=hx.len
   obtain ⟨i2,k2,va,hix2,hrd2',hsa⟩:=hx.at (Agree.refl H) hjN
   have hrd2:∀ L,rdCells (K++L) i2 k2 9=some (rowX (itmAt (strAt ss i) j) va):=fun L=>by have:=hrd2' []; rw [List.append_nil] at this; exact rd_same (hHK.appR L) this
   have hk0:∀ L,rdCells (K++L) i2 k2 1=some [I (itmAt (strAt ss i) j).kind]:=fun L=>by have:=rd_cell (hrd2 L) (j:=0) (x:=I (itmAt (strAt ss i) j).kind) rfl; rwa [Nat.add_zero] at this
   have oc:=hsa.cells
   have oo:=hsa.one
   have key:∀ (tmN:List AV) (KN:AH) (Z:Option (AExit × St)),EvC Tryz.prog C0 W0 plN l3_0 (tmN,KN)=Z->(tmN.length=133/\tmN.getD 1 uA=ta/\tmN.getD 2 uA=tb/\tmN.getD 3 uA=.ptr pb 0/\tmN.getD 7 uA=lv/\tmN.getD 8 uA=I (i:Int)/\tmN.getD 10 uA=I (((j+1):Nat):Int)/\Agree K0 KN/\∃ v,tmN.getD 9 uA=v/\RowB H K0 KN (strAt ss i) ((j+1)) v)->∃ X K1,Z=some (.exit 2,(X,K1))/\(X.length=133/\X.getD 1 uA=ta/\X.getD 2 uA=tb/\X.getD 3 uA=.ptr pb 0/\X.getD 7 uA=lv/\X.getD 8 uA=I (i:Int)/\X.getD 10 uA=I (((strAt ss i).length:Nat):Int)/\Agree K0 K1/\∃ v,X.getD 9 uA=v/\RowB H K0 K1 (strAt ss i) ((strAt ss i).length) v):=by
     intro tmN KN Z h hJ
     obtain ⟨X,K1,A,B⟩:=ih (j+1) tmN KN (by omega) (by omega) hJ
     exact ⟨X,K1,h.symm.trans A,B⟩
   have hmiss:=fun K' (h:Agree K K') (hp:nkB (itmAt (strAt ss i) j)=false)=>hv.miss hjN h hp
   have happ':=fun hp=>app_itmB hjN hxl hA hv hp hsa
   have hpd:nkB (itmAt (strAt ss i) j)=!eqB (itmAt (strAt ss i) j).kind 0:=by
     rw [Bool.eq_iff_iff,nkB_iff,Bool.not_eq_true',eqB_iff0]
   generalize itmAt (strAt ss i) j=x at *
   simp only [rowX] at hrd2 happ'
   rw [el3_0]
   rw [<-List.append_nil K]
   cases e0:eqB x.kind 0 with
   | false =>
     obtain ⟨v',K',happ,hA',hv'⟩:=happ' (by rw [hpd,e0]; rfl)
     simp -implicitDefEqProofs only [b3_0,Tryz.f3,aP,hlen,h1,h2,h3,h7,h8,h10,h9,hq,fa29_2,hix,hrd,hln,hlt,hix2,hk0,hrd2,↓oc,↓oo,e0,bs31,↓callA_append,happ,hw,r5,↓evLd,nck,↓cbT,↓cbF,↓evDn,evUp,eu,sevalprocAttr]
     generalize hX:EvC Tryz.prog C0 W0 _ _ _=Z
     exact key _ _ _ hX ⟨by simp only [ls,hlen],Aj6 (by simp only [hlen,h1,h2,h3,h7,h8,h10,gB,and_self,sevalprocAttr]) ⟨hA',v',by simp only [hlen,h9,gB,sevalprocAttr],hv'⟩⟩
   | true =>
     simp -implicitDefEqProofs only [b3_0,Tryz.f3,aP,hlen,h1,h2,h3,h7,h8,h10,h9,hq,fa29_2,hix,hrd,hln,hlt,hix2,hk0,e0,hw,r5,↓evLd,nck,↓cbT,↓cbF,↓evDn,evUp,eu,sevalprocAttr]
     generalize hX:EvC Tryz.prog C0 W0 _ _ _=Z
     first | exact key _ _ _ hX ⟨by simp only [ls,hlen],Aj6 (by simp only [hlen,h1,h2,h3,h7,h8,h10,gB,and_self,sevalprocAttr]) ⟨hA,v,by simp only [hlen,h9,gB,sevalprocAttr],hmiss _ (Agree.refl _) (by rw [hpd,e0]; rfl)⟩⟩ | exact key _ _ _ hX ⟨by simp only [ls,hlen],Aj6 (by simp only [hlen,h1,h2,h3,h7,h8,h10,gB,and_self,sevalprocAttr]) ⟨(by rw [List.append_nil]; exact hA),v,by simp only [hlen,h9,gB,sevalprocAttr],by rw [List.append_nil]; exact hmiss _ (Agree.refl _) (by rw [hpd,e0]; rfl)⟩⟩
theorem brow_l' {H G K0:AH} {ss:List (List Itm)} {vs lv ta tb:AV} {i pb:Nat} (hs:StrsR H ss vs) (hH:Agree H G) (hG:Agree G K0) (hpb:∀ K,Agree G K->∀ L,rdCells (K++L) pb 2 1=some [vs]) (hi:i < ss.length) (hxl:∀ n,n<=(strAt ss i).length->growOk (Tryz.prog.bytesOf 34) n=true) {tm:List AV} {K:AH} {Z:Option (AExit × St)} (hX:EvC Tryz.prog C0 W0 plN l3_0 (tm,K)=Z) (hI:tm.length=133/\tm.getD 1 uA=ta/\tm.getD 2 uA=tb/\tm.getD 3 uA=.ptr pb 0/\tm.getD 7 uA=lv/\tm.getD 8 uA=I (i:Int)/\tm.getD 10 uA=I ((0:Nat):Int)/\Agree K0 K/\∃ v,tm.getD 9 uA=v/\RowB H K0 K (strAt ss i) (0) v) :
   ∃ X K1,Z=some (.exit 2,(X,K1))/\(X.length=133/\X.getD 1 uA=ta/\X.getD 2 uA=tb/\X.getD 3 uA=.ptr pb 0/\X.getD 7 uA=lv/\X.getD 8 uA=I (i:Int)/\X.getD 10 uA=I (((strAt ss i).length:Nat):Int)/\Agree K0 K1/\∃ v,X.getD 9 uA=v/\RowB H K0 K1 (strAt ss i) ((strAt ss i).length) v):=by
 subst hX
 exact brow_l hs hH hG hpb hi hxl _ 0 tm K rfl (Nat.zero_le _) hI
theorem brows_l {H G:AH} {ss:List (List Itm)} {vs ta tb:AV} {pb:Nat} (hs:StrsR H ss vs) (hH:Agree H G) (hpb:∀ K,Agree G K->∀ L,rdCells (K++L) pb 2 1=some [vs]) (hsl:∀ n,n<=ss.length->growOk (Tryz.prog.bytesOf 31) n=true) (hxl:∀ i,i < ss.length->∀ n,n<=(strAt ss i).length->growOk (Tryz.prog.bytesOf 34) n=true):∀ (d i:Nat) (tm:List AV) (K:AH),ss.length - i=d->i<=ss.length->(tm.length=133/\tm.getD 1 uA=ta/\tm.getD 2 uA=tb/\tm.getD 3 uA=.ptr pb 0/\tm.getD 8 uA=I ((i:Nat):Int)/\Agree G K/\∃ v,tm.getD 7 uA=v/\AllV H G K ss (i) v) ->
   ∃ X K1,EvC Tryz.prog C0 W0 plN l3_1 (tm,K)=some (.exit 0,(X,K1))/\(X.length=133/\X.getD 1 uA=ta/\X.getD 2 uA=tb/\X.getD 3 uA=.ptr pb 0/\X.getD 8 uA=I ((ss.length:Nat):Int)/\Agree G K1/\∃ v,X.getD 7 uA=v/\AllV H G K1 ss (ss.length) v):=by
 have hls:=hs.len
 intro d
 induction d with
 | zero =>
   intro i tm K hd hi hI
   have hil:i=ss.length:=by omega
   subst hil
   obtain ⟨hlen,h1,h2,h3,h8,hA,v,h7,hv⟩:=hI
   have hlt:ltB ((ss.length:Nat):Int) (ss.length:Nat)=false:=ltB_f (by omega)
   have hq:=hpb K hA []
   rw [List.append_nil] at hq
   rw [el3_1]
   simp -implicitDefEqProofs only [b3_1,Tryz.f3,aP,hlen,h1,h2,h3,h8,h7,hq,fa29_2,hls,hlt,r5,↓evLd,nck,↓cbT,↓cbF,↓evDn,evUp,eu,sevalprocAttr]
   exact ⟨_,K,rfl,by simp only [ls,hlen],Aj4 (by simp only [hlen,h1,h2,h3,h8,gB,and_self,sevalprocAttr]) ⟨hA,v,by simp only [hlen,h7,gB,sevalprocAttr],hv⟩⟩
 | succ d ih =>
   intro i tm K hd hi hI
   have hil:i < ss.length:=by omega
   obtain ⟨hlen,h1,h2,h3,h8,hA,v,h7,hv⟩:=hI
   have hlt:ltB (i:Int) (ss.length:Nat)=true:=ltB_t (by omega)
   have hsn:=hs.n
   have hw:=inc_i (j:=i) (by omega)
   have hq:=hpb K hA []
   rw [List.append_nil] at hq
   have key:∀ (tmN:List AV) (KN:AH) (Z:Option (AExit × St)),EvC Tryz.prog C0 W0 plN l3_1 (tmN,KN)=Z->(tmN.length=133/\tmN.getD 1 uA=ta/\tmN.getD 2 uA=tb/\tmN.getD 3 uA=.ptr pb 0/\tmN.getD 8 uA=I (((i+1):Nat):Int)/\Agree G KN/\∃ v,tmN.getD 7 uA=v/\AllV H G KN ss ((i+1)) v)->∃ X K1,Z=some (.exit 0,(X,K1))/\(X.length=133/\X.getD 1 uA=ta/\X.getD 2 uA=tb/\X.getD 3 uA=.ptr pb 0/\X.getD 8 uA=I ((ss.length:Nat):Int)/\Agree G K1/\∃ v,X.getD 7 uA=v/\AllV H G K1 ss (ss.length) v):=by
     intro tmN KN Z h hJ
     obtain ⟨X,K1,A,B⟩:=ih (i+1) tmN KN (by omega) (by omega) hJ
     exact ⟨X,K1,h.symm.trans A,B⟩
   rw [el3_1]
   simp -implicitDefEqProofs only [b3_1,Tryz.f3,aP,hlen,h1,h2,h3,h8,h7,hq,fa29_2,hls,hlt,r5,↓evLd,nck,↓cbT,↓cbF,↓evDn,evUp,eu,sevalprocAttr]
   generalize hX:EvC Tryz.prog C0 W0 plN (Code.loop _) _=Z
   obtain ⟨X,K1,he,xl,x1,x2,x3,x7,x8,x10,xA,w,x9,xw⟩:=brow_l' (lv:=v) (ta:=ta) (tb:=tb) hs hH hA hpb hil (hxl i hil) hX ⟨by simp only [ls,hlen],Aj5 (by simp only [hlen,h1,h2,h3,h7,h8,gB,and_self,sevalprocAttr]) ⟨by simp only [hlen,gB,sevalprocAttr]; try rfl,Agree.refl K,.nilSlice,by simp only [hlen,gB,sevalprocAttr],[],rfl,fun p h=>(by cases h),.nil⟩⟩
   subst he
   obtain ⟨v',K2,happ,hA',hv'⟩:=allv_step hil hsl hA xA hv xw
   have hwsh:w=.nilSlice∨∃ i k es l c e,w=.slice i k es l c e:=by obtain ⟨_,_,_,ho⟩:=xw; exact ho.sh
   have hwc:w.cells=[w]/\w.one=true:=by obtain ⟨_,_,_,ho⟩:=xw; exact ho.cells
   have bs:=bs25' hwc hwsh K1
   simp -implicitDefEqProofs only [aP,xl,x1,x2,x3,x7,x8,x9,bs,↓callA_append,happ,hw,r5,↓evLd,nck,↓cbT,↓cbF,↓evDn,evUp,eu,sevalprocAttr]
   generalize hY:EvC Tryz.prog C0 W0 _ _ _=Z
   exact key _ _ _ hY ⟨by simp only [ls,xl],Aj4 (by simp only [xl,x1,x2,x3,x8,gB,and_self,sevalprocAttr]) ⟨hA',v',by simp only [xl,x7,gB,sevalprocAttr],hv'⟩⟩
theorem brows_l' {H G:AH} {ss:List (List Itm)} {vs ta tb:AV} {pb:Nat} (hs:StrsR H ss vs) (hH:Agree H G) (hpb:∀ K,Agree G K->∀ L,rdCells (K++L) pb 2 1=some [vs]) (hsl:∀ n,n<=ss.length->growOk (Tryz.prog.bytesOf 31) n=true) (hxl:∀ i,i < ss.length->∀ n,n<=(strAt ss i).length->growOk (Tryz.prog.bytesOf 34) n=true) {tm:List AV} {K:AH} {Z:Option (AExit × St)} (hX:EvC Tryz.prog C0 W0 plN l3_1 (tm,K)=Z) (hI:tm.length=133/\tm.getD 1 uA=ta/\tm.getD 2 uA=tb/\tm.getD 3 uA=.ptr pb 0/\tm.getD 8 uA=I ((0:Nat):Int)/\Agree G K/\∃ v,tm.getD 7 uA=v/\AllV H G K ss (0) v) :
   ∃ X K1,Z=some (.exit 0,(X,K1))/\(X.length=133/\X.getD 1 uA=ta/\X.getD 2 uA=tb/\X.getD 3 uA=.ptr pb 0/\X.getD 8 uA=I ((ss.length:Nat):Int)/\Agree G K1/\∃ v,X.getD 7 uA=v/\AllV H G K1 ss (ss.length) v):=by
 subst hX
 exact brows_l hs hH hpb hsl hxl _ 0 tm K rfl (Nat.zero_le _) hI
end Go.Dv
namespace Go.Dv
open Go.Proofs
theorem sub_killD {S K:AH} {D:List Nat} (hS:Sub S K) (hD:∀ b∈D,Gone S b):Sub S (killD D K):=fun b o hb ho=>by
 have hn:b∉D:=fun hd=>(hD b hd).ne hb ho rfl
 rw [killD_get _ _ b hn]
 exact hS b o hb ho
theorem recS_eq {r1 r2:List Bool} (h:rF r1=rF r2) (n:Nat):recS r1 n=recS r2 n:=by
 unfold recS
 refine List.filter_congr fun e _=>?_
 have:=congrFun h (e:Int)
 simp only [rF,Int.toNat_natCast] at this
 rw [show decide ((0:Int)<=(e:Int))=true from decide_eq_true (Int.natCast_nonneg e),Bool.true_and,Bool.true_and] at this
 exact this
theorem ints_map (l:List Nat):(l.map fun (n:Nat)=>I (n:Int))=(ints l).flatten:=by
 unfold ints
 induction l with
 | nil=>rfl
 | cons x l ih=>rw [List.map_cons,List.map_cons,List.flatten_cons,ih]; rfl
theorem ints_one (l:List Nat):∀ r∈ints l,r.length=1:=fun r hr=>by
 obtain ⟨n,_,rfl⟩:=List.mem_map.1 hr
 rfl
theorem own_ints {b:Nat} {K:AH} {v:AV} {l:List Nat} (h:Own b K 1 3 v (l.map fun (n:Nat)=>I (n:Int))):SlS 30 1 K v (ints l):=by
 rw [ints_map] at h
 exact Own.slsG ix30T (by decide) h (ints_one l)
theorem two_q {G:AH} {cs:List Cod} {m:List (List Int)} {ss:List (List Itm)} {vc vm vs va vb:AV} {ta tb:List Int} (hc:CodsR G cs vc) (hm:MemR G m vm) (hs:StrsR G ss vs) (f:Con) (hk:checkP cs m ss f=0) (hnl:∀ l∈ss,∀ x∈l,x.kind≠0)
   (hta:SlS 30 1 G va (turnR ta)) (hla:ta.length < 2 ^ 60) (htb:SlS 30 1 G vb (turnR tb)) (hlb:tb.length < 2 ^ 60) :
   ∃ K1 K2 K3 K4 K5 K6 K7 K8 qx qy l1 l2 r1 r2 e,Ev Tryz.prog C0 W0 10 [vc,vm,vs,.agg (rowF f)] G=some (.tuple [.ptr qx 0,I 0],K1)/\Agree G K1/\Ev Tryz.prog C0 W0 10 [vc,vm,vs,.agg (rowF f)] K1=some (.tuple [.ptr qy 0,I 0],K2)/\Ev Tryz.prog C0 W0 11 [.ptr qx 0,va] K2=some (.tuple [],K3)/\Ev Tryz.prog C0 W0 11 [.ptr qy 0,vb] K3=some (.tuple [],K4)/\Ev Tryz.prog C0 W0 12 [.ptr qx 0] K4=some (.tuple [.bool true,I e],K4)/\Ev Tryz.prog C0 W0 12 [.ptr qy 0] K4=some (.tuple [.bool true,I e],K4)/\Ev Tryz.prog C0 W0 14 [.ptr qx 0] K4=some (l1,K5)/\Ev Tryz.prog C0 W0 14 [.ptr qy 0] K5=some (l2,K6)/\Ev Tryz.prog C0 W0 13 [l1,l2] K6=some (.bool true,K6)/\Ev Tryz.prog C0 W0 15 [.ptr qx 0] K6=some (r1,K7)/\Ev Tryz.prog C0 W0 15 [.ptr qy 0] K7=some (r2,K8)/\Ev Tryz.prog C0 W0 13 [r1,r2] K8=some (.bool true,K8):=by
 have hxb:∀ xs∈ss,xs.length < 2 ^ 50/\∀ x∈xs,i32R x.word:=fun xs hx=>by
   obtain ⟨⟨l2,e2,_,h2⟩,_⟩:=hs
   rw [<-e2] at hx
   obtain ⟨p,hp,rfl⟩:=List.mem_map.1 hx
   exact ⟨(h2 p hp).n,(h2 p hp).iw⟩
 have hG:=good_of (fun xs hx=>(hxb xs hx).1) hk
 have hev:=evok_of hG
 have hfit:∀ l∈ss,∀ x∈l,FitM m x:=fun l hl x hx=>fit_of_right (hG.it l hl x hx) (hnl l hl x hx) ((hxb l hl).2 x hx)
 have hal:∀ l∈ss,∀ x∈l,x.args.length<=1000:=fun l hl x hx=>Nat.le_trans (hG.args l hl x hx) (by decide)
 obtain ⟨K1,Sx,qx,ax,wx,vcx,vmx,vsx,ex,A1,_,hx,AS⟩:=ev10 hc hm hs f hk
 have hE:∀ d∈ownD qx ax wx,d < K1.length:=fun d hd=>by
   obtain ⟨cc,ee,h⟩:=hx.getD hd
   exact lt_of_get h
 obtain ⟨K2,Sy,qy,ay,wy,vcy,vmy,vsy,ey,A2,hqy,hy,hEy,hay,hwy⟩:=ev10E (hc.agree A1) (hm.agree A1) (hs.agree A1) f hk hE
 have hyK:∀ b∈ownD qy ay wy,K1.length<=b:=fun b hb=>by
   rcases ownD_mem.1 hb with rfl | rfl | ⟨w,hw,e⟩
   · exact hqy
   · exact hay
   · exact hwy w hw b e
 have hx2:=hx.grow A2
 have SxW:Sub Sx (killD (ownD qx ax wx) K2):=sub_killD hx2.sub fun b hb=>hx2.goneD hb
 have SG:Sub G Sx:=AS.sub
 obtain ⟨K3,ad1,m1,rc1,e11,_,hx3,t1,z1⟩:=ev11 (hta.sub (SG.trans SxW)) hla hfit hal hx2.wide (SameLens.refl m) (Trod.init ss m)
 have K23:∀ b o,K2[b]? =some o->o≠.dead->b∉ownD qx ax wx->K3[b]? =some o:=fun b o hb ho hn=>hx3.sub b o (by rw [killD_get _ _ b hn]; exact hb) ho
 have SyK3:Sub Sy K3:=fun b o hb ho=>K23 b o (hy.sub b o hb ho) ho fun hd=>(hEy b hd).ne hb ho rfl
 have hy3:QueR Sy K3 qy ay wy vcy vmy vsy f cs ss (List.replicate ss.length 0) m rc0:=hy.carry SyK3 fun b hb=>by
   obtain ⟨cc,ee,h⟩:=hy.getD hb
   rw [h]
   exact K23 b _ h (by intro e; cases e) fun hd=>by have:=hE b hd; have:=hyK b hb; omega
 have SGK3:Sub G K3:=SG.trans (SxW.trans hx3.sub)
 have SGy:Sub G (killD (ownD qy ay wy) K3):=fun b o hb ho=>by
   have hbl:b < G.length:=lt_of_get hb
   have:=A1.len
   rw [killD_get _ _ b fun hd=>by have:=hyK b hd; omega]
   exact SGK3 b o hb ho
 obtain ⟨K4,ad2,m2,rc2,e12,_,hy4,t2,z2⟩:=ev11 (htb.sub SGy) hlb hfit hal hy3.wide (SameLens.refl m) (Trod.init ss m)
 have K34:∀ b o,K3[b]? =some o->o≠.dead->b∉ownD qy ay wy->K4[b]? =some o:=fun b o hb ho hn=>hy4.sub b o (by rw [killD_get _ _ b hn]; exact hb) ho
 have SxK3:Sub Sx K3:=SxW.trans hx3.sub
 have hx4:=(hx2.narrow hx3 SxK3).carry (K':=K4) (fun b o hb ho=>K34 b o (SxK3 b o hb ho) ho fun hd=>by
     have:=lt_of_get (hx.sub b o hb ho)
     have:=hyK b hd
     omega) fun b hb=>by
   obtain ⟨cc,ee,h⟩:=hx3.getD hb
   rw [h]
   exact K34 b _ h (by intro e; cases e) fun hd=>by have:=hE b hb; have:=hyK b hd; omega
 have vx:=hx4.view
 have vy:=hy4.view
 have hu:ad1=ad2/\rF rc1=rF rc2:=by
   obtain ⟨L1,p1,_⟩:=t1
   obtain ⟨L2,p2,_⟩:=t2
   exact Qu.Reach.uniq p1.reach (by rw [ready_eq hev]; exact z1) p2.reach (by rw [ready_eq hev]; exact z2)
 obtain ⟨rfl,hr⟩:=hu
 have b1:endB ss ad1 rc1=true:=by unfold endB; rw [z1]; simp
 have b2:endB ss ad1 rc2=true:=by unfold endB; rw [z2]; simp
 have e2:endE ss ad1 rc2=endE ss ad1 rc1:=by unfold endE; rw [z1,z2]
 have h12x:=ev12 vx
 have h12y:=ev12 vy
 rw [b1] at h12x
 rw [b2,e2] at h12y
 obtain ⟨l1,K5,h14x,A5,o1⟩:=ev14 vx
 obtain ⟨l2,K6,h14y,A6,o2⟩:=ev14 (vy.agree A5)
 have hlen:(leftS ss ad1 ss.length).length < 2 ^ 50:=by unfold leftS; rw [List.length_map,List.length_range]; have:=hG.n4; omega
 have h13:=ev13 (own_ints (o1.agree A6)) (own_ints o2) hlen
 have A46:=A5.trans A6
 obtain ⟨r1,K7,h15x,A7,o3⟩:=ev15 (vx.agree A46)
 obtain ⟨r2,K8,h15y,A8,o4⟩:=ev15 (vy.agree (A46.trans A7))
 rw [<-recS_eq hr] at o4
 have h13r:=ev13 (own_ints (o3.agree A8)) (own_ints o4) (Nat.lt_of_le_of_lt (recS_le rc1 16) (by decide))
 exact ⟨K1,K2,K3,K4,K5,K6,K7,K8,qx,qy,l1,l2,r1,r2,_,ex,A1,ey,e11,e12,h12x,h12y,h14x,h14y,h13,h15x,h15y,h13r⟩
end Go.Dv
namespace Go.Dv
open Go.Proofs
attribute [local congr] bind_congr_first cb_congr condA_congr gd_congr br_congr
theorem ev3 {H:AH} {cs:List Cod} {m:List (List Int)} {ss:List (List Itm)} {vc vm vs va vb:AV} {ta tb:List Int} (hc:CodsR H cs vc) (hm:MemR H m vm) (hs:StrsR H ss vs) (f:Con) (hta:SlS 30 1 H va (turnR ta)) (hla:ta.length < 2 ^ 60) (htb:SlS 30 1 H vb (turnR tb)) (hlb:tb.length < 2 ^ 60)
   (hsl:∀ n,n<=ss.length->growOk (Tryz.prog.bytesOf 31) n=true) (hxl:∀ i,i < ss.length->∀ n,n<=(strAt ss i).length->growOk (Tryz.prog.bytesOf 34) n=true):∃ K,Ev Tryz.prog C0 W0 3 [.agg [vc,vm,vs,I f.w,.bool f.free,I f.cores,I f.slots,I f.room,I f.pol,I f.lat],va,vb] H=some (.bool true,K):=by
 obtain ⟨tm,ht,g0,g1,g2,g3⟩:=tm3 (.agg [vc,vm,vs,I f.w,.bool f.free,I f.cores,I f.slots,I f.room,I f.pol,I f.lat]) va vb 133 (by decide)
 rw [fe3,ht]
 have hA0:=Agree.app H [.cells [vc,vm,vs,I f.w,.bool f.free,I f.cores,I f.slots,I f.room,I f.pol,I f.lat] 29]
 have hpl:(H++[AObj.cells [vc,vm,vs,I f.w,.bool f.free,I f.cores,I f.slots,I f.room,I f.pol,I f.lat] 29])[H.length]? =some (.cells [vc,vm,vs,I f.w,.bool f.free,I f.cores,I f.slots,I f.room,I f.pol,I f.lat] 29):=by rw [List.getElem?_append_right (Nat.le_refl _),Nat.sub_self]; rfl
 have hput:∀ o,put none H o=some (H.length,H++[o]):=fun _=>rfl
 have hGl:(H++[AObj.cells [vc,vm,vs,I f.w,.bool f.free,I f.cores,I f.slots,I f.room,I f.pol,I f.lat] 29]).length=H.length+1:=by simp
 generalize hKe:H++[AObj.cells [vc,vm,vs,I f.w,.bool f.free,I f.cores,I f.slots,I f.room,I f.pol,I f.lat] 29]=G1 at *
 simp -implicitDefEqProofs only [c3,Tryz.f3,aP,g0,g1,g2,g3,hput,hKe,r5,↓evLd,nck,↓cbT,↓cbF,↓evDn,evUp,eu,sevalprocAttr]
 generalize hX:EvC Tryz.prog C0 W0 plN (Code.loop _) _=Z
 obtain ⟨X,K1,he,xl,x1,x2,x3,x8,A1,v,x7,hv⟩:=brows_l' (H:=H) (G:=G1) (ta:=va) (tb:=vb) (pb:=H.length) hs hA0 (fun K hK L=>by rw [obj_rd (hK.get hpl) L]; rfl) hsl hxl hX ⟨by simp only [ls,g0],Aj3 (by simp only [g0,g2,g3,gB,and_self,sevalprocAttr]) ⟨by simp only [g0,gB,sevalprocAttr]; try rfl,Agree.refl G1,.nilSlice,by simp only [g0,gB,sevalprocAttr],[],rfl,fun p h=>(by cases h),.nil⟩⟩
 subst he
 have hvo:v.cells=[v]/\v.one=true:=by obtain ⟨_,_,_,h3⟩:=hv; exact h3.cells
 obtain ⟨hvc,hvn⟩:=hvo
 have hp1:=A1.get hpl
 have hwr:wrCells K1 H.length 2 [v]=some (K1.set H.length (.cells [vc,vm,v,I f.w,.bool f.free,I f.cores,I f.slots,I f.room,I f.pol,I f.lat] 29)):=wr_obj hp1 (by simp) hvn
 have hHl:H.length < K1.length:=lt_of_get hp1
 have hp2:(K1.set H.length (AObj.cells [vc,vm,v,I f.w,.bool f.free,I f.cores,I f.slots,I f.room,I f.pol,I f.lat] 29))[H.length]? =some (.cells [vc,vm,v,I f.w,.bool f.free,I f.cores,I f.slots,I f.room,I f.pol,I f.lat] 29):=List.getElem?_set_self hHl
 have AH2:Agree H (K1.set H.length (.cells [vc,vm,v,I f.w,.bool f.free,I f.cores,I f.slots,I f.room,I f.pol,I f.lat] 29)):=fun c hc=>by rw [List.getElem?_set_ne (by omega)]; exact (hA0.trans A1) c hc
 have hv2:=hv.move (K':=K1.set H.length (.cells [vc,vm,v,I f.w,.bool f.free,I f.cores,I f.slots,I f.room,I f.pol,I f.lat] 29)) fun c hc=>List.getElem?_set_ne (by omega)
 have hs2:=allv_fin hs AH2 hv2
 generalize hKe2:K1.set H.length (AObj.cells [vc,vm,v,I f.w,.bool f.free,I f.cores,I f.slots,I f.room,I f.pol,I f.lat] 29)=K2 at *
 have hc2:=hc.agree AH2
 have hm2:=hm.agree AH2
 have ra:rdCells K2 H.length 0 10=some [vc,vm,v,I f.w,.bool f.free,I f.cores,I f.slots,I f.room,I f.pol,I f.lat]:=by unfold rdCells; rw [hp2]; rfl
 have h8:=ev8 hc2 hm2 hs2 f
 have h9:=ev9 K2
 cases hr:rgtP cs m (bareS ss) f with
 | false =>
   rw [hr] at h8
   refine ⟨K2,?_⟩
   simp -implicitDefEqProofs only [aP,xl,x1,x2,x3,x7,x8,fa29_2,st25,↓hvc,↓hvn,hwr,hKe2,ra,ld29,↓fc8,h8,↓fc9,h9,r5,↓evLd,nck,↓cbT,↓cbF,↓evDn,evUp,eu,sevalprocAttr]
 | true =>
   rw [hr] at h8
   have hk:checkP cs m (bareS ss) f=0:=by
     unfold rgtP at hr
     rw [Bool.and_eq_true,eqB_iff] at hr
     exact hr.2
   obtain ⟨M1,M2,M3,M4,M5,M6,M7,M8,qx,qy,l1,l2,r1,r2,e,e1,B1,e2,e3,e4,e5,e6,e7,e8,e9,e10,e11,e12⟩:=two_q hc2 hm2 hs2 f hk bare_nk (hta.same AH2) hla (htb.same AH2) hlb
   have hee:=eqB_self e
   have rd:∀ {K:AH},Agree K2 K->∀ i n xs,(([vc,vm,v,I f.w,.bool f.free,I f.cores,I f.slots,I f.room,I f.pol,I f.lat]:List AV).drop i).take n=xs->i+n<=10->rdCells K H.length i n=some xs:=fun h i n xs e hin=>by unfold rdCells; rw [h.get hp2]; simp only [List.length_cons,List.length_nil]; rw [if_pos (by omega),e]
   have a0:=rd (Agree.refl K2) 0 1 [vc] rfl (by decide)
   have a1:=rd (Agree.refl K2) 1 1 [vm] rfl (by decide)
   have a2:=rd (Agree.refl K2) 2 1 [v] rfl (by decide)
   have a3:=rd (Agree.refl K2) 3 7 (rowF f) rfl (by decide)
   have b0:=rd B1 0 1 [vc] rfl (by decide)
   have b1:=rd B1 1 1 [vm] rfl (by decide)
   have b2:=rd B1 2 1 [v] rfl (by decide)
   have b3:=rd B1 3 7 (rowF f) rfl (by decide)
   have h98:=ev9 M8
   simp only [rowF] at e1 e2 a3 b3
   refine ⟨M8,?_⟩
   simp -implicitDefEqProofs only [aP,xl,x1,x2,x3,x7,x8,fa29_0,fa29_1,fa29_2,fa29_3,st25,↓hvc,↓hvn,hwr,hKe2,ra,ld29,ld27',↓fc8,h8,a0,a1,a2,a3,b0,b1,b2,b3,↓fc10,e1,e2,↓fc11,e3,e4,↓fc12,e5,e6,hee,↓fc14,e7,e8,↓fc13,e9,↓fc15,e10,e11,e12,↓fc9,h98,r5,↓evLd,nck,↓cbT,↓cbF,↓evDn,evUp,eu,sevalprocAttr]
end Go.Dv
