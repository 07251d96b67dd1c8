/- Part 17 of the walks (own work). -/
import Derived.Test.YtilpjnckfkjkbaaGreatDoorZ16
set_option maxRecDepth 100000
set_option maxHeartbeats 4000000
set_option linter.unusedSimpArgs false
set_option linter.unusedVariables false
namespace Go.Dv
open Go.Proofs
attribute [local congr] bind_congr_first cb_congr condA_congr gd_congr br_congr
theorem ints_at {H K:AH} {v:AV} {l:List Nat} (hs:SlS 30 1 H v (ints l)) (hA:Agree H K) {j:Nat} (hj:j < l.length):∃ i k,(∀ kk,indexAddrA Tryz.prog 30 v (.int kk (j:Int))=some (.ptr i k))/\∀ L,rdCells (K++L) i k 1=some [I ((l.getD j 0:Nat):Int)]:=by
 obtain ⟨i,k,hi,hr⟩:=hs.ix j [I ((l.getD j 0:Nat):Int)] (by
   unfold ints
   rw [List.getElem?_map,List.getElem?_eq_getElem hj,gde,List.getElem?_eq_getElem hj]; rfl)
 exact ⟨i,k,hi,fun L=>row_rd hr hA L⟩
theorem ints_ln {H:AH} {v:AV} {l:List Nat} (hs:SlS 30 1 H v (ints l)) (G:AH):lenA Tryz.prog 30 G v=some (I l.length):=by
 have:=hs.len G
 unfold ints at this
 rwa [List.length_map] at this
theorem sum_take_succ (l:List Nat) {j:Nat} (hj:j < l.length):(l.take (j+1)).sum=(l.take j).sum+l.getD j 0:=by
 rw [List.take_add_one,List.getElem?_eq_getElem hj,List.sum_append,gde,List.getElem?_eq_getElem hj]; simp
theorem sum_l {G:AH} {v:AV} {l:List Nat} (hs:SlS 30 1 G v (ints l)) (hb:l.sum < 2 ^ 40) (hN:l.length < 2 ^ 60):∀ (d j:Nat) (tm:List AV) (K:AH),l.length - j=d->j<=l.length->(tm.length=18/\Agree G K/\tm.getD 7 uA=v/\tm.getD 8 uA=I l.length/\tm.getD 9 uA=I ((j:Nat):Int)/\tm.getD 3 uA=I (((l.take j).sum:Nat):Int)) ->
   ∃ X K1,EvC Tryz.prog C0 W0 plN l36_0 (tm,K)=some (.exit 0,(X,K1))/\(X.length=18/\Agree G K1/\X.getD 7 uA=v/\X.getD 8 uA=I l.length/\X.getD 9 uA=I ((l.length:Nat):Int)/\X.getD 3 uA=I (((l.take l.length).sum:Nat):Int)):=by
 intro d
 induction d with
 | zero =>
   intro j tm K hd hj hI
   have hjl:j=l.length:=by omega
   subst hjl
   have hI0:=hI
   obtain ⟨hlen,hA,h7,h8,h9,h3⟩:=hI
   have hlt:ltB (((l.length:Nat)):Int) (l.length:Nat)=false:=ltB_f (by omega)
   rw [el36_0]
   simp -implicitDefEqProofs only [b36_0,Tryz.f36,aP,hlen,h7,h8,h9,h3,hlt,↓cbT,↓cbF,↓evDn,evUp,eu,sevalprocAttr]
   refine ⟨_,K,rfl,?_⟩
   exact ⟨by first | exact hlen | simp only [List.length_set,hlen],hA,by simp only [hlen,h7,h8,h9,h3,gB,and_self,sevalprocAttr]⟩
 | succ d ih =>
   intro j tm K hd hj hI
   have hI0:=hI
   obtain ⟨hlen,hA,h7,h8,h9,h3⟩:=hI
   have hjN:j < l.length:=by omega
   have hlt:ltB (j:Int) (l.length:Nat)=true:=ltB_t (by omega)
   have hw:=inc_i (j:=j) (by omega)
   obtain ⟨i,k,hix,hrd⟩:=ints_at hs hA hjN
   have hsum:=sum_take_succ l hjN
   have hle:=take_sum_le l (j+1)
   have hadd:IntKind.i64.wrap ((((l.take j).sum:Nat):Int)+((l.getD j 0:Nat):Int))=(((l.take (j+1)).sum:Nat):Int):=by rw [wr_i (by omega)]; omega
   rw [el36_0]
   rw [<-List.append_nil K]
   have key:∀ (tmN:List AV) (KN:AH) (Z:Option (AExit × St)),EvC Tryz.prog C0 W0 plN l36_0 (tmN,KN)=Z->(tmN.length=18/\Agree G KN/\tmN.getD 7 uA=v/\tmN.getD 8 uA=I l.length/\tmN.getD 9 uA=I (((j+1):Nat):Int)/\tmN.getD 3 uA=I (((l.take (j+1)).sum:Nat):Int))->∃ X K1,Z=some (.exit 0,(X,K1))/\(X.length=18/\Agree G K1/\X.getD 7 uA=v/\X.getD 8 uA=I l.length/\X.getD 9 uA=I ((l.length:Nat):Int)/\X.getD 3 uA=I (((l.take l.length).sum:Nat):Int)):=by
     intro tmN KN Z h hJ
     obtain ⟨X,K1,A,B⟩:=ih (j+1) tmN KN (by omega) (by omega) hJ
     exact ⟨X,K1,h.symm.trans A,B⟩
   simp -implicitDefEqProofs only [b36_0,Tryz.f36,aP,hlen,h7,h8,h9,h3,hlt,hw,hix,hrd,hadd,r5,↓evLd,nck,↓cbT,↓cbF,↓evDn,evUp,eu,sevalprocAttr]
   generalize hX:EvC Tryz.prog C0 W0 _ _ _=Z
   refine key _ _ _ hX ?_
   simp only [List.append_nil]
   exact ⟨by first | exact hlen | simp only [List.length_set,hlen],hA,by simp only [hlen,h7,h8,h9,hadd,gB,and_self,sevalprocAttr]⟩
theorem sum_l' {G:AH} {v:AV} {l:List Nat} {tm:List AV} {K:AH} {Z:Option (AExit × St)} (hX:EvC Tryz.prog C0 W0 plN l36_0 (tm,K)=Z) (hs:SlS 30 1 G v (ints l)) (hb:l.sum < 2 ^ 40) (hN:l.length < 2 ^ 60) (hI:tm.length=18/\Agree G K/\tm.getD 7 uA=v/\tm.getD 8 uA=I l.length/\tm.getD 9 uA=I ((0:Nat):Int)/\tm.getD 3 uA=I (((l.take 0).sum:Nat):Int)) :
   ∃ X K1,Z=some (.exit 0,(X,K1))/\(X.length=18/\Agree G K1/\X.getD 7 uA=v/\X.getD 8 uA=I l.length/\X.getD 9 uA=I ((l.length:Nat):Int)/\X.getD 3 uA=I (((l.take l.length).sum:Nat):Int)):=by
 subst hX
 exact sum_l hs hb hN (l.length) 0 tm K (by omega) (by omega) hI
theorem ev36 {G:AH} {q:Nat} {vc vm vs va:AV} {f:Con} {ss:List (List Itm)} {ad:List Nat} {m:List (List Int)} {rc:List Bool} (h:QueV G q vc vm vs va f ss ad m rc 0):Ev Tryz.prog C0 W0 36 [.ptr q 0] G=some (I ((leftS ss ad ss.length).sum:Nat),G):=by
 obtain ⟨tm,ht,g0,g1⟩:=tm1 (.ptr q 0) 18 (by decide)
 rw [fe36,ht]
 rw [<-List.append_nil (ro G)]
 obtain ⟨v,K,he,hA,ho⟩:=ev14 (h.ro.agree (Agree.app (ro G) []))
 have hs:=ho.ints
 have hln:=ints_ln hs
 have hsum:=leftS_le ss ad
 have hfew:=h.few
 have hlen:(leftS ss ad ss.length).length=ss.length:=by unfold leftS; rw [List.length_map,List.length_range]
 have hfs:=h.fs
 simp -implicitDefEqProofs only [c36,Tryz.f36,aP,g0,g1,↓fc14,he,hln,r5,↓evLd,nck,↓cbT,↓cbF,↓evDn,evUp,eu,sevalprocAttr]
 generalize hX:EvC Tryz.prog C0 W0 _ (Code.loop _) _=Z
 obtain ⟨X,K1,he1,i0,iA,i1,i2,i3,i4⟩:=sum_l' hX hs (by omega) (by omega) ⟨by simp only [ls,g0],Agree.refl K,Aj2 (by simp only [g0,gB,and_self,sevalprocAttr]) ⟨by simp only [g0,gB,sevalprocAttr]; try rfl,by simp only [g0,gB,sevalprocAttr]; try rfl⟩⟩
 subst he1
 rw [List.take_length] at i4
 simp -implicitDefEqProofs only [aP,i0,i4,↓cbT,↓cbF,↓evDn,evUp,eu,sevalprocAttr]
def endB (ss:List (List Itm)) (ad:List Nat) (rc:List Bool):Bool:=(leftS ss ad ss.length).sum == 0 || (readyS ss ad rc ss.length).isEmpty
def endE (ss:List (List Itm)) (ad:List Nat) (rc:List Bool):Int:=if (leftS ss ad ss.length).sum=0 then 0 else if (readyS ss ad rc ss.length)=[] then 11 else 0
theorem ev12 {G:AH} {q:Nat} {vc vm vs va:AV} {f:Con} {ss:List (List Itm)} {ad:List Nat} {m:List (List Int)} {rc:List Bool} (h:QueV G q vc vm vs va f ss ad m rc 0):Ev Tryz.prog C0 W0 12 [.ptr q 0] G=some (.tuple [.bool (endB ss ad rc),I (endE ss ad rc)],G):=by
 obtain ⟨tm,ht,g0,g1⟩:=tm1 (.ptr q 0) 33 (by decide)
 rw [fe12,ht]
 rw [<-List.append_nil (ro G)]
 have hr:=h.ro
 have hq10:∀ L,rdCells (ro G++L) q 10 1=some [va]:=fun L=>by have:=hr.cell (Agree.refl _) L 10 (x:=va) rfl; rwa [Nat.zero_add] at this
 have hq27:∀ L,rdCells (ro G++L) q 27 1=some [I 0]:=fun L=>by have:=hr.cell (Agree.refl _) L 27 (rowQ_en h.lr); rwa [Nat.zero_add] at this
 have e0:eqB 0 0=true:=rfl
 have h36:=ev36 (hr.agree (Agree.app (ro G) []))
 obtain ⟨v,K,he,hA,ho⟩:=ev33 (hr.agree (Agree.app (ro G) []))
 have hln:=ints_ln ho.ints
 obtain ⟨i,k,c,e,hva⟩:=h.nn
 have hnil:∀ H fb,binV .eql 30 va .nilSlice H fb=some (.bool false):=fun H fb=>by rw [hva,seq30]
 unfold endB endE
 cases c0:eqB (((leftS ss ad ss.length).sum:Nat):Int) 0 with
 | true =>
   have z0:(leftS ss ad ss.length).sum=0:=by rw [eqB_iff] at c0; omega
   simp only [z0,if_true]
   rw [z0] at h36 c0
   simp -implicitDefEqProofs only [c12,Tryz.f12,aP,g0,g1,↓peq37,hq10,hq27,e0,↓hnil,↓fc36,h36,c0,r5,↓evLd,nck,↓cbT,↓cbF,↓evDn,evUp,eu,sevalprocAttr]
   try rfl
 | false =>
   have z0:(leftS ss ad ss.length).sum≠0:=by rw [eqB_iff0] at c0; omega
   cases c1:eqB (((readyS ss ad rc ss.length).length:Nat):Int) 0 with
   | true =>
     have z1:readyS ss ad rc ss.length=[]:=List.length_eq_zero_iff.1 (by rw [eqB_iff] at c1; omega)
     rw [if_neg z0,if_pos z1,show ((leftS ss ad ss.length).sum == 0 || (readyS ss ad rc ss.length).isEmpty)=true by rw [z1]; simp]
     simp -implicitDefEqProofs only [c12,Tryz.f12,aP,g0,g1,↓peq37,hq10,hq27,e0,↓hnil,↓fc36,h36,c0,↓fc33,he,hln,c1,r5,↓evLd,nck,↓cbT,↓cbF,↓evDn,evUp,eu,sevalprocAttr]
   | false =>
     have z1:readyS ss ad rc ss.length≠[]:=fun e=>by rw [e] at c1; cases c1
     rw [if_neg z0,if_neg z1,show ((leftS ss ad ss.length).sum == 0 || (readyS ss ad rc ss.length).isEmpty)=false by rw [Bool.or_eq_false_iff]; exact ⟨by simpa using z0,by simpa using z1⟩]
     simp -implicitDefEqProofs only [c12,Tryz.f12,aP,g0,g1,↓peq37,hq10,hq27,e0,↓hnil,↓fc36,h36,c0,↓fc33,he,hln,c1,r5,↓evLd,nck,↓cbT,↓cbF,↓evDn,evUp,eu,sevalprocAttr]
def hasI (l:List Nat) (n:Int):Bool:=!allF (fun j=>!eqB n ((l.getD j 0:Nat):Int)) l.length 0
theorem hasI_iff (l:List Nat) (s:Nat):hasI l s=true↔s∈l:=by
 unfold hasI
 rw [Bool.not_eq_true',<-Bool.not_eq_true,allF_iff]
 constructor
 · intro h
   apply Classical.byContradiction
   intro hn
   refine h fun j hj=>?_
   rw [Bool.not_eq_true',eqB_iff0]
   intro e
   refine hn (List.mem_iff_getElem.2 ⟨j,hj,?_⟩)
   rw [gde,List.getElem?_eq_getElem hj] at e
   exact (Int.ofNat_inj.1 e).symm
 · intro h hn
   obtain ⟨j,hj,e⟩:=List.mem_iff_getElem.1 h
   have:=hn j hj
   rw [Bool.not_eq_true',eqB_iff0,gde,List.getElem?_eq_getElem hj] at this
   exact this (by rw [<-e]; rfl)
theorem index_l {H:AH} {v:AV} {l:List Nat} {n:Int} (hs:SlS 30 1 H v (ints l)) (hN:l.length < 2 ^ 60):∀ (d j:Nat) (tm:List AV) (K:AH),l.length - j=d->j<=l.length->Agree H K->tm.length=19->tm.getD 0 uA=v->tm.getD 1 uA=I n->tm.getD 7 uA=I l.length->tm.getD 8 uA=I ((j:Nat):Int) ->
   ∃ X Y K1 K2,EvC Tryz.prog C0 W0 plN l92_0 (tm,K)=br (allF (fun j=>!eqB n ((l.getD j 0:Nat):Int)) (l.length) (j)) (some (.exit 0,(X,K1))) (some (.ret,(Y,K2)))/\(X.length=19/\Agree H K1/\X.getD 0 uA=v/\X.getD 1 uA=I n/\X.getD 7 uA=I l.length)/\Y.length=19/\∃ r:Int,0<=r/\Y.getD 4 uA=I r:=by
 intro d
 induction d with
 | zero =>
   intro j tm K hd hj hA hlen h0 h1 h7 h8
   have hjl:j=l.length:=by omega
   subst hjl
   have hlt:ltB (((l.length:Nat)):Int) (l.length:Nat)=false:=ltB_f (by omega)
   rw [allF_end (Nat.le_refl _),el92_0]
   simp -implicitDefEqProofs only [b92_0,Tryz.f92,aP,hlen,h0,h1,h7,h8,hlt,↓cbT,↓cbF,↓evDn,evUp,eu,sevalprocAttr]
   exact ⟨_,tm.set 4 (I 0),_,K,rfl,⟨by first | exact hlen | simp only [List.length_set,hlen],hA,by first | exact h0 | simp only [hlen,h0,gB,sevalprocAttr],by first | exact h1 | simp only [hlen,h1,gB,sevalprocAttr],by first | exact h7 | simp only [hlen,h7,gB,sevalprocAttr]⟩,by simp only [ls,hlen],⟨0,Int.le_refl _,by simp only [hlen,gs_self,Nat.reduceLT]⟩⟩
 | succ d ih =>
   intro j tm K hd hj hA hlen h0 h1 h7 h8
   have hjN:j < l.length:=by omega
   have hlt:ltB (j:Int) (l.length:Nat)=true:=ltB_t (by omega)
   have hw:=inc_i (j:=j) (by omega)
   obtain ⟨i,k,hix,hrd⟩:=ints_at hs hA hjN
   rw [allF_step hjN,el92_0]
   rw [<-List.append_nil K]
   cases hp:(!eqB n ((l.getD j 0:Nat):Int)) with
   | true =>
     simp only [Bool.true_and]
     rw [Bool.not_eq_true'] at hp
     simp -implicitDefEqProofs only [b92_0,Tryz.f92,aP,hlen,h0,h1,h7,h8,hlt,hw,hix,hrd,hp,r5,↓evLd,nck,↓cbT,↓cbF,↓evDn,evUp,eu,sevalprocAttr]
     exact ih (j+1) _ _ (by omega) (by omega) (by first | exact hA | exact hA.appR _ | exact (hA.appR _).appR _) (by simp only [ls,hlen]) (by simp only [hlen,h0,gB,sevalprocAttr]) (by simp only [hlen,h1,gB,sevalprocAttr]) (by simp only [hlen,h7,gB,sevalprocAttr]) (by simp only [hlen,h8,gB,sevalprocAttr])
   | false =>
     simp only [Bool.false_and]
     rw [Bool.not_eq_false'] at hp
     simp -implicitDefEqProofs only [b92_0,Tryz.f92,aP,hlen,h0,h1,h7,h8,hlt,hw,hix,hrd,hp,r5,↓evLd,nck,↓cbT,↓cbF,↓evDn,evUp,eu,sevalprocAttr]
     exact ⟨tm,_,K,_,rfl,⟨hlen,hA,h0,h1,h7⟩,by simp only [ls,hlen],⟨_,Int.natCast_nonneg j,by simp only [hlen,gB,sevalprocAttr]⟩⟩
theorem index_l' {H:AH} {v:AV} {l:List Nat} {n:Int} {tm:List AV} {K:AH} {Z:Option (AExit × St)} (hX:EvC Tryz.prog C0 W0 plN l92_0 (tm,K)=Z) (hs:SlS 30 1 H v (ints l)) (hN:l.length < 2 ^ 60) (hA:Agree H K) (hlen:tm.length=19) (h0:tm.getD 0 uA=v) (h1:tm.getD 1 uA=I n) (h7:tm.getD 7 uA=I l.length) (h8:tm.getD 8 uA=I ((0:Nat):Int)) :
   ∃ X Y K1 K2,Z=br (allF (fun j=>!eqB n ((l.getD j 0:Nat):Int)) (l.length) (0)) (some (.exit 0,(X,K1))) (some (.ret,(Y,K2)))/\(X.length=19/\Agree H K1/\X.getD 0 uA=v/\X.getD 1 uA=I n/\X.getD 7 uA=I l.length)/\Y.length=19/\∃ r:Int,0<=r/\Y.getD 4 uA=I r:=by
 subst hX
 exact index_l hs hN (l.length) 0 tm K (by omega) (by omega) hA hlen h0 h1 h7 h8
theorem ev92 {H:AH} {v:AV} {l:List Nat} (hs:SlS 30 1 H v (ints l)) (hn:l.length < 2 ^ 40) (n:Int):∃ r,Ev Tryz.prog C0 W0 92 [v,I n] H=some (I r,H)/\leB 0 r=hasI l n:=by
 obtain ⟨tm,ht,g0,g1,g2⟩:=tm2 v (I n) 19 (by decide)
 rw [fe92,ht]
 rw [<-List.append_nil (ro H)]
 have hl:=ints_ln hs.ro
 unfold hasI
 simp -implicitDefEqProofs only [c92,Tryz.f92,aP,g0,g1,g2,hl,r5,↓evLd,nck,↓cbT,↓cbF,↓evDn,evUp,eu,sevalprocAttr]
 generalize hX:EvC Tryz.prog C0 W0 _ (Code.loop _) _=Z
 obtain ⟨X,Y,K1,K2,he,xs,y0,y1⟩:=index_l'  hX hs.ro (by omega) (Agree.app _ _) (by simp only [ls,g0]) (by simp only [g0,g1,gB,sevalprocAttr]; try rfl) (by simp only [g0,g2,gB,sevalprocAttr]; try rfl) (by simp only [g0,gB,sevalprocAttr]; try rfl) (by simp only [g0,gB,sevalprocAttr]; try rfl)
 subst he
 obtain ⟨r,hr0,hr⟩:=y1
 cases hf:allF (fun j=>!eqB n ((l.getD j 0:Nat):Int)) l.length 0 with
 | true =>
   refine ⟨-1,?_,rfl⟩
   simp -implicitDefEqProofs only [xs.1,hf,↓cbT,↓cbF,↓evDn,evUp,eu,sevalprocAttr]
 | false =>
   refine ⟨r,?_,by rw [(leB_iff _ _).2 hr0]; rfl⟩
   simp -implicitDefEqProofs only [y0,hr,hf,↓cbT,↓cbF,↓evDn,evUp,eu,sevalprocAttr]
theorem ev63 {H:AH} {v:AV} {l:List Nat} (hs:SlS 30 1 H v (ints l)) (hn:l.length < 2 ^ 40) (n:Int):Ev Tryz.prog C0 W0 63 [v,I n] H=some (.bool (hasI l n),H):=by
 obtain ⟨tm,ht,g0,g1,g2⟩:=tm2 v (I n) 9 (by decide)
 rw [fe63,ht]
 rw [<-List.append_nil (ro H)]
 obtain ⟨r,hr,hb⟩:=ev92 (hs.ro.same (Agree.app (ro H) [])) hn n
 simp -implicitDefEqProofs only [c63,Tryz.f63,aP,g0,g1,g2,r5,↓evLd,nck,↓fc92,hr,hb,↓cbT,↓cbF,↓evDn,evUp,eu,sevalprocAttr]
def BlkIn (v:AV) (lo hi:Nat):Prop:=∀ i k e l c x,v=.slice i k e l c x->lo<=i/\i < hi
theorem cloneV_blk {es n:Nat} {v:AV} {E:TypeId} {xs:List AV} {b:Nat} (hn:n=0↔xs=[]):BlkIn (cloneV es n v b) b (b+(cloneL E v xs).length):=by
 intro i k e l c x h
 by_cases hv:v=.nilSlice
 · subst hv; cases h
 · have hc:cloneV es n v b=if n=0 then .slice b 0 es 0 0 true else .slice (b+1) 0 es n n false:=by
     cases v <;> first | rfl | exact absurd rfl hv
   have hL:cloneL E v xs=if xs=[] then [.cells [] E] else [.cells [] E,.cells xs E]:=by
     cases v <;> first | rfl | exact absurd rfl hv
   rw [hc] at h
   rw [hL]
   by_cases h0:n=0
   · rw [if_pos h0] at h
     rw [if_pos (hn.1 h0)]
     cases h
     exact ⟨Nat.le_refl _,Nat.lt_succ_self _⟩
   · rw [if_neg h0] at h
     rw [if_neg fun e=>h0 (hn.2 e)]
     cases h
     exact ⟨Nat.le_succ _,by simp⟩
def i32s (l:List Int):List AV:=l.map fun x=>.int .i32 x
theorem i32s_nil (l:List Int):l.length=0↔i32s l=[]:=by unfold i32s; simp
theorem memW_own {N:Nat} {HH:AH} (hH:HH.length=N+1) (l:List (List Int × AV)) (hv:∀ p∈l,p.2=.nilSlice->p.1=[]) :
   ∀ j,j<=l.length->∀ i,i < j->Own (N+1+(memW N (l.take i)).2.length) (HH++(memW N (l.take j)).2) 1 21 ((memW N (l.take j)).1.getD i uA) (i32s (l.getD i ([],uA)).1) /\
     BlkIn ((memW N (l.take j)).1.getD i uA) (N+1+(memW N (l.take i)).2.length) (N+1+(memW N (l.take (i+1))).2.length):=by
 intro j
 induction j with
 | zero=>intro _ i hi; omega
 | succ j ih =>
   intro hj i hi
   have hjl:j < l.length:=hj
   have hml:(memW N (l.take j)).1.length=j:=by rw [memW_len,List.length_take,Nat.min_eq_left (Nat.le_of_lt hjl)]
   have hg:l.getD j ([],uA)=l[j]:=by rw [gde,List.getElem?_eq_getElem hjl]; rfl
   have ht:l.take (j+1)=l.take j++[l.getD j ([],uA)]:=by rw [List.take_add_one,List.getElem?_eq_getElem hjl,hg]; rfl
   have hmem:l.getD j ([],uA)∈l:=by rw [hg]; exact List.getElem_mem _
   have hstep:memW N (l.take (j+1))=memStep N (memW N (l.take j)) (l.getD j ([],uA)):=by rw [ht,memW_snoc]
   have hagree:Agree (HH++(memW N (l.take j)).2) (HH++(memW N (l.take (j+1))).2):=by
     rw [hstep]
     show Agree _ (HH++(_++_))
     rw [<-List.append_assoc]
     exact Agree.app _ _
   rcases Nat.lt_or_ge i j with c | c
   · obtain ⟨h1,h2⟩:=ih (Nat.le_of_lt hjl) i c
     have he:(memW N (l.take (j+1))).1.getD i uA=(memW N (l.take j)).1.getD i uA:=by
       rw [hstep]
       show (_++[_]).getD i uA=_
       rw [gde,List.getElem?_append_left (by rw [hml]; exact c),gde]
     rw [he]
     exact ⟨h1.agree hagree,h2⟩
   · have hij:i=j:=by omega
     subst hij
     have he:(memW N (l.take (i+1))).1.getD i uA=cloneV 1 (l.getD i ([],uA)).1.length (l.getD i ([],uA)).2 (N+1+(memW N (l.take i)).2.length):=by
       rw [hstep]
       show (_++[_]).getD i uA=_
       rw [gde,List.getElem?_append_right (by rw [hml]; exact Nat.le_refl _),hml,Nat.sub_self]; rfl
     have hll:(HH++(memW N (l.take i)).2).length=N+1+(memW N (l.take i)).2.length:=by rw [List.length_append,hH]
     rw [he]
     constructor
     · have:=cloneV_own (E:=21) (es:=1) (G:=HH++(memW N (l.take i)).2) (v:=(l.getD i ([],uA)).2) (xs:=i32s (l.getD i ([],uA)).1) (n:=(l.getD i ([],uA)).1.length) (by decide) (by unfold i32s; simp) (fun e=>by rw [hv _ hmem e]; rfl)
       rw [hll] at this
       rw [hstep]
       show Own _ (HH++(_++_)) _ _ _ _
       rw [<-List.append_assoc]
       exact this
     · have:=cloneV_blk (es:=1) (n:=(l.getD i ([],uA)).1.length) (v:=(l.getD i ([],uA)).2) (E:=21) (xs:=i32s (l.getD i ([],uA)).1) (b:=N+1+(memW N (l.take i)).2.length) (i32s_nil _)
       rw [hstep]
       show BlkIn _ _ (N+1+((memW N (l.take i)).2++cloneL 21 (l.getD i ([],uA)).2 (i32s (l.getD i ([],uA)).1)).length)
       rw [List.length_append,<-Nat.add_assoc]
       exact this
theorem Own.s32 {b:Nat} {H:AH} {v:AV} {l:List Int} (h:Own b H 1 21 v (i32s l)):SlS 32 1 H v (l.map row1):=
 Own.slsG ix32T (by decide) (by rw [row1_flat]; exact h) (row1_len l)
theorem memW_sl {H L:AH} {l:List (List Int × AV)}:SlS 24 1 (H++(L++(.cells (memW (H.length+L.length) l).1 32::(memW (H.length+L.length) l).2))) (.slice (H.length+L.length) 0 1 l.length l.length true) ((memW (H.length+L.length) l).1.map fun w=>[w]):=by
 have hml:=memW_len (H.length+L.length) l
 have hg:(H++(L++(AObj.cells (memW (H.length+L.length) l).1 32::(memW (H.length+L.length) l).2)))[H.length+L.length]? =some (.cells (memW (H.length+L.length) l).1 32):=by
   rw [List.getElem?_append_right (Nat.le_add_right _ _),Nat.add_sub_cancel_left,List.getElem?_append_right (Nat.le_refl _),Nat.sub_self]; rfl
 have h:=sls_of (T:=24) (es:=1) ix24T (H:=H++(L++(AObj.cells (memW (H.length+L.length) l).1 32::(memW (H.length+L.length) l).2))) (i:=H.length+L.length) (k:=0) (c:=l.length) (e:=true) (rows:=(memW (H.length+L.length) l).1.map fun w=>[w]) (by
     intro r hr
     obtain ⟨w,_,rfl⟩:=List.mem_map.1 hr
     rfl) (by unfold okC; rw [hg]) (by
     unfold rdCells
     rw [hg]
     simp only [List.length_map]
     rw [if_pos (by omega),List.drop_zero,List.take_of_length_le (by omega),flat1,List.map_id'' (fun _=>rfl)])
 rwa [List.length_map,hml] at h
theorem memW_R {H L:AH} {l:List (List Int × AV)} (hv:∀ p∈l,p.2=.nilSlice->p.1=[]) (hn:l.length < 2 ^ 50) (hb:∀ p∈l,p.1.length < 2 ^ 50) (hi:∀ p∈l,∀ x∈p.1,i32R x) :
   MemR (H++(L++(.cells (memW (H.length+L.length) l).1 32::(memW (H.length+L.length) l).2))) (l.map (·.1)) (.slice (H.length+L.length) 0 1 l.length l.length true):=by
 have hml:=memW_len (H.length+L.length) l
 refine ⟨⟨List.zip (l.map (·.1)) (memW (H.length+L.length) l).1,?_,?_,?_⟩,by rw [List.length_map]; exact hn,fun b hb'=>?_,fun b hb'=>?_⟩
 · rw [List.map_fst_zip (by rw [List.length_map,hml]; exact Nat.le_refl _)]
 · have:(List.zip (l.map (·.1)) (memW (H.length+L.length) l).1).map (fun p=>[p.2])=(memW (H.length+L.length) l).1.map fun w=>[w]:=by
     rw [show (fun p:List Int × AV=>[p.2])=(fun w=>[w]) ∘ Prod.snd from rfl,<-List.map_map,List.map_snd_zip (by rw [List.length_map,hml]; exact Nat.le_refl _)]
   rw [this]
   exact memW_sl
 · intro p hp
   obtain ⟨i,hi',hpe⟩:=List.mem_iff_getElem.1 hp
   have hil:i < l.length:=by rw [List.length_zip,List.length_map] at hi'; omega
   have hiw:i < (memW (H.length+L.length) l).1.length:=by rw [hml]; exact hil
   obtain ⟨ho,_⟩:=memW_own (N:=H.length+L.length) (HH:=H++(L++[.cells (memW (H.length+L.length) l).1 32])) (by simp; omega) l hv l.length (Nat.le_refl _) i hil
   rw [List.take_length] at ho
   have he:p=((l.getD i ([],uA)).1,(memW (H.length+L.length) l).1.getD i uA):=by
     rw [<-hpe,List.getElem_zip,List.getElem_map,gde,List.getElem?_eq_getElem hil,gde,List.getElem?_eq_getElem hiw]; rfl
   rw [he]
   have:=ho.s32
   simpa only [List.append_assoc,List.cons_append,List.nil_append] using this
 · obtain ⟨p,hp,rfl⟩:=List.mem_map.1 hb'
   exact hb p hp
 · obtain ⟨p,hp,rfl⟩:=List.mem_map.1 hb'
   exact hi p hp
theorem nil_of {T es:Nat} {H:AH} {v:AV} {rows:List (List AV)} (h:SlS T es H v rows) (hv:v=.nilSlice):rows=[]:=by
 rcases h.old with ⟨_,e⟩ | ⟨i,k,c,e,e',_⟩
 · exact e
 · rw [hv] at e'; cases e'
theorem ev28R {H:AH} {m:List (List Int)} {vm:AV} (h:MemR H m vm) (hn:m.length<=100) (hb:∀ b∈m,b.length<=1000):∃ v K,Ev Tryz.prog C0 W0 28 [vm] H=some (v,K)/\Agree H K/\MemR K m v:=by
 obtain ⟨⟨l,rfl,hs,hp⟩,h1,h2,h3⟩:=h
 have he:=ev28 hs hp (by rwa [List.length_map] at hn) (fun p hp=>hb _ (List.mem_map_of_mem hp)) []
 rw [List.append_nil] at he
 refine ⟨_,_,he,Agree.app _ _,memW_R (fun p hpl e=>?_) (by rwa [List.length_map] at h1) (fun p hp=>h2 _ (List.mem_map_of_mem hp)) (fun p hp=>h3 _ (List.mem_map_of_mem hp))⟩
 have:=nil_of (hp p hpl) e
 simpa using this
theorem ev40 {G:AH} {q:Nat} {vc vm vs va:AV} {f:Con} {ss:List (List Itm)} {ad:List Nat} {m:List (List Int)} {rc:List Bool} (h:QueV G q vc vm vs va f ss ad m rc 0) (hn:m.length<=100) (hb:∀ b∈m,b.length<=1000):∃ v K,Ev Tryz.prog C0 W0 40 [.ptr q 0] G=some (v,K)/\Agree G K/\MemR K m v:=by
 obtain ⟨tm,ht,g0,g1⟩:=tm1 (.ptr q 0) 10 (by decide)
 rw [fe40,ht]
 have hq1:rdCells G q 1 1=some [vm]:=by have:=h.cell (Agree.refl G) [] 1 (x:=vm) rfl; rwa [Nat.zero_add,List.append_nil] at this
 obtain ⟨v,K,he,hA,hm⟩:=ev28R h.m hn hb
 refine ⟨v,K,?_,hA,hm⟩
 simp -implicitDefEqProofs only [c40,Tryz.f40,aP,g0,g1,↓peq37,hq1,↓fc28,he,r5,↓evLd,nck,↓cbT,↓cbF,↓evDn,evUp,eu,sevalprocAttr]
theorem ms30s (n:Nat) (hn:n<=1000) (s:Option Nat) (H:AH):makeSliceA Tryz.prog s 30 (I n) (I n) H=(put s H (.cells (List.replicate n (I 0)) 3)).map fun p=>(.slice p.1 0 1 n n true,p.2):=by
 have hz:zeroA Tryz.prog 3=some (I 0):=by kernel_rfl
 have hs:sliceElem Tryz.prog 30=some 3:=by kernel_rfl
 have hb:Tryz.prog.bytesOf 3=8:=by kernel_rfl
 have hc:Tryz.prog.cellsOf 3=1:=by kernel_rfl
 unfold makeSliceA
 simp only [hs,hz,Option.bind_some]
 rw [if_pos ⟨by omega,by omega,by omega,by rw [hb]; omega,by simp [AV.cells]⟩]
 rw [hc,Nat.mul_one,Int.toNat_natCast]
 show Option.map _ (put s H (.cells (zrow [I 0] n) 3))=_
 rw [zrow1]
theorem bl71 {c:AV} (hc:c=.nilSlice∨∃ i k es l cc e,c=.slice i k es l cc e) (i1 k1 e1 l1 c1 i2 k2 e2 l2 c2:Nat) (x1 x2:Bool) (f:Con) :
   buildA Tryz.prog 71 [(0,c),(1,.slice i1 k1 e1 l1 c1 x1),(2,.agg [I f.w,.bool f.free,I f.cores,I f.slots,I f.room,I f.pol,I f.lat]),(4,.slice i2 k2 e2 l2 c2 x2)]=some (.agg (rowQ c (.slice i1 k1 e1 l1 c1 x1) .nilSlice (.slice i2 k2 e2 l2 c2 x2) f (List.replicate 16 false) 0)):=by
 rcases hc with rfl | ⟨i,k,es,l,cc,e,rfl⟩ <;> kernel_rfl
theorem cloneV_sh (es n:Nat) (v:AV) (b:Nat):cloneV es n v b=.nilSlice∨∃ i k es' l cc e,cloneV es n v b=.slice i k es' l cc e:=by
 unfold cloneV
 split
 · exact .inl rfl
 · split
   · exact .inr ⟨_,_,_,_,_,_,rfl⟩
   · exact .inr ⟨_,_,_,_,_,_,rfl⟩
def newK (H:AH) (rows:List (List AV)) (l:List (List Int × AV)) (n:Nat) (vc:AV) (f:Con):AH:=
 H++([.cells [I f.w,.bool f.free,I f.cores,I f.slots,I f.room,I f.pol,I f.lat] 27,.fresh,.fresh,.fresh,.fresh,.fresh,.fresh,.fresh,.cells (List.replicate n (I 0)) 3,.fresh,
   .cells (rowQ (cloneV 5 rows.length vc (H.length+12)) (.slice (H.length+((cloneL 66 vc rows.flatten).length+12)) 0 1 l.length l.length true) .nilSlice (.slice (H.length+8) 0 1 n n true) f (List.replicate 16 false) 0) 71,.fresh] ++
   (cloneL 66 vc rows.flatten++(.cells (memW (H.length+((cloneL 66 vc rows.flatten).length+12)) l).1 32::(memW (H.length+((cloneL 66 vc rows.flatten).length+12)) l).2)))
theorem reg10_4 {H:AH} {rows:List (List AV)} {l:List (List Int × AV)} {n:Nat} {vc vm vs:AV} (f:Con) (h27:∀ L,Ev Tryz.prog C0 W0 27 [vc] (H++L)=some (cloneV 5 rows.length vc (H.length+L.length),H++(L++cloneL 66 vc rows.flatten))) (h28:∀ L,Ev Tryz.prog C0 W0 28 [vm] (H++L)=some (.slice (H.length+L.length) 0 1 l.length l.length true,H++(L++(.cells (memW (H.length+L.length) l).1 32::(memW (H.length+L.length) l).2))))
   (hls:∀ G,lenA Tryz.prog 25 G vs=some (I n)) (hn:n<=4) {tm:List AV} (hlen:tm.length=100) (h0:tm.getD 0 uA=vc) (h1:tm.getD 1 uA=vm) (h2:tm.getD 2 uA=vs) (h7:tm.getD 7 uA=.ptr H.length 0) :
   ∃ tm',EvC Tryz.prog C0 W0 pl10 (atPath [true,true,false] (Tryz.f10.body.getD .skip)) (tm,H++[.cells [I f.w,.bool f.free,I f.cores,I f.slots,I f.room,I f.pol,I f.lat] 27])=some (.normal,(tm',newK H rows l n vc f))/\tm'.length=100/\tm'.getD 2 uA=vs/\tm'.getD 11 uA=.ptr (H.length+10) 0:=by
 have hms:=ms30s n (by omega)
 have hb:=fun i1 k1 e1 l1 c1 i2 k2 e2 l2 c2 x1 x2 b=>bl71 (cloneV_sh 5 rows.length vc b) i1 k1 e1 l1 c1 i2 k2 e2 l2 c2 x1 x2 f
 simp -implicitDefEqProofs only [Tryz.f10,aP,hlen,h0,h1,h2,h7,↓EvC_plan plr10_4,p10_4,List.any_toArray',List.any_toArray,List.any_cons,List.any_nil,allocates,↓fc27,↓fc28,h27,h28,hls,↓aop_makeSlice,hms,hb,List.size_toArray,List.replicate_succ,List.replicate_zero,r5,↓evLd,nck,↓cbT,↓cbF,↓evDn,evUp,eu,sevalprocAttr,↓rp_done,↓rp_take,↓rp_rd,↓rp_all,↓rp_join,↓ra_nil,↓ra_first,↓ra_next,↓quietO_none,↓quietO_guardB,↓readO_none,↓q_move,↓q_assign,↓q_field,↓q_fieldAddr,↓q_indexAddr,↓q_nilCheck,↓q_pickB,↓q_extract,put_slot,put_slot_app,List.length_append,Nat.add_assoc,stBeq_self,set_order,keepV_eq]
 refine ⟨_,rfl,?_,?_,?_⟩
 · simp only [List.length_set,hlen]
 · simp only [hlen,h2,gB,sevalprocAttr]
 · simp only [hlen,gB,sevalprocAttr]
def codL (K:AH) (nm:ByteArray) (loc:Int) (vp vz vi:AV) (rp rz ri:List (List AV)):AH:=
 .cells [.str nm,cloneV 2 rp.length vp (K.length+1),cloneV 2 rz.length vz (K.length+((cloneL 74 vp rp.flatten).length+1)),I loc,cloneV 8 ri.length vi (K.length+((cloneL 74 vp rp.flatten).length+((cloneL 77 vz rz.flatten).length+1)))] 66 ::
   (cloneL 74 vp rp.flatten++(cloneL 77 vz rz.flatten++cloneL 80 vi ri.flatten))
theorem reg10_8 {K:AH} {nm:ByteArray} {vp vz vi:AV} {loc:Int} {rp rz ri:List (List AV)} (h29:∀ L,Ev Tryz.prog C0 W0 29 [vp] (K++L)=some (cloneV 2 rp.length vp (K.length+L.length),K++(L++cloneL 74 vp rp.flatten))) (h30:∀ L,Ev Tryz.prog C0 W0 30 [vz] (K++L)=some (cloneV 2 rz.length vz (K.length+L.length),K++(L++cloneL 77 vz rz.flatten))) (h31:∀ L,Ev Tryz.prog C0 W0 31 [vi] (K++L)=some (cloneV 8 ri.length vi (K.length+L.length),K++(L++cloneL 80 vi ri.flatten))) (hvp:vp.cells=[vp]/\vp.one=true) (hvz:vz.cells=[vz]/\vz.one=true) (hvi:vi.cells=[vi]/\vi.one=true) {tm:List AV} (hlen:tm.length=100) (h13:tm.getD 13 uA=.ptr K.length 0) :
   ∃ tm',EvC Tryz.prog C0 W0 pl10 (atPath [true,true,true,false,true,false,false,true,true,false,false,true,false] (Tryz.f10.body.getD .skip)) (tm,K++[.cells [.str nm,vp,vz,I loc,vi] 66])=some (.normal,(tm',K++codL K nm loc vp vz vi rp rz ri))/\tm'.length=100/\tm'.getD 2 uA=tm.getD 2 uA/\tm'.getD 11 uA=tm.getD 11 uA/\tm'.getD 12 uA=tm.getD 12 uA/\tm'.getD 13 uA=tm.getD 13 uA/\tm'.getD 40 uA=tm.getD 40 uA/\tm'.getD 41 uA=tm.getD 41 uA/\tm'.getD 42 uA=tm.getD 42 uA:=by
 obtain ⟨c1,o1⟩:=hvp
 obtain ⟨c2,o2⟩:=hvz
 obtain ⟨c3,o3⟩:=hvi
 have w1:=fun b=>(cloneV_cells 2 rp.length vp b)
 have w2:=fun b=>(cloneV_cells 2 rz.length vz b)
 have w3:=fun b=>(cloneV_cells 8 ri.length vi b)
 have w1c:=fun b=>(w1 b).1
 have w1o:=fun b=>(w1 b).2
 have w2c:=fun b=>(w2 b).1
 have w2o:=fun b=>(w2 b).2
 have w3c:=fun b=>(w3 b).1
 have w3o:=fun b=>(w3 b).2
 simp -implicitDefEqProofs only [Tryz.f10,aP,hlen,h13,↓EvC_plan plr10_8,p10_8,List.any_toArray,List.any_cons,List.any_nil,allocates,↓fc29,↓fc30,↓fc31,h29,h30,h31,↓w1c,↓w1o,↓w2c,↓w2o,↓w3c,↓w3o,st62,st63,st64,r5,↓evLd,nck,↓cbT,↓cbF,↓evDn,evUp,eu,sevalprocAttr,↓rp_done,↓rp_take,↓rp_rd,↓rp_all,↓rp_join,↓ra_nil,↓ra_first,↓ra_next,↓quietO_none,↓quietO_guardB,↓readO_none,↓q_move,↓q_assign,↓q_field,↓q_fieldAddr,↓q_indexAddr,↓q_nilCheck,↓q_pickB,↓q_extract,put_slot,put_slot_app,List.length_append,Nat.add_assoc,stBeq_self,set_order,keepV_eq]
 refine ⟨_,rfl,?_⟩
 simp only [List.length_set,hlen,h13,gB,sevalprocAttr,and_self]
end Go.Dv
