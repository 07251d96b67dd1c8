/- Part 17 of the walks (own work). -/
import Derived.Test.YtilpjnckfkjkbaaGreatDoorQ16
set_option maxRecDepth 100000
set_option maxHeartbeats 4000000
set_option linter.unusedSimpArgs false
set_option linter.unusedVariables false
namespace Go.Dv
open Go.Proofs
attribute [local congr] bind_congr_first cb_congr condA_congr gd_congr br_congr
theorem peq37 (H:AH) (i k:Nat) (fb:Option AV):binV .eql 37 (.ptr i k) .nilPtr H fb=some (.bool false):=by
 have h:eqA Tryz.prog 37 H (.ptr i k) .nilPtr=some false:=by kernel_rfl
 unfold binV; simp only [h]; try rfl
theorem seq30 (H:AH) (i k e l c:Nat) (x:Bool) (fb:Option AV):binV .eql 30 (.slice i k e l c x) .nilSlice H fb=some (.bool false):=by
 have h:eqA Tryz.prog 30 H (.slice i k e l c x) .nilSlice=some false:=by kernel_rfl
 unfold binV; simp only [h]; try rfl
theorem nck (i k:Nat):nilCheckA (.ptr i k)=some (.ptr i k):=rfl
theorem ia69 (i k:Nat) (kk:IntKind) (n:Int):indexAddrA Tryz.prog 69 (.ptr i k) (.int kk n)=if 0<=n/\n < 16 then some (.ptr i (k+n.toNat * 1)) else none:=by kernel_rfl
theorem left_l {G:AH} {q:Nat} {vc vm vs va:AV} {f:Con} {ss:List (List Itm)} {ad:List Nat} {m:List (List Int)} {rc:List Bool} (h:QueV G q vc vm vs va f ss ad m rc 0) (hN:ss.length < 2 ^ 60):∀ (d j:Nat) (tm:List AV) (K:AH),ss.length - j=d->j<=ss.length->(tm.length=34/\Agree G K/\tm.getD 0 uA=.ptr q 0/\tm.getD 12 uA=vs/\tm.getD 13 uA=I ss.length/\tm.getD 14 uA=I ((j:Nat):Int)/\∃ v,tm.getD 3 uA=v/\Own G.length K 1 3 v ((leftS ss ad j).map fun (n:Nat)=>I (n:Int))) ->
   ∃ X K1,EvC Tryz.prog C0 W0 plN l14_0 (tm,K)=some (.exit 0,(X,K1))/\(X.length=34/\Agree G K1/\X.getD 0 uA=.ptr q 0/\X.getD 12 uA=vs/\X.getD 13 uA=I ss.length/\X.getD 14 uA=I ((ss.length:Nat):Int)/\∃ v,X.getD 3 uA=v/\Own G.length K1 1 3 v ((leftS ss ad ss.length).map fun (n:Nat)=>I (n:Int))):=by
 intro d
 induction d with
 | zero =>
   intro j tm K hd hj hI
   have hjl:j=ss.length:=by omega
   subst hjl
   have hI0:=hI
   obtain ⟨hlen,hA,h0,h12,h13,h14,v,h3,ho⟩:=hI
   have hlt:ltB (((ss.length:Nat)):Int) (ss.length:Nat)=false:=ltB_f (by omega)
   rw [el14_0]
   simp -implicitDefEqProofs only [b14_0,Tryz.f14,aP,hlen,h0,h12,h13,h14,h3,hlt,↓cbT,↓cbF,↓evDn,evUp,eu,sevalprocAttr]
   refine ⟨_,K,rfl,?_⟩
   exact ⟨by first | exact hlen | simp only [List.length_set,hlen],hA,Aj4 (by simp only [hlen,h0,h12,h13,h14,gB,and_self,sevalprocAttr]) ⟨v,by simp only [hlen,h3,gB,sevalprocAttr],ho⟩⟩
 | succ d ih =>
   intro j tm K hd hj hI
   have hI0:=hI
   obtain ⟨hlen,hA,h0,h12,h13,h14,v,h3,ho⟩:=hI
   have hjN:j < ss.length:=by omega
   have hlt:ltB (j:Int) (ss.length:Nat)=true:=ltB_t (by omega)
   have hw:=inc_i (j:=j) (by omega)
   have hq10:∀ L,rdCells (K++L) q 10 1=some [va]:=fun L=>by have:=h.cell hA L 10 (x:=va) rfl; rwa [Nat.zero_add] at this
   obtain ⟨i0,k0,w0,hix0,hrd0,hxs⟩:=h.s.at hA hjN
   have hln:=hxs.len
   obtain ⟨i1,k1,hix1,hrd1⟩:=h.at hA hjN
   have hle:=h.le j hjN
   have hn1:=hxs.n
   have hsub:IntKind.i64.wrap (((strAt ss j).length:Int) - ((ad.getD j 0:Nat):Int))=(((strAt ss j).length - ad.getD j 0:Nat):Int):=by rw [wr_i (by omega)]; omega
   obtain ⟨v',K',happ,hA',ho',_⟩:=app_int hA ho (by unfold leftS; rw [List.length_map,List.length_range]; have:=h.fs; omega) ((strAt ss j).length - ad.getD j 0)
   rw [<-leftS_succ] at ho'
   rw [el14_0]
   rw [<-List.append_nil K]
   have key:∀ (tmN:List AV) (KN:AH) (Z:Option (AExit × St)),EvC Tryz.prog C0 W0 plN l14_0 (tmN,KN)=Z->(tmN.length=34/\Agree G KN/\tmN.getD 0 uA=.ptr q 0/\tmN.getD 12 uA=vs/\tmN.getD 13 uA=I ss.length/\tmN.getD 14 uA=I (((j+1):Nat):Int)/\∃ v,tmN.getD 3 uA=v/\Own G.length KN 1 3 v ((leftS ss ad (j+1)).map fun (n:Nat)=>I (n:Int)))->∃ X K1,Z=some (.exit 0,(X,K1))/\(X.length=34/\Agree G K1/\X.getD 0 uA=.ptr q 0/\X.getD 12 uA=vs/\X.getD 13 uA=I ss.length/\X.getD 14 uA=I ((ss.length:Nat):Int)/\∃ v,X.getD 3 uA=v/\Own G.length K1 1 3 v ((leftS ss ad ss.length).map fun (n:Nat)=>I (n:Int))):=by
     intro tmN KN Z h hJ
     obtain ⟨X,K1,A,B⟩:=ih (j+1) tmN KN (by omega) (by omega) hJ
     exact ⟨X,K1,h.symm.trans A,B⟩
   simp -implicitDefEqProofs only [b14_0,Tryz.f14,aP,hlen,h0,h12,h13,h14,h3,hlt,hw,hq10,hix0,hrd0,hln,hix1,hrd1,hsub,bs30,↓callA_append,↓callA_len,happ,r5,↓evLd,nck,↓cbT,↓cbF,↓evDn,evUp,eu,sevalprocAttr]
   generalize hX:EvC Tryz.prog C0 W0 _ _ _=Z
   refine key _ _ _ hX ?_
   exact ⟨by simp only [ls,hlen],hA',Aj4 (by simp only [hlen,h0,h12,h13,h14,gB,and_self,sevalprocAttr]) ⟨v',by simp only [hlen,h3,gB,sevalprocAttr],ho'⟩⟩
theorem left_l' {G:AH} {q:Nat} {vc vm vs va:AV} {f:Con} {ss:List (List Itm)} {ad:List Nat} {m:List (List Int)} {rc:List Bool} {tm:List AV} {K:AH} {Z:Option (AExit × St)} (hX:EvC Tryz.prog C0 W0 plN l14_0 (tm,K)=Z) (h:QueV G q vc vm vs va f ss ad m rc 0) (hN:ss.length < 2 ^ 60) (hI:tm.length=34/\Agree G K/\tm.getD 0 uA=.ptr q 0/\tm.getD 12 uA=vs/\tm.getD 13 uA=I ss.length/\tm.getD 14 uA=I ((0:Nat):Int)/\∃ v,tm.getD 3 uA=v/\Own G.length K 1 3 v ((leftS ss ad 0).map fun (n:Nat)=>I (n:Int))) :
   ∃ X K1,Z=some (.exit 0,(X,K1))/\(X.length=34/\Agree G K1/\X.getD 0 uA=.ptr q 0/\X.getD 12 uA=vs/\X.getD 13 uA=I ss.length/\X.getD 14 uA=I ((ss.length:Nat):Int)/\∃ v,X.getD 3 uA=v/\Own G.length K1 1 3 v ((leftS ss ad ss.length).map fun (n:Nat)=>I (n:Int))):=by
 subst hX
 exact left_l h hN (ss.length) 0 tm K (by omega) (by omega) hI
theorem ev14 {G:AH} {q:Nat} {vc vm vs va:AV} {f:Con} {ss:List (List Itm)} {ad:List Nat} {m:List (List Int)} {rc:List Bool} (h:QueV G q vc vm vs va f ss ad m rc 0):∃ v K,Ev Tryz.prog C0 W0 14 [.ptr q 0] G=some (v,K)/\Agree G K/\Own G.length K 1 3 v ((leftS ss ad ss.length).map fun (n:Nat)=>I (n:Int)):=by
 obtain ⟨tm,ht,g0,g1⟩:=tm1 (.ptr q 0) 34 (by decide)
 rw [fe14,ht]
 have hq9:rdCells G q 9 1=some [vs]:=by have:=h.cell (Agree.refl G) [] 9 (x:=vs) rfl; rwa [Nat.zero_add,List.append_nil] at this
 have hls:=h.s.len
 simp -implicitDefEqProofs only [c14,Tryz.f14,aP,g0,g1,↓peq37,hq9,hls,r5,↓evLd,nck,↓cbT,↓cbF,↓evDn,evUp,eu,sevalprocAttr]
 generalize hX:EvC Tryz.prog C0 W0 _ (Code.loop _) _=Z
 obtain ⟨X,K1,he,i0,iA,i1,i2,i3,i4,v,i5,io⟩:=left_l' hX h (by have:=h.fs; omega) ⟨by simp only [ls,g0],Agree.refl G,Aj3 (by simp only [g0,g1,gB,and_self,sevalprocAttr]) ⟨by simp only [g0,gB,sevalprocAttr]; try rfl,.nilSlice,by simp only [g0,gB,sevalprocAttr],.nil⟩⟩
 subst he
 refine ⟨v,K1,?_,iA,io⟩
 simp -implicitDefEqProofs only [aP,i0,i1,i5,↓cbT,↓cbF,↓evDn,evUp,eu,sevalprocAttr]
theorem reg33_8 {G:AH} {q:Nat} {vc vm vs va:AV} {f:Con} {ss:List (List Itm)} {ad:List Nat} {m:List (List Int)} {rc:List Bool} (h:QueV G q vc vm vs va f ss ad m rc 0) {K:AH} (hA:Agree G K) {j:Nat} (hjN:j < ss.length) {w0:AV} (hxs:ItmsR G (strAt ss j) w0) {tm:List AV} (hlen:tm.length=64) (h0:tm.getD 0 uA=.ptr q 0) (h5:tm.getD 5 uA=w0) (h6:tm.getD 6 uA=I ((ad.getD j 0:Nat):Int)) :
   ∃ tm',EvC Tryz.prog C0 W0 pl33 (atPath [true,true,true,false,true,false,false,true,true,false,false,true,true,false] (Tryz.f33.body.getD .skip)) (tm,K++[])=some (.normal,(tm',K++[]))/\tm'.length=64/\tm'.getD 57 uA=.bool (okS ss ad rc j)/\tm'.getD 0 uA=tm.getD 0 uA/\tm'.getD 3 uA=tm.getD 3 uA/\tm'.getD 4 uA=tm.getD 4 uA/\tm'.getD 20 uA=tm.getD 20 uA/\tm'.getD 21 uA=tm.getD 21 uA/\tm'.getD 22 uA=tm.getD 22 uA:=by
   have hq10:∀ L,rdCells (K++L) q 10 1=some [va]:=fun L=>by have:=h.cell hA L 10 (x:=va) rfl; rwa [Nat.zero_add] at this
   have hln:=hxs.len
   cases p1:ltB ((ad.getD j 0:Nat):Int) ((strAt ss j).length:Int) with
   | false =>
     rw [show okS ss ad rc j=false from by unfold okS; rw [p1,Bool.false_and]; try rfl]
     simp -implicitDefEqProofs only [atPath,Tryz.f33,Option.getD_some,hlen,h0,h5,h6,plr33_8,hln,hq10,r5,↓evLd,nck,p1,↓cbT,↓cbF,↓evDn,evUp,eu,sevalprocAttr]
     exact ⟨_,rfl,by simp only [ls,hlen],by simp only [hlen,h0,gB,and_self,sevalprocAttr]⟩
   | true =>
     obtain ⟨i2,k2,w2,hix2,hrd2,_⟩:=hxs.at (Agree.refl G) (j:=ad.getD j 0) (by rw [ltB_iff] at p1; omega)
     have hrd2':∀ L,rdCells (K++L) i2 k2 9=some (rowX (itmAt (strAt ss j) (ad.getD j 0)) w2):=fun L=>by have:=hrd2 []; rw [List.append_nil] at this; exact rd_same (hA.appR L) this
     have hk0:∀ L,rdCells (K++L) i2 k2 1=some [I (itmAt (strAt ss j) (ad.getD j 0)).kind]:=fun L=>by have:=rd_cell (hrd2' L) (j:=0) (x:=I (itmAt (strAt ss j) (ad.getD j 0)).kind) rfl; rwa [Nat.add_zero] at this
     cases p2:eqB (itmAt (strAt ss j) (ad.getD j 0)).kind 4 with
     | false =>
       rw [show okS ss ad rc j=true from by unfold okS; rw [p1,p2]; try rfl]
       simp -implicitDefEqProofs only [atPath,Tryz.f33,Option.getD_some,hlen,h0,h5,h6,plr33_8,hln,hq10,r5,↓evLd,nck,p1,p2,hix2,hk0,↓cbT,↓cbF,↓evDn,evUp,eu,sevalprocAttr]
       exact ⟨_,rfl,by simp only [ls,hlen],by simp only [hlen,h0,gB,and_self,sevalprocAttr]⟩
     | true =>
       have hk6:∀ L,rdCells (K++L) i2 (k2+6) 1=some [I (itmAt (strAt ss j) (ad.getD j 0)).ev]:=fun L=>rd_cell (hrd2' L) (j:=6) rfl
       have hev:=h.ev _ (strAt_mem hjN) _ (itmAt_mem (by rw [ltB_iff] at p1; omega)) (.inr ((eqB_iff _ _).1 p2))
       have hix3:∀ kk,indexAddrA Tryz.prog 69 (.ptr q 11) (.int kk (itmAt (strAt ss j) (ad.getD j 0)).ev)=some (.ptr q (11+(itmAt (strAt ss j) (ad.getD j 0)).ev.toNat)):=fun kk=>by rw [ia69,if_pos hev,Nat.mul_one]
       have hrc:∀ L,rdCells (K++L) q (11+(itmAt (strAt ss j) (ad.getD j 0)).ev.toNat) 1=some [.bool (rc.getD (itmAt (strAt ss j) (ad.getD j 0)).ev.toNat false)]:=fun L=>by
         have:=h.cell hA L (11+(itmAt (strAt ss j) (ad.getD j 0)).ev.toNat) (rowQ_rc h.lr (by omega))
         rwa [Nat.zero_add] at this
       cases p3:rc.getD (itmAt (strAt ss j) (ad.getD j 0)).ev.toNat false with
       | true =>
         rw [show okS ss ad rc j=true from by unfold okS; rw [p1,p2,p3]; try rfl]
         simp -implicitDefEqProofs only [atPath,Tryz.f33,Option.getD_some,hlen,h0,h5,h6,plr33_8,hln,hq10,r5,↓evLd,nck,p1,p2,p3,hix2,hk0,hk6,hix3,hrc,↓cbT,↓cbF,↓evDn,evUp,eu,sevalprocAttr]
         exact ⟨_,rfl,by simp only [ls,hlen],by simp only [hlen,h0,gB,and_self,sevalprocAttr]⟩
       | false =>
         rw [show okS ss ad rc j=false from by unfold okS; rw [p1,p2,p3]; try rfl]
         simp -implicitDefEqProofs only [atPath,Tryz.f33,Option.getD_some,hlen,h0,h5,h6,plr33_8,hln,hq10,r5,↓evLd,nck,p1,p2,p3,hix2,hk0,hk6,hix3,hrc,↓cbT,↓cbF,↓evDn,evUp,eu,sevalprocAttr]
         exact ⟨_,rfl,by simp only [ls,hlen],by simp only [hlen,h0,gB,and_self,sevalprocAttr]⟩
theorem reg33_8' {G:AH} {q:Nat} {vc vm vs va:AV} {f:Con} {ss:List (List Itm)} {ad:List Nat} {m:List (List Int)} {rc:List Bool} (h:QueV G q vc vm vs va f ss ad m rc 0) {K:AH} (hA:Agree G K) {j:Nat} (hjN:j < ss.length) {w0:AV} (hxs:ItmsR G (strAt ss j) w0) {tm:List AV} {R:Option (AExit × St)} (hR:EvC Tryz.prog C0 W0 pl33 (atPath [true,true,true,false,true,false,false,true,true,false,false,true,true,false] (Tryz.f33.body.getD .skip)) (tm,K++[])=R) (hlen:tm.length=64) (h0:tm.getD 0 uA=.ptr q 0) (h5:tm.getD 5 uA=w0) (h6:tm.getD 6 uA=I ((ad.getD j 0:Nat):Int)) :
   ∃ tm',R=some (.normal,(tm',K++[]))/\tm'.length=64/\tm'.getD 57 uA=.bool (okS ss ad rc j)/\tm'.getD 0 uA=tm.getD 0 uA/\tm'.getD 3 uA=tm.getD 3 uA/\tm'.getD 4 uA=tm.getD 4 uA/\tm'.getD 20 uA=tm.getD 20 uA/\tm'.getD 21 uA=tm.getD 21 uA/\tm'.getD 22 uA=tm.getD 22 uA:=by
 subst hR
 exact reg33_8 h hA hjN hxs hlen h0 h5 h6
theorem ready_l {G:AH} {q:Nat} {vc vm vs va:AV} {f:Con} {ss:List (List Itm)} {ad:List Nat} {m:List (List Int)} {rc:List Bool} (h:QueV G q vc vm vs va f ss ad m rc 0) (hN:ss.length < 2 ^ 60):∀ (d j:Nat) (tm:List AV) (K:AH),ss.length - j=d->j<=ss.length->(tm.length=64/\Agree G K/\tm.getD 0 uA=.ptr q 0/\tm.getD 20 uA=vs/\tm.getD 21 uA=I ss.length/\tm.getD 22 uA=I ((j:Nat):Int)/\∃ v,tm.getD 3 uA=v/\Own G.length K 1 3 v ((readyS ss ad rc j).map fun (n:Nat)=>I (n:Int))) ->
   ∃ X K1,EvC Tryz.prog C0 W0 pl33 l33_0 (tm,K)=some (.exit 0,(X,K1))/\(X.length=64/\Agree G K1/\X.getD 0 uA=.ptr q 0/\X.getD 20 uA=vs/\X.getD 21 uA=I ss.length/\X.getD 22 uA=I ((ss.length:Nat):Int)/\∃ v,X.getD 3 uA=v/\Own G.length K1 1 3 v ((readyS ss ad rc ss.length).map fun (n:Nat)=>I (n:Int))):=by
 intro d
 induction d with
 | zero =>
   intro j tm K hd hj hI
   have hjl:j=ss.length:=by omega
   subst hjl
   have hI0:=hI
   obtain ⟨hlen,hA,h0,h20,h21,h22,v,h3,ho⟩:=hI
   have hlt:ltB (((ss.length:Nat)):Int) (ss.length:Nat)=false:=ltB_f (by omega)
   rw [el33_0]
   simp -implicitDefEqProofs only [b33_0,Tryz.f33,aP,hlen,h0,h20,h21,h22,h3,hlt,↓cbT,↓cbF,↓evDn,evUp,eu,sevalprocAttr]
   refine ⟨_,K,rfl,?_⟩
   exact ⟨by first | exact hlen | simp only [List.length_set,hlen],hA,Aj4 (by simp only [hlen,h0,h20,h21,h22,gB,and_self,sevalprocAttr]) ⟨v,by simp only [hlen,h3,gB,sevalprocAttr],ho⟩⟩
 | succ d ih =>
   intro j tm K hd hj hI
   have hI0:=hI
   obtain ⟨hlen,hA,h0,h20,h21,h22,v,h3,ho⟩:=hI
   have hjN:j < ss.length:=by omega
   have hlt:ltB (j:Int) (ss.length:Nat)=true:=ltB_t (by omega)
   have hw:=inc_i (j:=j) (by omega)
   have hq10:∀ L,rdCells (K++L) q 10 1=some [va]:=fun L=>by have:=h.cell hA L 10 (x:=va) rfl; rwa [Nat.zero_add] at this
   obtain ⟨i0,k0,w0,hix0,hrd0,hxs⟩:=h.s.at hA hjN
   have hln:=hxs.len
   obtain ⟨i1,k1,hix1,hrd1⟩:=h.at hA hjN
   have hle:=h.le j hjN
   have hn1:=hxs.n
   obtain ⟨v',K',happ,hA',ho',_⟩:=app_int hA ho (by have:=readyS_len ss ad rc j; have:=h.fs; omega) j
   rw [el33_0]
   rw [<-List.append_nil K]
   have key:∀ (tmN:List AV) (KN:AH) (Z:Option (AExit × St)),EvC Tryz.prog C0 W0 pl33 l33_0 (tmN,KN)=Z->(tmN.length=64/\Agree G KN/\tmN.getD 0 uA=.ptr q 0/\tmN.getD 20 uA=vs/\tmN.getD 21 uA=I ss.length/\tmN.getD 22 uA=I (((j+1):Nat):Int)/\∃ v,tmN.getD 3 uA=v/\Own G.length KN 1 3 v ((readyS ss ad rc (j+1)).map fun (n:Nat)=>I (n:Int)))->∃ X K1,Z=some (.exit 0,(X,K1))/\(X.length=64/\Agree G K1/\X.getD 0 uA=.ptr q 0/\X.getD 20 uA=vs/\X.getD 21 uA=I ss.length/\X.getD 22 uA=I ((ss.length:Nat):Int)/\∃ v,X.getD 3 uA=v/\Own G.length K1 1 3 v ((readyS ss ad rc ss.length).map fun (n:Nat)=>I (n:Int))):=by
     intro tmN KN Z h hJ
     obtain ⟨X,K1,A,B⟩:=ih (j+1) tmN KN (by omega) (by omega) hJ
     exact ⟨X,K1,h.symm.trans A,B⟩
   simp -implicitDefEqProofs only [b33_0,Tryz.f33,aP,hlen,h0,h20,h21,h22,h3,hlt,hw,hq10,hix0,hrd0,hln,hix1,hrd1,r5,↓evLd,nck,↓cbT,↓cbF,↓evDn,evUp,eu,sevalprocAttr]
   generalize hR:EvC Tryz.prog C0 W0 _ (Code.region _ _ _) _=R
   obtain ⟨t,he,tl,t57,t0,t3,t4,t20,t21,t22⟩:=reg33_8' h hA hjN hxs hR (by simp only [ls,hlen]) (by simp only [hlen,h0,gB,sevalprocAttr]) (by simp only [hlen,gB,sevalprocAttr]) (by simp only [hlen,gB,sevalprocAttr])
   subst he
   simp only [hlen,h0,h3,h20,h21,h22,gB,sevalprocAttr] at t0 t3 t4 t20 t21 t22
   cases hok:okS ss ad rc j with
   | true =>
     simp -implicitDefEqProofs only [tl,t57,t0,t3,t4,t20,t21,t22,hw,hok,bs30,↓callA_append,happ,↓cbT,↓cbF,↓evDn,evUp,eu,sevalprocAttr]
     generalize hX:EvC Tryz.prog C0 W0 _ _ _=Z
     refine key _ _ _ hX ?_
     try simp only [List.append_nil]
     exact ⟨by first | exact tl | simp only [List.length_set,tl],hA',Aj4 (by simp only [tl,t0,t20,t21,t22,gB,and_self,sevalprocAttr]) ⟨v',by simp only [tl,t3,gB,sevalprocAttr],by rw [readyS_succ,hok,if_pos rfl]; exact ho'⟩⟩
   | false =>
     simp -implicitDefEqProofs only [tl,t57,t0,t3,t4,t20,t21,t22,hw,hok,↓cbT,↓cbF,↓evDn,evUp,eu,sevalprocAttr]
     generalize hX:EvC Tryz.prog C0 W0 _ _ _=Z
     refine key _ _ _ hX ?_
     try simp only [List.append_nil]
     exact ⟨by first | exact tl | simp only [List.length_set,tl],hA,Aj4 (by simp only [tl,t0,t20,t21,t22,gB,and_self,sevalprocAttr]) ⟨v,by simp only [tl,t3,gB,sevalprocAttr],by rw [readyS_succ,hok]; exact ho⟩⟩
theorem ready_l' {G:AH} {q:Nat} {vc vm vs va:AV} {f:Con} {ss:List (List Itm)} {ad:List Nat} {m:List (List Int)} {rc:List Bool} {tm:List AV} {K:AH} {Z:Option (AExit × St)} (hX:EvC Tryz.prog C0 W0 pl33 l33_0 (tm,K)=Z) (h:QueV G q vc vm vs va f ss ad m rc 0) (hN:ss.length < 2 ^ 60) (hI:tm.length=64/\Agree G K/\tm.getD 0 uA=.ptr q 0/\tm.getD 20 uA=vs/\tm.getD 21 uA=I ss.length/\tm.getD 22 uA=I ((0:Nat):Int)/\∃ v,tm.getD 3 uA=v/\Own G.length K 1 3 v ((readyS ss ad rc 0).map fun (n:Nat)=>I (n:Int))) :
   ∃ X K1,Z=some (.exit 0,(X,K1))/\(X.length=64/\Agree G K1/\X.getD 0 uA=.ptr q 0/\X.getD 20 uA=vs/\X.getD 21 uA=I ss.length/\X.getD 22 uA=I ((ss.length:Nat):Int)/\∃ v,X.getD 3 uA=v/\Own G.length K1 1 3 v ((readyS ss ad rc ss.length).map fun (n:Nat)=>I (n:Int))):=by
 subst hX
 exact ready_l h hN (ss.length) 0 tm K (by omega) (by omega) hI
theorem ev33 {G:AH} {q:Nat} {vc vm vs va:AV} {f:Con} {ss:List (List Itm)} {ad:List Nat} {m:List (List Int)} {rc:List Bool} (h:QueV G q vc vm vs va f ss ad m rc 0):∃ v K,Ev Tryz.prog C0 W0 33 [.ptr q 0] G=some (v,K)/\Agree G K/\Own G.length K 1 3 v ((readyS ss ad rc ss.length).map fun (n:Nat)=>I (n:Int)):=by
 obtain ⟨tm,ht,g0,g1⟩:=tm1 (.ptr q 0) 64 (by decide)
 rw [fe33,ht]
 have hq9:rdCells G q 9 1=some [vs]:=by have:=h.cell (Agree.refl G) [] 9 (x:=vs) rfl; rwa [Nat.zero_add,List.append_nil] at this
 have hq27:rdCells G q 27 1=some [I 0]:=by have:=h.cell (Agree.refl G) [] 27 (rowQ_en h.lr); rwa [Nat.zero_add,List.append_nil] at this
 have hls:=h.s.len
 have e0:eqB 0 0=true:=rfl
 simp -implicitDefEqProofs only [c33,Tryz.f33,aP,g0,g1,↓peq37,hq9,hq27,e0,hls,r5,↓evLd,nck,↓cbT,↓cbF,↓evDn,evUp,eu,sevalprocAttr]
 generalize hX:EvC Tryz.prog C0 W0 _ (Code.loop _) _=Z
 obtain ⟨X,K1,he,i0,iA,i1,i2,i3,i4,v,i5,io⟩:=ready_l' hX h (by have:=h.fs; omega) ⟨by simp only [ls,g0],Agree.refl G,Aj3 (by simp only [g0,g1,gB,and_self,sevalprocAttr]) ⟨by simp only [g0,gB,sevalprocAttr]; try rfl,.nilSlice,by simp only [g0,gB,sevalprocAttr],.nil⟩⟩
 subst he
 refine ⟨v,K1,?_,iA,io⟩
 simp -implicitDefEqProofs only [aP,i0,i1,i5,↓cbT,↓cbF,↓evDn,evUp,eu,sevalprocAttr]
theorem ints_at {H K:AH} {v:AV} {l:List Nat} (hs:SlS 30 1 H v (ints l)) (hA:Agree H K) {j:Nat} (hj:j < l.length):∃ i k,(∀ kk,indexAddrA Tryz.prog 30 v (.int kk (j:Int))=some (.ptr i k))/\∀ L,rdCells (K++L) i k 1=some [I ((l.getD j 0:Nat):Int)]:=by
 obtain ⟨i,k,hi,hr⟩:=hs.ix j [I ((l.getD j 0:Nat):Int)] (by
   unfold ints
   rw [List.getElem?_map,List.getElem?_eq_getElem hj,gde,List.getElem?_eq_getElem hj]; rfl)
 exact ⟨i,k,hi,fun L=>row_rd hr hA L⟩
theorem ints_ln {H:AH} {v:AV} {l:List Nat} (hs:SlS 30 1 H v (ints l)) (G:AH):lenA Tryz.prog 30 G v=some (I l.length):=by
 have:=hs.len G
 unfold ints at this
 rwa [List.length_map] at this
theorem sum_take_succ (l:List Nat) {j:Nat} (hj:j < l.length):(l.take (j+1)).sum=(l.take j).sum+l.getD j 0:=by
 rw [List.take_add_one,List.getElem?_eq_getElem hj,List.sum_append,gde,List.getElem?_eq_getElem hj]; simp
theorem sum_l {G:AH} {v:AV} {l:List Nat} (hs:SlS 30 1 G v (ints l)) (hb:l.sum < 2 ^ 40) (hN:l.length < 2 ^ 60):∀ (d j:Nat) (tm:List AV) (K:AH),l.length - j=d->j<=l.length->(tm.length=18/\Agree G K/\tm.getD 7 uA=v/\tm.getD 8 uA=I l.length/\tm.getD 9 uA=I ((j:Nat):Int)/\tm.getD 3 uA=I (((l.take j).sum:Nat):Int)) ->
   ∃ X K1,EvC Tryz.prog C0 W0 plN l36_0 (tm,K)=some (.exit 0,(X,K1))/\(X.length=18/\Agree G K1/\X.getD 7 uA=v/\X.getD 8 uA=I l.length/\X.getD 9 uA=I ((l.length:Nat):Int)/\X.getD 3 uA=I (((l.take l.length).sum:Nat):Int)):=by
 intro d
 induction d with
 | zero =>
   intro j tm K hd hj hI
   have hjl:j=l.length:=by omega
   subst hjl
   have hI0:=hI
   obtain ⟨hlen,hA,h7,h8,h9,h3⟩:=hI
   have hlt:ltB (((l.length:Nat)):Int) (l.length:Nat)=false:=ltB_f (by omega)
   rw [el36_0]
   simp -implicitDefEqProofs only [b36_0,Tryz.f36,aP,hlen,h7,h8,h9,h3,hlt,↓cbT,↓cbF,↓evDn,evUp,eu,sevalprocAttr]
   refine ⟨_,K,rfl,?_⟩
   exact ⟨by first | exact hlen | simp only [List.length_set,hlen],hA,by simp only [hlen,h7,h8,h9,h3,gB,and_self,sevalprocAttr]⟩
 | succ d ih =>
   intro j tm K hd hj hI
   have hI0:=hI
   obtain ⟨hlen,hA,h7,h8,h9,h3⟩:=hI
   have hjN:j < l.length:=by omega
   have hlt:ltB (j:Int) (l.length:Nat)=true:=ltB_t (by omega)
   have hw:=inc_i (j:=j) (by omega)
   obtain ⟨i,k,hix,hrd⟩:=ints_at hs hA hjN
   have hsum:=sum_take_succ l hjN
   have hle:=take_sum_le l (j+1)
   have hadd:IntKind.i64.wrap ((((l.take j).sum:Nat):Int)+((l.getD j 0:Nat):Int))=(((l.take (j+1)).sum:Nat):Int):=by rw [wr_i (by omega)]; omega
   rw [el36_0]
   rw [<-List.append_nil K]
   have key:∀ (tmN:List AV) (KN:AH) (Z:Option (AExit × St)),EvC Tryz.prog C0 W0 plN l36_0 (tmN,KN)=Z->(tmN.length=18/\Agree G KN/\tmN.getD 7 uA=v/\tmN.getD 8 uA=I l.length/\tmN.getD 9 uA=I (((j+1):Nat):Int)/\tmN.getD 3 uA=I (((l.take (j+1)).sum:Nat):Int))->∃ X K1,Z=some (.exit 0,(X,K1))/\(X.length=18/\Agree G K1/\X.getD 7 uA=v/\X.getD 8 uA=I l.length/\X.getD 9 uA=I ((l.length:Nat):Int)/\X.getD 3 uA=I (((l.take l.length).sum:Nat):Int)):=by
     intro tmN KN Z h hJ
     obtain ⟨X,K1,A,B⟩:=ih (j+1) tmN KN (by omega) (by omega) hJ
     exact ⟨X,K1,h.symm.trans A,B⟩
   simp -implicitDefEqProofs only [b36_0,Tryz.f36,aP,hlen,h7,h8,h9,h3,hlt,hw,hix,hrd,hadd,r5,↓evLd,nck,↓cbT,↓cbF,↓evDn,evUp,eu,sevalprocAttr]
   generalize hX:EvC Tryz.prog C0 W0 _ _ _=Z
   refine key _ _ _ hX ?_
   simp only [List.append_nil]
   exact ⟨by first | exact hlen | simp only [List.length_set,hlen],hA,by simp only [hlen,h7,h8,h9,hadd,gB,and_self,sevalprocAttr]⟩
theorem sum_l' {G:AH} {v:AV} {l:List Nat} {tm:List AV} {K:AH} {Z:Option (AExit × St)} (hX:EvC Tryz.prog C0 W0 plN l36_0 (tm,K)=Z) (hs:SlS 30 1 G v (ints l)) (hb:l.sum < 2 ^ 40) (hN:l.length < 2 ^ 60) (hI:tm.length=18/\Agree G K/\tm.getD 7 uA=v/\tm.getD 8 uA=I l.length/\tm.getD 9 uA=I ((0:Nat):Int)/\tm.getD 3 uA=I (((l.take 0).sum:Nat):Int)) :
   ∃ X K1,Z=some (.exit 0,(X,K1))/\(X.length=18/\Agree G K1/\X.getD 7 uA=v/\X.getD 8 uA=I l.length/\X.getD 9 uA=I ((l.length:Nat):Int)/\X.getD 3 uA=I (((l.take l.length).sum:Nat):Int)):=by
 subst hX
 exact sum_l hs hb hN (l.length) 0 tm K (by omega) (by omega) hI
theorem ev36 {G:AH} {q:Nat} {vc vm vs va:AV} {f:Con} {ss:List (List Itm)} {ad:List Nat} {m:List (List Int)} {rc:List Bool} (h:QueV G q vc vm vs va f ss ad m rc 0):Ev Tryz.prog C0 W0 36 [.ptr q 0] G=some (I ((leftS ss ad ss.length).sum:Nat),G):=by
 obtain ⟨tm,ht,g0,g1⟩:=tm1 (.ptr q 0) 18 (by decide)
 rw [fe36,ht]
 rw [<-List.append_nil (ro G)]
 obtain ⟨v,K,he,hA,ho⟩:=ev14 (h.ro.agree (Agree.app (ro G) []))
 have hs:=ho.ints
 have hln:=ints_ln hs
 have hsum:=leftS_le ss ad
 have hfew:=h.few
 have hlen:(leftS ss ad ss.length).length=ss.length:=by unfold leftS; rw [List.length_map,List.length_range]
 have hfs:=h.fs
 simp -implicitDefEqProofs only [c36,Tryz.f36,aP,g0,g1,↓fc14,he,hln,r5,↓evLd,nck,↓cbT,↓cbF,↓evDn,evUp,eu,sevalprocAttr]
 generalize hX:EvC Tryz.prog C0 W0 _ (Code.loop _) _=Z
 obtain ⟨X,K1,he1,i0,iA,i1,i2,i3,i4⟩:=sum_l' hX hs (by omega) (by omega) ⟨by simp only [ls,g0],Agree.refl K,Aj2 (by simp only [g0,gB,and_self,sevalprocAttr]) ⟨by simp only [g0,gB,sevalprocAttr]; try rfl,by simp only [g0,gB,sevalprocAttr]; try rfl⟩⟩
 subst he1
 rw [List.take_length] at i4
 simp -implicitDefEqProofs only [aP,i0,i4,↓cbT,↓cbF,↓evDn,evUp,eu,sevalprocAttr]
def endB (ss:List (List Itm)) (ad:List Nat) (rc:List Bool):Bool:=(leftS ss ad ss.length).sum == 0 || (readyS ss ad rc ss.length).isEmpty
def endE (ss:List (List Itm)) (ad:List Nat) (rc:List Bool):Int:=if (leftS ss ad ss.length).sum=0 then 0 else if (readyS ss ad rc ss.length)=[] then 11 else 0
theorem ev12 {G:AH} {q:Nat} {vc vm vs va:AV} {f:Con} {ss:List (List Itm)} {ad:List Nat} {m:List (List Int)} {rc:List Bool} (h:QueV G q vc vm vs va f ss ad m rc 0):Ev Tryz.prog C0 W0 12 [.ptr q 0] G=some (.tuple [.bool (endB ss ad rc),I (endE ss ad rc)],G):=by
 obtain ⟨tm,ht,g0,g1⟩:=tm1 (.ptr q 0) 33 (by decide)
 rw [fe12,ht]
 rw [<-List.append_nil (ro G)]
 have hr:=h.ro
 have hq10:∀ L,rdCells (ro G++L) q 10 1=some [va]:=fun L=>by have:=hr.cell (Agree.refl _) L 10 (x:=va) rfl; rwa [Nat.zero_add] at this
 have hq27:∀ L,rdCells (ro G++L) q 27 1=some [I 0]:=fun L=>by have:=hr.cell (Agree.refl _) L 27 (rowQ_en h.lr); rwa [Nat.zero_add] at this
 have e0:eqB 0 0=true:=rfl
 have h36:=ev36 (hr.agree (Agree.app (ro G) []))
 obtain ⟨v,K,he,hA,ho⟩:=ev33 (hr.agree (Agree.app (ro G) []))
 have hln:=ints_ln ho.ints
 obtain ⟨i,k,c,e,hva⟩:=h.nn
 have hnil:∀ H fb,binV .eql 30 va .nilSlice H fb=some (.bool false):=fun H fb=>by rw [hva,seq30]
 unfold endB endE
 cases c0:eqB (((leftS ss ad ss.length).sum:Nat):Int) 0 with
 | true =>
   have z0:(leftS ss ad ss.length).sum=0:=by rw [eqB_iff] at c0; omega
   simp only [z0,if_true]
   rw [z0] at h36 c0
   simp -implicitDefEqProofs only [c12,Tryz.f12,aP,g0,g1,↓peq37,hq10,hq27,e0,↓hnil,↓fc36,h36,c0,r5,↓evLd,nck,↓cbT,↓cbF,↓evDn,evUp,eu,sevalprocAttr]
   try rfl
 | false =>
   have z0:(leftS ss ad ss.length).sum≠0:=by rw [eqB_iff0] at c0; omega
   cases c1:eqB (((readyS ss ad rc ss.length).length:Nat):Int) 0 with
   | true =>
     have z1:readyS ss ad rc ss.length=[]:=List.length_eq_zero_iff.1 (by rw [eqB_iff] at c1; omega)
     rw [if_neg z0,if_pos z1,show ((leftS ss ad ss.length).sum == 0 || (readyS ss ad rc ss.length).isEmpty)=true by rw [z1]; simp]
     simp -implicitDefEqProofs only [c12,Tryz.f12,aP,g0,g1,↓peq37,hq10,hq27,e0,↓hnil,↓fc36,h36,c0,↓fc33,he,hln,c1,r5,↓evLd,nck,↓cbT,↓cbF,↓evDn,evUp,eu,sevalprocAttr]
   | false =>
     have z1:readyS ss ad rc ss.length≠[]:=fun e=>by rw [e] at c1; cases c1
     rw [if_neg z0,if_neg z1,show ((leftS ss ad ss.length).sum == 0 || (readyS ss ad rc ss.length).isEmpty)=false by rw [Bool.or_eq_false_iff]; exact ⟨by simpa using z0,by simpa using z1⟩]
     simp -implicitDefEqProofs only [c12,Tryz.f12,aP,g0,g1,↓peq37,hq10,hq27,e0,↓hnil,↓fc36,h36,c0,↓fc33,he,hln,c1,r5,↓evLd,nck,↓cbT,↓cbF,↓evDn,evUp,eu,sevalprocAttr]
def hasI (l:List Nat) (n:Int):Bool:=!allF (fun j=>!eqB n ((l.getD j 0:Nat):Int)) l.length 0
theorem hasI_iff (l:List Nat) (s:Nat):hasI l s=true↔s∈l:=by
 unfold hasI
 rw [Bool.not_eq_true',<-Bool.not_eq_true,allF_iff]
 constructor
 · intro h
   apply Classical.byContradiction
   intro hn
   refine h fun j hj=>?_
   rw [Bool.not_eq_true',eqB_iff0]
   intro e
   refine hn (List.mem_iff_getElem.2 ⟨j,hj,?_⟩)
   rw [gde,List.getElem?_eq_getElem hj] at e
   exact (Int.ofNat_inj.1 e).symm
 · intro h hn
   obtain ⟨j,hj,e⟩:=List.mem_iff_getElem.1 h
   have:=hn j hj
   rw [Bool.not_eq_true',eqB_iff0,gde,List.getElem?_eq_getElem hj] at this
   exact this (by rw [<-e]; rfl)
theorem index_l {H:AH} {v:AV} {l:List Nat} {n:Int} (hs:SlS 30 1 H v (ints l)) (hN:l.length < 2 ^ 60):∀ (d j:Nat) (tm:List AV) (K:AH),l.length - j=d->j<=l.length->Agree H K->tm.length=19->tm.getD 0 uA=v->tm.getD 1 uA=I n->tm.getD 7 uA=I l.length->tm.getD 8 uA=I ((j:Nat):Int) ->
   ∃ X Y K1 K2,EvC Tryz.prog C0 W0 plN l92_0 (tm,K)=br (allF (fun j=>!eqB n ((l.getD j 0:Nat):Int)) (l.length) (j)) (some (.exit 0,(X,K1))) (some (.ret,(Y,K2)))/\(X.length=19/\Agree H K1/\X.getD 0 uA=v/\X.getD 1 uA=I n/\X.getD 7 uA=I l.length)/\Y.length=19/\∃ r:Int,0<=r/\Y.getD 4 uA=I r:=by
 intro d
 induction d with
 | zero =>
   intro j tm K hd hj hA hlen h0 h1 h7 h8
   have hjl:j=l.length:=by omega
   subst hjl
   have hlt:ltB (((l.length:Nat)):Int) (l.length:Nat)=false:=ltB_f (by omega)
   rw [allF_end (Nat.le_refl _),el92_0]
   simp -implicitDefEqProofs only [b92_0,Tryz.f92,aP,hlen,h0,h1,h7,h8,hlt,↓cbT,↓cbF,↓evDn,evUp,eu,sevalprocAttr]
   exact ⟨_,tm.set 4 (I 0),_,K,rfl,⟨by first | exact hlen | simp only [List.length_set,hlen],hA,by first | exact h0 | simp only [hlen,h0,gB,sevalprocAttr],by first | exact h1 | simp only [hlen,h1,gB,sevalprocAttr],by first | exact h7 | simp only [hlen,h7,gB,sevalprocAttr]⟩,by simp only [ls,hlen],⟨0,Int.le_refl _,by simp only [hlen,gs_self,Nat.reduceLT]⟩⟩
 | succ d ih =>
   intro j tm K hd hj hA hlen h0 h1 h7 h8
   have hjN:j < l.length:=by omega
   have hlt:ltB (j:Int) (l.length:Nat)=true:=ltB_t (by omega)
   have hw:=inc_i (j:=j) (by omega)
   obtain ⟨i,k,hix,hrd⟩:=ints_at hs hA hjN
   rw [allF_step hjN,el92_0]
   rw [<-List.append_nil K]
   cases hp:(!eqB n ((l.getD j 0:Nat):Int)) with
   | true =>
     simp only [Bool.true_and]
     rw [Bool.not_eq_true'] at hp
     simp -implicitDefEqProofs only [b92_0,Tryz.f92,aP,hlen,h0,h1,h7,h8,hlt,hw,hix,hrd,hp,r5,↓evLd,nck,↓cbT,↓cbF,↓evDn,evUp,eu,sevalprocAttr]
     exact ih (j+1) _ _ (by omega) (by omega) (by first | exact hA | exact hA.appR _ | exact (hA.appR _).appR _) (by simp only [ls,hlen]) (by simp only [hlen,h0,gB,sevalprocAttr]) (by simp only [hlen,h1,gB,sevalprocAttr]) (by simp only [hlen,h7,gB,sevalprocAttr]) (by simp only [hlen,h8,gB,sevalprocAttr])
   | false =>
     simp only [Bool.false_and]
     rw [Bool.not_eq_false'] at hp
     simp -implicitDefEqProofs only [b92_0,Tryz.f92,aP,hlen,h0,h1,h7,h8,hlt,hw,hix,hrd,hp,r5,↓evLd,nck,↓cbT,↓cbF,↓evDn,evUp,eu,sevalprocAttr]
     exact ⟨tm,_,K,_,rfl,⟨hlen,hA,h0,h1,h7⟩,by simp only [ls,hlen],⟨_,Int.natCast_nonneg j,by simp only [hlen,gB,sevalprocAttr]⟩⟩
theorem index_l' {H:AH} {v:AV} {l:List Nat} {n:Int} {tm:List AV} {K:AH} {Z:Option (AExit × St)} (hX:EvC Tryz.prog C0 W0 plN l92_0 (tm,K)=Z) (hs:SlS 30 1 H v (ints l)) (hN:l.length < 2 ^ 60) (hA:Agree H K) (hlen:tm.length=19) (h0:tm.getD 0 uA=v) (h1:tm.getD 1 uA=I n) (h7:tm.getD 7 uA=I l.length) (h8:tm.getD 8 uA=I ((0:Nat):Int)) :
   ∃ X Y K1 K2,Z=br (allF (fun j=>!eqB n ((l.getD j 0:Nat):Int)) (l.length) (0)) (some (.exit 0,(X,K1))) (some (.ret,(Y,K2)))/\(X.length=19/\Agree H K1/\X.getD 0 uA=v/\X.getD 1 uA=I n/\X.getD 7 uA=I l.length)/\Y.length=19/\∃ r:Int,0<=r/\Y.getD 4 uA=I r:=by
 subst hX
 exact index_l hs hN (l.length) 0 tm K (by omega) (by omega) hA hlen h0 h1 h7 h8
theorem ev92 {H:AH} {v:AV} {l:List Nat} (hs:SlS 30 1 H v (ints l)) (hn:l.length < 2 ^ 40) (n:Int):∃ r,Ev Tryz.prog C0 W0 92 [v,I n] H=some (I r,H)/\leB 0 r=hasI l n:=by
 obtain ⟨tm,ht,g0,g1,g2⟩:=tm2 v (I n) 19 (by decide)
 rw [fe92,ht]
 rw [<-List.append_nil (ro H)]
 have hl:=ints_ln hs.ro
 unfold hasI
 simp -implicitDefEqProofs only [c92,Tryz.f92,aP,g0,g1,g2,hl,r5,↓evLd,nck,↓cbT,↓cbF,↓evDn,evUp,eu,sevalprocAttr]
 generalize hX:EvC Tryz.prog C0 W0 _ (Code.loop _) _=Z
 obtain ⟨X,Y,K1,K2,he,xs,y0,y1⟩:=index_l'  hX hs.ro (by omega) (Agree.app _ _) (by simp only [ls,g0]) (by simp only [g0,g1,gB,sevalprocAttr]; try rfl) (by simp only [g0,g2,gB,sevalprocAttr]; try rfl) (by simp only [g0,gB,sevalprocAttr]; try rfl) (by simp only [g0,gB,sevalprocAttr]; try rfl)
 subst he
 obtain ⟨r,hr0,hr⟩:=y1
 cases hf:allF (fun j=>!eqB n ((l.getD j 0:Nat):Int)) l.length 0 with
 | true =>
   refine ⟨-1,?_,rfl⟩
   simp -implicitDefEqProofs only [xs.1,hf,↓cbT,↓cbF,↓evDn,evUp,eu,sevalprocAttr]
 | false =>
   refine ⟨r,?_,by rw [(leB_iff _ _).2 hr0]; rfl⟩
   simp -implicitDefEqProofs only [y0,hr,hf,↓cbT,↓cbF,↓evDn,evUp,eu,sevalprocAttr]
theorem ev63 {H:AH} {v:AV} {l:List Nat} (hs:SlS 30 1 H v (ints l)) (hn:l.length < 2 ^ 40) (n:Int):Ev Tryz.prog C0 W0 63 [v,I n] H=some (.bool (hasI l n),H):=by
 obtain ⟨tm,ht,g0,g1,g2⟩:=tm2 v (I n) 9 (by decide)
 rw [fe63,ht]
 rw [<-List.append_nil (ro H)]
 obtain ⟨r,hr,hb⟩:=ev92 (hs.ro.same (Agree.app (ro H) [])) hn n
 simp -implicitDefEqProofs only [c63,Tryz.f63,aP,g0,g1,g2,r5,↓evLd,nck,↓fc92,hr,hb,↓cbT,↓cbF,↓evDn,evUp,eu,sevalprocAttr]
def BlkIn (v:AV) (lo hi:Nat):Prop:=∀ i k e l c x,v=.slice i k e l c x->lo<=i/\i < hi
theorem cloneV_blk {es n:Nat} {v:AV} {E:TypeId} {xs:List AV} {b:Nat} (hn:n=0↔xs=[]):BlkIn (cloneV es n v b) b (b+(cloneL E v xs).length):=by
 intro i k e l c x h
 by_cases hv:v=.nilSlice
 · subst hv; cases h
 · have hc:cloneV es n v b=if n=0 then .slice b 0 es 0 0 true else .slice (b+1) 0 es n n false:=by
     cases v <;> first | rfl | exact absurd rfl hv
   have hL:cloneL E v xs=if xs=[] then [.cells [] E] else [.cells [] E,.cells xs E]:=by
     cases v <;> first | rfl | exact absurd rfl hv
   rw [hc] at h
   rw [hL]
   by_cases h0:n=0
   · rw [if_pos h0] at h
     rw [if_pos (hn.1 h0)]
     cases h
     exact ⟨Nat.le_refl _,Nat.lt_succ_self _⟩
   · rw [if_neg h0] at h
     rw [if_neg fun e=>h0 (hn.2 e)]
     cases h
     exact ⟨Nat.le_succ _,by simp⟩
def i32s (l:List Int):List AV:=l.map fun x=>.int .i32 x
theorem i32s_nil (l:List Int):l.length=0↔i32s l=[]:=by unfold i32s; simp
theorem memW_own {N:Nat} {HH:AH} (hH:HH.length=N+1) (l:List (List Int × AV)) (hv:∀ p∈l,p.2=.nilSlice->p.1=[]) :
   ∀ j,j<=l.length->∀ i,i < j->Own (N+1+(memW N (l.take i)).2.length) (HH++(memW N (l.take j)).2) 1 21 ((memW N (l.take j)).1.getD i uA) (i32s (l.getD i ([],uA)).1) /\
     BlkIn ((memW N (l.take j)).1.getD i uA) (N+1+(memW N (l.take i)).2.length) (N+1+(memW N (l.take (i+1))).2.length):=by
 intro j
 induction j with
 | zero=>intro _ i hi; omega
 | succ j ih =>
   intro hj i hi
   have hjl:j < l.length:=hj
   have hml:(memW N (l.take j)).1.length=j:=by rw [memW_len,List.length_take,Nat.min_eq_left (Nat.le_of_lt hjl)]
   have hg:l.getD j ([],uA)=l[j]:=by rw [gde,List.getElem?_eq_getElem hjl]; rfl
   have ht:l.take (j+1)=l.take j++[l.getD j ([],uA)]:=by rw [List.take_add_one,List.getElem?_eq_getElem hjl,hg]; rfl
   have hmem:l.getD j ([],uA)∈l:=by rw [hg]; exact List.getElem_mem _
   have hstep:memW N (l.take (j+1))=memStep N (memW N (l.take j)) (l.getD j ([],uA)):=by rw [ht,memW_snoc]
   have hagree:Agree (HH++(memW N (l.take j)).2) (HH++(memW N (l.take (j+1))).2):=by
     rw [hstep]
     show Agree _ (HH++(_++_))
     rw [<-List.append_assoc]
     exact Agree.app _ _
   rcases Nat.lt_or_ge i j with c | c
   · obtain ⟨h1,h2⟩:=ih (Nat.le_of_lt hjl) i c
     have he:(memW N (l.take (j+1))).1.getD i uA=(memW N (l.take j)).1.getD i uA:=by
       rw [hstep]
       show (_++[_]).getD i uA=_
       rw [gde,List.getElem?_append_left (by rw [hml]; exact c),gde]
     rw [he]
     exact ⟨h1.agree hagree,h2⟩
   · have hij:i=j:=by omega
     subst hij
     have he:(memW N (l.take (i+1))).1.getD i uA=cloneV 1 (l.getD i ([],uA)).1.length (l.getD i ([],uA)).2 (N+1+(memW N (l.take i)).2.length):=by
       rw [hstep]
       show (_++[_]).getD i uA=_
       rw [gde,List.getElem?_append_right (by rw [hml]; exact Nat.le_refl _),hml,Nat.sub_self]; rfl
     have hll:(HH++(memW N (l.take i)).2).length=N+1+(memW N (l.take i)).2.length:=by rw [List.length_append,hH]
     rw [he]
     constructor
     · have:=cloneV_own (E:=21) (es:=1) (G:=HH++(memW N (l.take i)).2) (v:=(l.getD i ([],uA)).2) (xs:=i32s (l.getD i ([],uA)).1) (n:=(l.getD i ([],uA)).1.length) (by decide) (by unfold i32s; simp) (fun e=>by rw [hv _ hmem e]; rfl)
       rw [hll] at this
       rw [hstep]
       show Own _ (HH++(_++_)) _ _ _ _
       rw [<-List.append_assoc]
       exact this
     · have:=cloneV_blk (es:=1) (n:=(l.getD i ([],uA)).1.length) (v:=(l.getD i ([],uA)).2) (E:=21) (xs:=i32s (l.getD i ([],uA)).1) (b:=N+1+(memW N (l.take i)).2.length) (i32s_nil _)
       rw [hstep]
       show BlkIn _ _ (N+1+((memW N (l.take i)).2++cloneL 21 (l.getD i ([],uA)).2 (i32s (l.getD i ([],uA)).1)).length)
       rw [List.length_append,<-Nat.add_assoc]
       exact this
theorem Own.s32 {b:Nat} {H:AH} {v:AV} {l:List Int} (h:Own b H 1 21 v (i32s l)):SlS 32 1 H v (l.map row1):=
 Own.slsG ix32T (by decide) (by rw [row1_flat]; exact h) (row1_len l)
theorem memW_sl {H L:AH} {l:List (List Int × AV)}:SlS 24 1 (H++(L++(.cells (memW (H.length+L.length) l).1 32::(memW (H.length+L.length) l).2))) (.slice (H.length+L.length) 0 1 l.length l.length true) ((memW (H.length+L.length) l).1.map fun w=>[w]):=by
 have hml:=memW_len (H.length+L.length) l
 have hg:(H++(L++(AObj.cells (memW (H.length+L.length) l).1 32::(memW (H.length+L.length) l).2)))[H.length+L.length]? =some (.cells (memW (H.length+L.length) l).1 32):=by
   rw [List.getElem?_append_right (Nat.le_add_right _ _),Nat.add_sub_cancel_left,List.getElem?_append_right (Nat.le_refl _),Nat.sub_self]; rfl
 have h:=sls_of (T:=24) (es:=1) ix24T (H:=H++(L++(AObj.cells (memW (H.length+L.length) l).1 32::(memW (H.length+L.length) l).2))) (i:=H.length+L.length) (k:=0) (c:=l.length) (e:=true) (rows:=(memW (H.length+L.length) l).1.map fun w=>[w]) (by
     intro r hr
     obtain ⟨w,_,rfl⟩:=List.mem_map.1 hr
     rfl) (by unfold okC; rw [hg]) (by
     unfold rdCells
     rw [hg]
     simp only [List.length_map]
     rw [if_pos (by omega),List.drop_zero,List.take_of_length_le (by omega),flat1,List.map_id'' (fun _=>rfl)])
 rwa [List.length_map,hml] at h
theorem memW_R {H L:AH} {l:List (List Int × AV)} (hv:∀ p∈l,p.2=.nilSlice->p.1=[]) (hn:l.length < 2 ^ 50) (hb:∀ p∈l,p.1.length < 2 ^ 50) (hi:∀ p∈l,∀ x∈p.1,i32R x) :
   MemR (H++(L++(.cells (memW (H.length+L.length) l).1 32::(memW (H.length+L.length) l).2))) (l.map (·.1)) (.slice (H.length+L.length) 0 1 l.length l.length true):=by
 have hml:=memW_len (H.length+L.length) l
 refine ⟨⟨List.zip (l.map (·.1)) (memW (H.length+L.length) l).1,?_,?_,?_⟩,by rw [List.length_map]; exact hn,fun b hb'=>?_,fun b hb'=>?_⟩
 · rw [List.map_fst_zip (by rw [List.length_map,hml]; exact Nat.le_refl _)]
 · have:(List.zip (l.map (·.1)) (memW (H.length+L.length) l).1).map (fun p=>[p.2])=(memW (H.length+L.length) l).1.map fun w=>[w]:=by
     rw [show (fun p:List Int × AV=>[p.2])=(fun w=>[w]) ∘ Prod.snd from rfl,<-List.map_map,List.map_snd_zip (by rw [List.length_map,hml]; exact Nat.le_refl _)]
   rw [this]
   exact memW_sl
 · intro p hp
   obtain ⟨i,hi',hpe⟩:=List.mem_iff_getElem.1 hp
   have hil:i < l.length:=by rw [List.length_zip,List.length_map] at hi'; omega
   have hiw:i < (memW (H.length+L.length) l).1.length:=by rw [hml]; exact hil
   obtain ⟨ho,_⟩:=memW_own (N:=H.length+L.length) (HH:=H++(L++[.cells (memW (H.length+L.length) l).1 32])) (by simp; omega) l hv l.length (Nat.le_refl _) i hil
   rw [List.take_length] at ho
   have he:p=((l.getD i ([],uA)).1,(memW (H.length+L.length) l).1.getD i uA):=by
     rw [<-hpe,List.getElem_zip,List.getElem_map,gde,List.getElem?_eq_getElem hil,gde,List.getElem?_eq_getElem hiw]; rfl
   rw [he]
   have:=ho.s32
   simpa only [List.append_assoc,List.cons_append,List.nil_append] using this
 · obtain ⟨p,hp,rfl⟩:=List.mem_map.1 hb'
   exact hb p hp
 · obtain ⟨p,hp,rfl⟩:=List.mem_map.1 hb'
   exact hi p hp
theorem nil_of {T es:Nat} {H:AH} {v:AV} {rows:List (List AV)} (h:SlS T es H v rows) (hv:v=.nilSlice):rows=[]:=by
 rcases h.old with ⟨_,e⟩ | ⟨i,k,c,e,e',_⟩
 · exact e
 · rw [hv] at e'; cases e'
theorem ev28R {H:AH} {m:List (List Int)} {vm:AV} (h:MemR H m vm) (hn:m.length<=100) (hb:∀ b∈m,b.length<=1000):∃ v K,Ev Tryz.prog C0 W0 28 [vm] H=some (v,K)/\Agree H K/\MemR K m v:=by
 obtain ⟨⟨l,rfl,hs,hp⟩,h1,h2,h3⟩:=h
 have he:=ev28 hs hp (by rwa [List.length_map] at hn) (fun p hp=>hb _ (List.mem_map_of_mem hp)) []
 rw [List.append_nil] at he
 refine ⟨_,_,he,Agree.app _ _,memW_R (fun p hpl e=>?_) (by rwa [List.length_map] at h1) (fun p hp=>h2 _ (List.mem_map_of_mem hp)) (fun p hp=>h3 _ (List.mem_map_of_mem hp))⟩
 have:=nil_of (hp p hpl) e
 simpa using this
theorem ev40 {G:AH} {q:Nat} {vc vm vs va:AV} {f:Con} {ss:List (List Itm)} {ad:List Nat} {m:List (List Int)} {rc:List Bool} (h:QueV G q vc vm vs va f ss ad m rc 0) (hn:m.length<=100) (hb:∀ b∈m,b.length<=1000):∃ v K,Ev Tryz.prog C0 W0 40 [.ptr q 0] G=some (v,K)/\Agree G K/\MemR K m v:=by
 obtain ⟨tm,ht,g0,g1⟩:=tm1 (.ptr q 0) 10 (by decide)
 rw [fe40,ht]
 have hq1:rdCells G q 1 1=some [vm]:=by have:=h.cell (Agree.refl G) [] 1 (x:=vm) rfl; rwa [Nat.zero_add,List.append_nil] at this
 obtain ⟨v,K,he,hA,hm⟩:=ev28R h.m hn hb
 refine ⟨v,K,?_,hA,hm⟩
 simp -implicitDefEqProofs only [c40,Tryz.f40,aP,g0,g1,↓peq37,hq1,↓fc28,he,r5,↓evLd,nck,↓cbT,↓cbF,↓evDn,evUp,eu,sevalprocAttr]
theorem ms30s (n:Nat) (hn:n<=1000) (s:Option Nat) (H:AH):makeSliceA Tryz.prog s 30 (I n) (I n) H=(put s H (.cells (List.replicate n (I 0)) 3)).map fun p=>(.slice p.1 0 1 n n true,p.2):=by
 have hz:zeroA Tryz.prog 3=some (I 0):=by kernel_rfl
 have hs:sliceElem Tryz.prog 30=some 3:=by kernel_rfl
 have hb:Tryz.prog.bytesOf 3=8:=by kernel_rfl
 have hc:Tryz.prog.cellsOf 3=1:=by kernel_rfl
 unfold makeSliceA
 simp only [hs,hz,Option.bind_some]
 rw [if_pos ⟨by omega,by omega,by omega,by rw [hb]; omega,by simp [AV.cells]⟩]
 rw [hc,Nat.mul_one,Int.toNat_natCast]
 show Option.map _ (put s H (.cells (zrow [I 0] n) 3))=_
 rw [zrow1]
theorem bl71 {c:AV} (hc:c=.nilSlice∨∃ i k es l cc e,c=.slice i k es l cc e) (i1 k1 e1 l1 c1 i2 k2 e2 l2 c2:Nat) (x1 x2:Bool) (f:Con) :
   buildA Tryz.prog 71 [(0,c),(1,.slice i1 k1 e1 l1 c1 x1),(2,.agg [I f.w,.bool f.free,I f.cores,I f.slots,I f.room,I f.pol,I f.lat]),(4,.slice i2 k2 e2 l2 c2 x2)]=some (.agg (rowQ c (.slice i1 k1 e1 l1 c1 x1) .nilSlice (.slice i2 k2 e2 l2 c2 x2) f (List.replicate 16 false) 0)):=by
 rcases hc with rfl | ⟨i,k,es,l,cc,e,rfl⟩ <;> kernel_rfl
theorem cloneV_sh (es n:Nat) (v:AV) (b:Nat):cloneV es n v b=.nilSlice∨∃ i k es' l cc e,cloneV es n v b=.slice i k es' l cc e:=by
 unfold cloneV
 split
 · exact .inl rfl
 · split
   · exact .inr ⟨_,_,_,_,_,_,rfl⟩
   · exact .inr ⟨_,_,_,_,_,_,rfl⟩
def newK (H:AH) (rows:List (List AV)) (l:List (List Int × AV)) (n:Nat) (vc:AV) (f:Con):AH:=
 H++([.cells [I f.w,.bool f.free,I f.cores,I f.slots,I f.room,I f.pol,I f.lat] 27,.fresh,.fresh,.fresh,.fresh,.fresh,.fresh,.fresh,.cells (List.replicate n (I 0)) 3,.fresh,
   .cells (rowQ (cloneV 5 rows.length vc (H.length+12)) (.slice (H.length+((cloneL 66 vc rows.flatten).length+12)) 0 1 l.length l.length true) .nilSlice (.slice (H.length+8) 0 1 n n true) f (List.replicate 16 false) 0) 71,.fresh] ++
   (cloneL 66 vc rows.flatten++(.cells (memW (H.length+((cloneL 66 vc rows.flatten).length+12)) l).1 32::(memW (H.length+((cloneL 66 vc rows.flatten).length+12)) l).2)))
theorem reg10_4 {H:AH} {rows:List (List AV)} {l:List (List Int × AV)} {n:Nat} {vc vm vs:AV} (f:Con) (h27:∀ L,Ev Tryz.prog C0 W0 27 [vc] (H++L)=some (cloneV 5 rows.length vc (H.length+L.length),H++(L++cloneL 66 vc rows.flatten))) (h28:∀ L,Ev Tryz.prog C0 W0 28 [vm] (H++L)=some (.slice (H.length+L.length) 0 1 l.length l.length true,H++(L++(.cells (memW (H.length+L.length) l).1 32::(memW (H.length+L.length) l).2))))
   (hls:∀ G,lenA Tryz.prog 25 G vs=some (I n)) (hn:n<=4) {tm:List AV} (hlen:tm.length=100) (h0:tm.getD 0 uA=vc) (h1:tm.getD 1 uA=vm) (h2:tm.getD 2 uA=vs) (h7:tm.getD 7 uA=.ptr H.length 0) :
   ∃ tm',EvC Tryz.prog C0 W0 pl10 (atPath [true,true,false] (Tryz.f10.body.getD .skip)) (tm,H++[.cells [I f.w,.bool f.free,I f.cores,I f.slots,I f.room,I f.pol,I f.lat] 27])=some (.normal,(tm',newK H rows l n vc f))/\tm'.length=100/\tm'.getD 2 uA=vs/\tm'.getD 11 uA=.ptr (H.length+10) 0:=by
 have hms:=ms30s n (by omega)
 have hb:=fun i1 k1 e1 l1 c1 i2 k2 e2 l2 c2 x1 x2 b=>bl71 (cloneV_sh 5 rows.length vc b) i1 k1 e1 l1 c1 i2 k2 e2 l2 c2 x1 x2 f
 simp -implicitDefEqProofs only [Tryz.f10,aP,hlen,h0,h1,h2,h7,↓EvC_plan plr10_4,p10_4,List.any_toArray',List.any_toArray,List.any_cons,List.any_nil,allocates,↓fc27,↓fc28,h27,h28,hls,↓aop_makeSlice,hms,hb,List.size_toArray,List.replicate_succ,List.replicate_zero,r5,↓evLd,nck,↓cbT,↓cbF,↓evDn,evUp,eu,sevalprocAttr,↓rp_done,↓rp_take,↓rp_rd,↓rp_all,↓rp_join,↓ra_nil,↓ra_first,↓ra_next,↓quietO_none,↓quietO_guardB,↓readO_none,↓q_move,↓q_assign,↓q_field,↓q_fieldAddr,↓q_indexAddr,↓q_nilCheck,↓q_pickB,↓q_extract,put_slot,put_slot_app,List.length_append,Nat.add_assoc,stBeq_self,set_order,keepV_eq]
 refine ⟨_,rfl,?_,?_,?_⟩
 · simp only [List.length_set,hlen]
 · simp only [hlen,h2,gB,sevalprocAttr]
 · simp only [hlen,gB,sevalprocAttr]
end Go.Dv
