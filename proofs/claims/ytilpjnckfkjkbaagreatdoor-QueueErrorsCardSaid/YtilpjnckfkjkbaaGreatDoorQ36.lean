/- Part 36 of the walks (own work). -/
import Derived.Test.YtilpjnckfkjkbaaGreatDoorQ34
import Derived.Test.YtilpjnckfkjkbaaGreatDoorQ35
set_option maxRecDepth 100000
set_option maxHeartbeats 4000000
set_option linter.unusedSimpArgs false
set_option linter.unusedVariables false
namespace Go.Dv
open Go.Proofs
attribute [local congr] bind_congr_first cb_congr condA_congr gd_congr br_congr
theorem rc_cod {G:AH} {cs:List Cod} {m:List (List Int)} {ss:List (List Itm)} {vc vm vs:AV} {q:Nat} (hc:CodsR G cs vc) (hm:MemR G m vm) (hs:StrsR G ss vs) (hN:cs.length < 2 ^ 60):∀ (d j:Nat) (tm:List AV) (K:AH),cs.length - j=d->j<=cs.length->Agree G K->tm.length=103->tm.getD 0 uA=vc->tm.getD 1 uA=vm->tm.getD 2 uA=vs->tm.getD 7 uA=.ptr q 0->tm.getD 9 uA=I ((j:Nat):Int) ->
   ∃ X Y K1 K2,EvC Tryz.prog C0 W0 plN l16_0 (tm,K)=br (allF (fun j=>validP (codAt cs j)) (cs.length) (j)) (some (.exit 0,(X,K1))) (some (.ret,(Y,K2)))/\(X.length=103/\Agree G K1/\X.getD 0 uA=vc/\X.getD 1 uA=vm/\X.getD 2 uA=vs/\X.getD 7 uA=.ptr q 0)/\Y.length=103/\Y.getD 8 uA=I 1:=by
 intro d
 induction d with
 | zero =>
   intro j tm K hd hj hA hlen h0 h1 h2 h7 h9
   have hjl:j=cs.length:=by omega
   subst hjl
   have hlt:ltB (((cs.length:Nat)):Int) (cs.length:Nat)=false:=ltB_f (by omega)
   have hlc:=hc.len
   rw [allF_end (Nat.le_refl _),el16_0]
   simp (maxSteps:=4000000) -implicitDefEqProofs only [b16_0,Tryz.f16,aP,hlen,h0,h1,h2,h7,h9,hlt,hlc,r5,↓evLd,↓cbT,↓cbF,↓evDn,evUp,eu,sevalprocAttr]
   exact ⟨_,tm.set 8 (I 1),_,K,rfl,⟨by first | exact hlen | simp only [List.length_set,hlen],hA,by first | exact h0 | simp only [hlen,h0,gB,sevalprocAttr],by first | exact h1 | simp only [hlen,h1,gB,sevalprocAttr],by first | exact h2 | simp only [hlen,h2,gB,sevalprocAttr],by first | exact h7 | simp only [hlen,h7,gB,sevalprocAttr]⟩,by simp only [ls,hlen],by simp only [hlen,gs_self,Nat.reduceLT]⟩
 | succ d ih =>
   intro j tm K hd hj hA hlen h0 h1 h2 h7 h9
   have hjN:j < cs.length:=by omega
   have hlt:ltB (j:Int) (cs.length:Nat)=true:=ltB_t (by omega)
   have hw:=inc_i (j:=j) (by omega)
   have hlc:=hc.len
   obtain ⟨i,k,vp,vz,vi,hix,hrd,hcd⟩:=hc.at hA hjN
   have h37:=fun L=>ev37 ((hcd.agree hA).agree (Agree.app K L))
   simp only [rowC] at h37 hrd
   rw [allF_step hjN,el16_0]
   rw [<-List.append_nil K]
   cases hp:(validP (codAt cs j)) with
   | true =>
     simp only [Bool.true_and]
     simp (maxSteps:=4000000) -implicitDefEqProofs only [b16_0,Tryz.f16,aP,hlen,h0,h1,h2,h7,h9,hlt,hw,hlc,hix,hrd,↓fc37,h37,hp,r5,↓evLd,↓cbT,↓cbF,↓evDn,evUp,eu,sevalprocAttr]
     exact ih (j+1) _ _ (by omega) (by omega) (by first | exact hA | exact hA.appR _ | exact (hA.appR _).appR _) (by simp only [ls,hlen]) (by simp only [hlen,h0,gB,sevalprocAttr]) (by simp only [hlen,h1,gB,sevalprocAttr]) (by simp only [hlen,h2,gB,sevalprocAttr]) (by simp only [hlen,h7,gB,sevalprocAttr]) (by simp only [hlen,h9,gB,sevalprocAttr])
   | false =>
     simp only [Bool.false_and]
     simp (maxSteps:=4000000) -implicitDefEqProofs only [b16_0,Tryz.f16,aP,hlen,h0,h1,h2,h7,h9,hlt,hw,hlc,hix,hrd,↓fc37,h37,hp,r5,↓evLd,↓cbT,↓cbF,↓evDn,evUp,eu,sevalprocAttr]
     exact ⟨tm,_,K,_,rfl,⟨hlen,hA,h0,h1,h2,h7⟩,by simp only [ls,hlen],by simp only [hlen,gB,sevalprocAttr]⟩
theorem rc_cod' {G:AH} {cs:List Cod} {m:List (List Int)} {ss:List (List Itm)} {vc vm vs:AV} {q:Nat} {tm:List AV} {K:AH} {Z:Option (AExit × St)} (hX:EvC Tryz.prog C0 W0 plN l16_0 (tm,K)=Z) (hc:CodsR G cs vc) (hm:MemR G m vm) (hs:StrsR G ss vs) (hN:cs.length < 2 ^ 60) (hA:Agree G K) (hlen:tm.length=103) (h0:tm.getD 0 uA=vc) (h1:tm.getD 1 uA=vm) (h2:tm.getD 2 uA=vs) (h7:tm.getD 7 uA=.ptr q 0) (h9:tm.getD 9 uA=I ((0:Nat):Int)) :
   ∃ X Y K1 K2,Z=br (allF (fun j=>validP (codAt cs j)) (cs.length) (0)) (some (.exit 0,(X,K1))) (some (.ret,(Y,K2)))/\(X.length=103/\Agree G K1/\X.getD 0 uA=vc/\X.getD 1 uA=vm/\X.getD 2 uA=vs/\X.getD 7 uA=.ptr q 0)/\Y.length=103/\Y.getD 8 uA=I 1:=by
 subst hX
 exact rc_cod hc hm hs hN (cs.length) 0 tm K (by omega) (by omega) hA hlen h0 h1 h2 h7 h9
theorem rc_sum {G:AH} {ss:List (List Itm)} {vc vm vs:AV} (hs:StrsR G ss vs) (hN:ss.length < 2 ^ 60):∀ (d j:Nat) (tm:List AV) (K:AH),ss.length - j=d->j<=ss.length->(tm.length=103/\Agree G K/\tm.getD 0 uA=vc/\tm.getD 1 uA=vm/\tm.getD 2 uA=vs/\tm.getD 11 uA=I ((j:Nat):Int)/\tm.getD 10 uA=I (sumW ss j)) ->
   ∃ X K1,EvC Tryz.prog C0 W0 plN l16_1 (tm,K)=some (.exit 2,(X,K1))/\(X.length=103/\Agree G K1/\X.getD 0 uA=vc/\X.getD 1 uA=vm/\X.getD 2 uA=vs/\X.getD 11 uA=I ((ss.length:Nat):Int)/\X.getD 10 uA=I (sumW ss ss.length)):=by
 intro d
 induction d with
 | zero =>
   intro j tm K hd hj hI
   have hjl:j=ss.length:=by omega
   subst hjl
   have hI0:=hI
   obtain ⟨hlen,hA,h0,h1,h2,h11,h10⟩:=hI
   have hlt:ltB (((ss.length:Nat)):Int) (ss.length:Nat)=false:=ltB_f (by omega)
   have hls:=hs.len
   rw [el16_1]
   simp (maxSteps:=4000000) -implicitDefEqProofs only [b16_1,Tryz.f16,aP,hlen,h0,h1,h2,h11,h10,hlt,hls,r5,↓evLd,↓cbT,↓cbF,↓evDn,evUp,eu,sevalprocAttr]
   refine ⟨_,K,rfl,?_⟩
   exact ⟨by first | exact hlen | simp only [List.length_set,hlen],by first | exact hA | exact hA.appR _,by simp only [hlen,h0,h1,h2,h11,h10,sumW,gB,and_self,sevalprocAttr]⟩
 | succ d ih =>
   intro j tm K hd hj hI
   have hI0:=hI
   obtain ⟨hlen,hA,h0,h1,h2,h11,h10⟩:=hI
   have hjN:j < ss.length:=by omega
   have hlt:ltB (j:Int) (ss.length:Nat)=true:=ltB_t (by omega)
   have hw:=inc_i (j:=j) (by omega)
   have hls:=hs.len
   obtain ⟨i0,k0,w0,hix0,hrd0,hxs⟩:=hs.at hA hjN
   have hln:=hxs.len
   rw [el16_1]
   rw [<-List.append_nil K]
   have key:∀ (tmN:List AV) (KN:AH) (Z:Option (AExit × St)),EvC Tryz.prog C0 W0 plN l16_1 (tmN,KN)=Z->(tmN.length=103/\Agree G KN/\tmN.getD 0 uA=vc/\tmN.getD 1 uA=vm/\tmN.getD 2 uA=vs/\tmN.getD 11 uA=I (((j+1):Nat):Int)/\tmN.getD 10 uA=I (sumW ss (j+1)))->∃ X K1,Z=some (.exit 2,(X,K1))/\(X.length=103/\Agree G K1/\X.getD 0 uA=vc/\X.getD 1 uA=vm/\X.getD 2 uA=vs/\X.getD 11 uA=I ((ss.length:Nat):Int)/\X.getD 10 uA=I (sumW ss ss.length)):=by
     intro tmN KN Z h hJ
     obtain ⟨X,K1,A,B⟩:=ih (j+1) tmN KN (by omega) (by omega) hJ
     exact ⟨X,K1,h.symm.trans A,B⟩
   simp (maxSteps:=4000000) -implicitDefEqProofs only [b16_1,Tryz.f16,aP,hlen,h0,h1,h2,h11,h10,hlt,hw,hls,hix0,hrd0,hln,r5,↓evLd,↓cbT,↓cbF,↓evDn,evUp,eu,sevalprocAttr]
   generalize hX:EvC Tryz.prog C0 W0 _ _ _=Z
   refine key _ _ _ hX ?_
   exact ⟨by first | exact hlen | simp only [List.length_set,hlen],by first | exact hA | exact hA.appR _,by simp only [hlen,h0,h1,h2,h11,h10,sumW,gB,and_self,sevalprocAttr]⟩
theorem rc_sum' {G:AH} {ss:List (List Itm)} {vc vm vs:AV} {tm:List AV} {K:AH} {Z:Option (AExit × St)} (hX:EvC Tryz.prog C0 W0 plN l16_1 (tm,K)=Z) (hs:StrsR G ss vs) (hN:ss.length < 2 ^ 60) (hI:tm.length=103/\Agree G K/\tm.getD 0 uA=vc/\tm.getD 1 uA=vm/\tm.getD 2 uA=vs/\tm.getD 11 uA=I ((0:Nat):Int)/\tm.getD 10 uA=I (sumW ss 0)) :
   ∃ X K1,Z=some (.exit 2,(X,K1))/\(X.length=103/\Agree G K1/\X.getD 0 uA=vc/\X.getD 1 uA=vm/\X.getD 2 uA=vs/\X.getD 11 uA=I ((ss.length:Nat):Int)/\X.getD 10 uA=I (sumW ss ss.length)):=by
 subst hX
 exact rc_sum hs hN (ss.length) 0 tm K (by omega) (by omega) hI
theorem rc_mem {G:AH} {cs:List Cod} {m:List (List Int)} {ss:List (List Itm)} {vc vm vs:AV} (hc:CodsR G cs vc) (hm:MemR G m vm) (hs:StrsR G ss vs) (hN:m.length < 2 ^ 60):∀ (d j:Nat) (tm:List AV) (K:AH),m.length - j=d->j<=m.length->Agree G K->tm.length=103->tm.getD 0 uA=vc->tm.getD 1 uA=vm->tm.getD 2 uA=vs->tm.getD 12 uA=I ((j:Nat):Int) ->
   ∃ X Y K1 K2,EvC Tryz.prog C0 W0 plN l16_2 (tm,K)=br (allF (fun j=>!ltB 256 ((bufOf m j).length:Int)) (m.length) (j)) (some (.exit 4,(X,K1))) (some (.ret,(Y,K2)))/\(X.length=103/\Agree G K1/\X.getD 0 uA=vc/\X.getD 1 uA=vm/\X.getD 2 uA=vs)/\Y.length=103/\Y.getD 8 uA=I 5:=by
 intro d
 induction d with
 | zero =>
   intro j tm K hd hj hA hlen h0 h1 h2 h12
   have hjl:j=m.length:=by omega
   subst hjl
   have hlt:ltB (((m.length:Nat)):Int) (m.length:Nat)=false:=ltB_f (by omega)
   have hlm:=hm.len
   rw [allF_end (Nat.le_refl _),el16_2]
   simp (maxSteps:=4000000) -implicitDefEqProofs only [b16_2,Tryz.f16,aP,hlen,h0,h1,h2,h12,hlt,hlm,r5,↓evLd,↓cbT,↓cbF,↓evDn,evUp,eu,sevalprocAttr]
   exact ⟨_,tm.set 8 (I 5),_,K,rfl,⟨by first | exact hlen | simp only [List.length_set,hlen],hA,by first | exact h0 | simp only [hlen,h0,gB,sevalprocAttr],by first | exact h1 | simp only [hlen,h1,gB,sevalprocAttr],by first | exact h2 | simp only [hlen,h2,gB,sevalprocAttr]⟩,by simp only [ls,hlen],by simp only [hlen,gs_self,Nat.reduceLT]⟩
 | succ d ih =>
   intro j tm K hd hj hA hlen h0 h1 h2 h12
   have hjN:j < m.length:=by omega
   have hlt:ltB (j:Int) (m.length:Nat)=true:=ltB_t (by omega)
   have hw:=inc_i (j:=j) (by omega)
   have hlm:=hm.len
   obtain ⟨i,k,w,hix,hrd,hw32⟩:=hm.at hA hjN
   have hl32:=sl32 hw32
   rw [allF_step hjN,el16_2]
   rw [<-List.append_nil K]
   cases hp:(!ltB 256 ((bufOf m j).length:Int)) with
   | true =>
     simp only [Bool.true_and]
     rw [Bool.not_eq_true'] at hp
     simp (maxSteps:=4000000) -implicitDefEqProofs only [b16_2,Tryz.f16,aP,hlen,h0,h1,h2,h12,hlt,hw,hlm,hix,hrd,hl32,hp,r5,↓evLd,↓cbT,↓cbF,↓evDn,evUp,eu,sevalprocAttr]
     exact ih (j+1) _ _ (by omega) (by omega) (by first | exact hA | exact hA.appR _ | exact (hA.appR _).appR _) (by simp only [ls,hlen]) (by simp only [hlen,h0,gB,sevalprocAttr]) (by simp only [hlen,h1,gB,sevalprocAttr]) (by simp only [hlen,h2,gB,sevalprocAttr]) (by simp only [hlen,h12,gB,sevalprocAttr])
   | false =>
     simp only [Bool.false_and]
     rw [Bool.not_eq_false'] at hp
     simp (maxSteps:=4000000) -implicitDefEqProofs only [b16_2,Tryz.f16,aP,hlen,h0,h1,h2,h12,hlt,hw,hlm,hix,hrd,hl32,hp,r5,↓evLd,↓cbT,↓cbF,↓evDn,evUp,eu,sevalprocAttr]
     exact ⟨tm,_,K,_,rfl,⟨hlen,hA,h0,h1,h2⟩,by simp only [ls,hlen],by simp only [hlen,gB,sevalprocAttr]⟩
theorem rc_mem' {G:AH} {cs:List Cod} {m:List (List Int)} {ss:List (List Itm)} {vc vm vs:AV} {tm:List AV} {K:AH} {Z:Option (AExit × St)} (hX:EvC Tryz.prog C0 W0 plN l16_2 (tm,K)=Z) (hc:CodsR G cs vc) (hm:MemR G m vm) (hs:StrsR G ss vs) (hN:m.length < 2 ^ 60) (hA:Agree G K) (hlen:tm.length=103) (h0:tm.getD 0 uA=vc) (h1:tm.getD 1 uA=vm) (h2:tm.getD 2 uA=vs) (h12:tm.getD 12 uA=I ((0:Nat):Int)) :
   ∃ X Y K1 K2,Z=br (allF (fun j=>!ltB 256 ((bufOf m j).length:Int)) (m.length) (0)) (some (.exit 4,(X,K1))) (some (.ret,(Y,K2)))/\(X.length=103/\Agree G K1/\X.getD 0 uA=vc/\X.getD 1 uA=vm/\X.getD 2 uA=vs)/\Y.length=103/\Y.getD 8 uA=I 5:=by
 subst hX
 exact rc_mem hc hm hs hN (m.length) 0 tm K (by omega) (by omega) hA hlen h0 h1 h2 h12
theorem rc_in {G:AH} {cs:List Cod} {m:List (List Int)} {ss:List (List Itm)} {vc vm vs:AV} {i:Nat} (hc:CodsR G cs vc) (hm:MemR G m vm) (hs:StrsR G ss vs) (hi:i < ss.length) (hN:(strAt ss i).length < 2 ^ 60):∀ (d j:Nat) (tm:List AV) (K:AH),(strAt ss i).length - j=d->j<=(strAt ss i).length->Agree G K->tm.length=103->tm.getD 0 uA=vc->tm.getD 1 uA=vm->tm.getD 2 uA=vs->tm.getD 13 uA=I ((i:Nat):Int)->tm.getD 14 uA=I ((j:Nat):Int) ->
   ∃ X Y K1 K2,EvC Tryz.prog C0 W0 plN l16_3 (tm,K)=br (allF (fun j=>rightP cs m (itmAt (strAt ss i) j)) ((strAt ss i).length) (j)) (some (.exit 8,(X,K1))) (some (.ret,(Y,K2)))/\(X.length=103/\Agree G K1/\X.getD 0 uA=vc/\X.getD 1 uA=vm/\X.getD 2 uA=vs/\X.getD 13 uA=I ((i:Nat):Int))/\Y.length=103/\Y.getD 8 uA=I 6:=by
 intro d
 induction d with
 | zero =>
   intro j tm K hd hj hA hlen h0 h1 h2 h13 h14
   have hjl:j=(strAt ss i).length:=by omega
   subst hjl
   have hlt:ltB ((((strAt ss i).length:Nat)):Int) ((strAt ss i).length:Nat)=false:=ltB_f (by omega)
   obtain ⟨i0,k0,w0,hix0,hrd0,hx⟩:=hs.at hA hi
   have hln:=hx.len
   have hrd0':rdCells K i0 k0 1=some [w0]:=by have:=hrd0 []; rwa [List.append_nil] at this
   rw [allF_end (Nat.le_refl _),el16_3]
   simp (maxSteps:=4000000) -implicitDefEqProofs only [b16_3,Tryz.f16,aP,hlen,h0,h1,h2,h13,h14,hlt,hix0,hrd0',hln,r5,↓evLd,↓cbT,↓cbF,↓evDn,evUp,eu,sevalprocAttr]
   exact ⟨_,tm.set 8 (I 6),_,K,rfl,⟨by first | exact hlen | simp only [List.length_set,hlen],hA,by first | exact h0 | simp only [hlen,h0,gB,sevalprocAttr],by first | exact h1 | simp only [hlen,h1,gB,sevalprocAttr],by first | exact h2 | simp only [hlen,h2,gB,sevalprocAttr],by first | exact h13 | simp only [hlen,h13,gB,sevalprocAttr]⟩,by simp only [ls,hlen],by simp only [hlen,gs_self,Nat.reduceLT]⟩
 | succ d ih =>
   intro j tm K hd hj hA hlen h0 h1 h2 h13 h14
   have hjN:j < (strAt ss i).length:=by omega
   have hlt:ltB (j:Int) ((strAt ss i).length:Nat)=true:=ltB_t (by omega)
   have hw:=inc_i (j:=j) (by omega)
   obtain ⟨i0,k0,w0,hix0,hrd0,hx⟩:=hs.at hA hi
   have hln:=hx.len
   obtain ⟨i1,k1,w1,hix1,hrd1,ha1⟩:=hx.at hA hjN
   have he39:=fun L=>ev39 (hc.agree (hA.appR L)) (hm.agree (hA.appR L)) (ha1.same (hA.appR L)) (hx.im _ (itmAt_mem hjN))
   simp only [rowX] at hrd1 he39
   rw [allF_step hjN,el16_3]
   rw [<-List.append_nil K]
   cases hp:(rightP cs m (itmAt (strAt ss i) j)) with
   | true =>
     simp only [Bool.true_and]
     simp (maxSteps:=4000000) -implicitDefEqProofs only [b16_3,Tryz.f16,aP,hlen,h0,h1,h2,h13,h14,hlt,hw,hix0,hrd0,hln,hix1,hrd1,↓fc39,he39,hp,r5,↓evLd,↓cbT,↓cbF,↓evDn,evUp,eu,sevalprocAttr]
     exact ih (j+1) _ _ (by omega) (by omega) (by first | exact hA | exact hA.appR _ | exact (hA.appR _).appR _) (by simp only [ls,hlen]) (by simp only [hlen,h0,gB,sevalprocAttr]) (by simp only [hlen,h1,gB,sevalprocAttr]) (by simp only [hlen,h2,gB,sevalprocAttr]) (by simp only [hlen,h13,gB,sevalprocAttr]) (by simp only [hlen,h14,gB,sevalprocAttr])
   | false =>
     simp only [Bool.false_and]
     simp (maxSteps:=4000000) -implicitDefEqProofs only [b16_3,Tryz.f16,aP,hlen,h0,h1,h2,h13,h14,hlt,hw,hix0,hrd0,hln,hix1,hrd1,↓fc39,he39,hp,r5,↓evLd,↓cbT,↓cbF,↓evDn,evUp,eu,sevalprocAttr]
     exact ⟨tm,_,K,_,rfl,⟨hlen,hA,h0,h1,h2,h13⟩,by simp only [ls,hlen],by simp only [hlen,gB,sevalprocAttr]⟩
theorem rc_in' {G:AH} {cs:List Cod} {m:List (List Int)} {ss:List (List Itm)} {vc vm vs:AV} {i:Nat} {tm:List AV} {K:AH} {Z:Option (AExit × St)} (hX:EvC Tryz.prog C0 W0 plN l16_3 (tm,K)=Z) (hc:CodsR G cs vc) (hm:MemR G m vm) (hs:StrsR G ss vs) (hi:i < ss.length) (hN:(strAt ss i).length < 2 ^ 60) (hA:Agree G K) (hlen:tm.length=103) (h0:tm.getD 0 uA=vc) (h1:tm.getD 1 uA=vm) (h2:tm.getD 2 uA=vs) (h13:tm.getD 13 uA=I ((i:Nat):Int)) (h14:tm.getD 14 uA=I ((0:Nat):Int)) :
   ∃ X Y K1 K2,Z=br (allF (fun j=>rightP cs m (itmAt (strAt ss i) j)) ((strAt ss i).length) (0)) (some (.exit 8,(X,K1))) (some (.ret,(Y,K2)))/\(X.length=103/\Agree G K1/\X.getD 0 uA=vc/\X.getD 1 uA=vm/\X.getD 2 uA=vs/\X.getD 13 uA=I ((i:Nat):Int))/\Y.length=103/\Y.getD 8 uA=I 6:=by
 subst hX
 exact rc_in hc hm hs hi hN ((strAt ss i).length) 0 tm K (by omega) (by omega) hA hlen h0 h1 h2 h13 h14
theorem rc_out {G:AH} {cs:List Cod} {m:List (List Int)} {ss:List (List Itm)} {vc vm vs:AV} (hc:CodsR G cs vc) (hm:MemR G m vm) (hs:StrsR G ss vs) (hN:ss.length < 2 ^ 60):∀ (d j:Nat) (tm:List AV) (K:AH),ss.length - j=d->j<=ss.length->(tm.length=103/\Agree G K/\tm.getD 0 uA=vc/\tm.getD 1 uA=vm/\tm.getD 2 uA=vs/\tm.getD 13 uA=I ((j:Nat):Int)) ->
   ∃ X K1 Y K2,EvC Tryz.prog C0 W0 plN l16_4 (tm,K)=br (allF (fun j=>rowR cs m (strAt ss j)) (ss.length) (j)) (some (.exit 6,(X,K1))) (some (.ret,(Y,K2)))/\(allF (fun j=>rowR cs m (strAt ss j)) (ss.length) (j)=true->X.length=103/\Agree G K1/\X.getD 0 uA=vc/\X.getD 1 uA=vm/\X.getD 2 uA=vs/\X.getD 13 uA=I ((ss.length:Nat):Int))/\Y.length=103/\Y.getD 8 uA=I 6:=by
 intro d
 induction d with
 | zero =>
   intro j tm K hd hj hI
   have hjl:j=ss.length:=by omega
   subst hjl
   have hI0:=hI
   obtain ⟨hlen,hA,h0,h1,h2,h13⟩:=hI
   have hlt:ltB (((ss.length:Nat)):Int) (ss.length:Nat)=false:=ltB_f (by omega)
   have hls:=hs.len
   rw [allF_end (Nat.le_refl _)]
   rw [el16_4]
   simp (maxSteps:=4000000) -implicitDefEqProofs only [b16_4,Tryz.f16,aP,hlen,h0,h1,h2,h13,hlt,hls,r5,↓evLd,↓cbT,↓cbF,↓evDn,evUp,eu,sevalprocAttr]
   refine ⟨_,K,tm.set 8 (I 6),K,rfl,?_,by simp only [ls,hlen],by simp only [hlen,gs_self,Nat.reduceLT]⟩
   try intro _
   exact ⟨by first | exact hlen | simp only [List.length_set,hlen],hA,by simp only [hlen,h0,h1,h2,h13,gB,and_self,sevalprocAttr]⟩
 | succ d ih =>
   intro j tm K hd hj hI
   have hI0:=hI
   obtain ⟨hlen,hA,h0,h1,h2,h13⟩:=hI
   have hjN:j < ss.length:=by omega
   have hlt:ltB (j:Int) (ss.length:Nat)=true:=ltB_t (by omega)
   have hw:=inc_i (j:=j) (by omega)
   have hls:=hs.len
   obtain ⟨i0,k0,w0,hix0,hrd0,hxs⟩:=hs.at hA hjN
   rw [allF_step hjN]
   rw [el16_4]
   rw [<-List.append_nil K]
   cases hp:(rowR cs m (strAt ss j)) with
   | true =>
     unfold rowR at hp
     simp only [Bool.true_and]
     simp (maxSteps:=4000000) -implicitDefEqProofs only [b16_4,Tryz.f16,aP,hlen,h0,h1,h2,h13,hlt,hw,hls,r5,↓evLd,↓cbT,↓cbF,↓evDn,evUp,eu,sevalprocAttr]
     generalize hX:EvC Tryz.prog C0 W0 _ (Code.loop _) _=Z
     obtain ⟨X,Y,K1,K2,he,xs,y0,y1⟩:=rc_in'  hX hc hm hs hjN (Nat.lt_trans hxs.n (by decide)) (hA.appR _) (by simp only [ls,hlen,h0,h1,h2,h13]) (by simp only [hlen,h0,h1,h2,h13,h0,gB,sevalprocAttr]; try rfl) (by simp only [hlen,h0,h1,h2,h13,h1,gB,sevalprocAttr]; try rfl) (by simp only [hlen,h0,h1,h2,h13,h2,gB,sevalprocAttr]; try rfl) (by simp only [hlen,h0,h1,h2,h13,h13,gB,sevalprocAttr]; try rfl) (by simp only [hlen,h0,h1,h2,h13,gB,sevalprocAttr]; try rfl)
     subst he
     simp (maxSteps:=4000000) -implicitDefEqProofs only [hp,xs.1,xs.2.2.1,xs.2.2.2.1,xs.2.2.2.2.1,xs.2.2.2.2.2,hw,↓cbT,↓cbF,↓evDn,evUp,eu,sevalprocAttr]
     generalize hX:EvC Tryz.prog C0 W0 _ _ _=Z
     have key:∀ (tmN:List AV) (KN:AH),EvC Tryz.prog C0 W0 plN l16_4 (tmN,KN)=Z->(tmN.length=103/\Agree G KN/\tmN.getD 0 uA=vc/\tmN.getD 1 uA=vm/\tmN.getD 2 uA=vs/\tmN.getD 13 uA=I (((j+1):Nat):Int))->∃ X K1 Y K2,Z=br (allF (fun j=>rowR cs m (strAt ss j)) (ss.length) (j+1)) (some (.exit 6,(X,K1))) (some (.ret,(Y,K2)))/\(allF (fun j=>rowR cs m (strAt ss j)) (ss.length) (j+1)=true->X.length=103/\Agree G K1/\X.getD 0 uA=vc/\X.getD 1 uA=vm/\X.getD 2 uA=vs/\X.getD 13 uA=I ((ss.length:Nat):Int))/\Y.length=103/\Y.getD 8 uA=I 6:=by
       intro tmN KN h hJ
       obtain ⟨X,K1,Y,K2,A,B⟩:=ih (j+1) tmN KN (by omega) (by omega) hJ
       exact ⟨X,K1,Y,K2,h.symm.trans A,B⟩
     refine key _ _ hX ?_
     exact ⟨by simp only [ls,xs.1],xs.2.1,by simp only [xs.1,xs.2.2.1,xs.2.2.2.1,xs.2.2.2.2.1,xs.2.2.2.2.2,gB,and_self,sevalprocAttr]⟩
   | false =>
     simp only [Bool.false_and]
     unfold rowR at hp
     simp (maxSteps:=4000000) -implicitDefEqProofs only [b16_4,Tryz.f16,aP,hlen,h0,h1,h2,h13,hlt,hw,hls,r5,↓evLd,↓cbT,↓cbF,↓evDn,evUp,eu,sevalprocAttr]
     generalize hX:EvC Tryz.prog C0 W0 _ (Code.loop _) _=Z
     obtain ⟨X,Y,K1,K2,he,xs,y0,y1⟩:=rc_in'  hX hc hm hs hjN (Nat.lt_trans hxs.n (by decide)) (hA.appR _) (by simp only [ls,hlen,h0,h1,h2,h13]) (by simp only [hlen,h0,h1,h2,h13,h0,gB,sevalprocAttr]; try rfl) (by simp only [hlen,h0,h1,h2,h13,h1,gB,sevalprocAttr]; try rfl) (by simp only [hlen,h0,h1,h2,h13,h2,gB,sevalprocAttr]; try rfl) (by simp only [hlen,h0,h1,h2,h13,h13,gB,sevalprocAttr]; try rfl) (by simp only [hlen,h0,h1,h2,h13,gB,sevalprocAttr]; try rfl)
     subst he
     simp (maxSteps:=4000000) -implicitDefEqProofs only [hp,y0,y1,↓cbT,↓cbF,↓evDn,evUp,eu,sevalprocAttr]
     exact ⟨tm,K,Y,_,rfl,by first | exact trivial | (intro h; cases h),y0,y1⟩
theorem rc_out' {G:AH} {cs:List Cod} {m:List (List Int)} {ss:List (List Itm)} {vc vm vs:AV} {tm:List AV} {K:AH} {Z:Option (AExit × St)} (hX:EvC Tryz.prog C0 W0 plN l16_4 (tm,K)=Z) (hc:CodsR G cs vc) (hm:MemR G m vm) (hs:StrsR G ss vs) (hN:ss.length < 2 ^ 60) (hI:tm.length=103/\Agree G K/\tm.getD 0 uA=vc/\tm.getD 1 uA=vm/\tm.getD 2 uA=vs/\tm.getD 13 uA=I ((0:Nat):Int)) :
   ∃ X K1 Y K2,Z=br (allF (fun j=>rowR cs m (strAt ss j)) (ss.length) (0)) (some (.exit 6,(X,K1))) (some (.ret,(Y,K2)))/\(allF (fun j=>rowR cs m (strAt ss j)) (ss.length) (0)=true->X.length=103/\Agree G K1/\X.getD 0 uA=vc/\X.getD 1 uA=vm/\X.getD 2 uA=vs/\X.getD 13 uA=I ((ss.length:Nat):Int))/\Y.length=103/\Y.getD 8 uA=I 6:=by
 subst hX
 exact rc_out hc hm hs hN (ss.length) 0 tm K (by omega) (by omega) hI
theorem ev16 {H:AH} {cs:List Cod} {m:List (List Int)} {ss:List (List Itm)} {vc vm vs:AV} (hc:CodsR H cs vc) (hm:MemR H m vm) (hs:StrsR H ss vs) (f:Con):Ev Tryz.prog C0 W0 16 [vc,vm,vs,.agg (rowF f)] H=some (I (checkP cs m ss f),H):=by
 obtain ⟨tm,ht,g0,g1,g2,g3,g4⟩:=tm4 vc vm vs (.agg (rowF f)) 103 (by decide)
 rw [fe16,ht]
 rw [<-List.append_nil (ro H)]
 have h38:=fun G=>ev38 f G
 simp only [rowF] at h38
 have hlc:=hc.len
 have hlm:=hm.len
 have hls:=hs.len
 unfold checkP allV
 simp (maxSteps:=4000000) -implicitDefEqProofs only [c16,Tryz.f16,aP,g0,g1,g2,g3,g4,rowF,hlc,r5,↓evLd,↓cbT,↓cbF,↓evDn,evUp,eu,sevalprocAttr]
 have hA0:=Agree.app (ro H) [AObj.cells [I f.w,.bool f.free,I f.cores,I f.slots,I f.room,I f.pol,I f.lat] 27]
 generalize hX:EvC Tryz.prog C0 W0 _ (Code.loop _) _=Z
 obtain ⟨X,Y,K1,L1,he1,xs,y0,y1⟩:=rc_cod' (q:=(ro H).length) hX (hc.ro.agree hA0) (hm.ro.agree hA0) (hs.ro.agree hA0) (Nat.lt_trans hc.n (by decide)) (Agree.refl _) (by simp only [ls,g0]) (by simp only [g0,g1,gB,sevalprocAttr]) (by simp only [g0,g2,gB,sevalprocAttr]) (by simp only [g0,g3,gB,sevalprocAttr]) (by simp only [g0,gB,sevalprocAttr]) (by simp only [g0,gB,sevalprocAttr]; try rfl)
 subst he1
 cases c1:allF (fun j=>validP (codAt cs j)) cs.length 0 with
 | false =>
   simp only [Bool.and_false]
   simp (maxSteps:=4000000) -implicitDefEqProofs only [y0,y1,c1,↓cbT,↓cbF,↓evDn,evUp,eu,sevalprocAttr]
 | true =>
   obtain ⟨i0,iA,i1,i2,i3,i7⟩:=xs
   have hcK:=(hc.ro.agree hA0).agree iA
   have hmK:=(hm.ro.agree hA0).agree iA
   have hsK:=(hs.ro.agree hA0).agree iA
   have hbox:rdCells K1 (ro H).length 0 7=some [I f.w,.bool f.free,I f.cores,I f.slots,I f.room,I f.pol,I f.lat]:=by
     have:=rd_same iA (show rdCells (ro H++[AObj.cells [I f.w,.bool f.free,I f.cores,I f.slots,I f.room,I f.pol,I f.lat] 27]) (ro H).length 0 7=_ from by rw [rd_app0]; rfl)
     exact this
   simp only [Bool.and_true]
   cases c0:conP f with
   | false=>simp (maxSteps:=4000000) -implicitDefEqProofs only [i0,i1,i2,i3,i7,hbox,↓fc38,h38,c0,c1,r5,↓evLd,↓cbT,↓cbF,↓evDn,evUp,eu,sevalprocAttr]
   | true =>
     simp (maxSteps:=4000000) -implicitDefEqProofs only [i0,i1,i2,i3,i7,hbox,↓fc38,h38,c0,c1,r5,↓evLd,↓cbT,↓cbF,↓evDn,evUp,eu,sevalprocAttr]
     generalize hX:EvC Tryz.prog C0 W0 _ (Code.loop _) _=Z
     obtain ⟨X2,K2,he2,j0,jA,j1,j2,j3,_,j10⟩:=rc_sum' (vc:=vc) (vm:=vm) hX hsK (Nat.lt_trans hs.n (by decide)) ⟨by simp only [ls,i0],Agree.refl _,Aj3 (by simp only [i0,i1,i2,i3,gB,and_self,sevalprocAttr]) ⟨by simp only [i0,gB,sevalprocAttr]; try rfl,by simp only [i0,gB,sevalprocAttr]; try rfl⟩⟩
     subst he2
     unfold sizeP
     cases q0:ltB (ss.length:Int) 1 with
     | true=>simp (maxSteps:=4000000) -implicitDefEqProofs only [aP,j0,j1,j2,j3,j10,hls,hlc,hlm,r5,↓evLd,q0,↓cbT,↓cbF,↓evDn,evUp,eu,sevalprocAttr]
     | false =>
       cases q1:ltB 4 (ss.length:Int) with
       | true=>simp (maxSteps:=4000000) -implicitDefEqProofs only [aP,j0,j1,j2,j3,j10,hls,hlc,hlm,r5,↓evLd,q0,q1,↓cbT,↓cbF,↓evDn,evUp,eu,sevalprocAttr]
       | false =>
         cases q2:ltB 4 (cs.length:Int) with
         | true=>simp (maxSteps:=4000000) -implicitDefEqProofs only [aP,j0,j1,j2,j3,j10,hls,hlc,hlm,r5,↓evLd,q0,q1,q2,↓cbT,↓cbF,↓evDn,evUp,eu,sevalprocAttr]
         | false =>
           cases q3:ltB 24 (sumW ss ss.length) with
           | true=>simp (maxSteps:=4000000) -implicitDefEqProofs only [aP,j0,j1,j2,j3,j10,hls,hlc,hlm,r5,↓evLd,q0,q1,q2,q3,↓cbT,↓cbF,↓evDn,evUp,eu,sevalprocAttr]
           | false =>
             cases q4:ltB 6 (m.length:Int) with
             | true=>simp (maxSteps:=4000000) -implicitDefEqProofs only [aP,j0,j1,j2,j3,j10,hls,hlc,hlm,r5,↓evLd,q0,q1,q2,q3,q4,↓cbT,↓cbF,↓evDn,evUp,eu,sevalprocAttr]
             | false =>
               simp (maxSteps:=4000000) -implicitDefEqProofs only [aP,j0,j1,j2,j3,j10,hls,hlc,hlm,r5,↓evLd,q0,q1,q2,q3,q4,↓cbT,↓cbF,↓evDn,evUp,eu,sevalprocAttr]
               generalize hX:EvC Tryz.prog C0 W0 _ (Code.loop _) _=Z
               obtain ⟨X3,Y3,K3,L3,he3,xs,y0,y1⟩:=rc_mem' hX (hcK.agree jA) (hmK.agree jA) (hsK.agree jA) (Nat.lt_trans hm.n (by decide)) (Agree.refl _) (by simp only [ls,j0]) (by simp only [j0,j1,gB,sevalprocAttr]) (by simp only [j0,j2,gB,sevalprocAttr]) (by simp only [j0,j3,gB,sevalprocAttr]) (by simp only [j0,gB,sevalprocAttr]; try rfl)
               subst he3
               unfold shortP
               cases c2:allF (fun j=>!ltB 256 ((bufOf m j).length:Int)) m.length 0 with
               | false=>simp (maxSteps:=4000000) -implicitDefEqProofs only [y0,y1,c2,↓cbT,↓cbF,↓evDn,evUp,eu,sevalprocAttr]
               | true =>
                 obtain ⟨k0,kA,k1,k2,k3⟩:=xs
                 simp (maxSteps:=4000000) -implicitDefEqProofs only [c2,k0,k1,k2,k3,hls,r5,↓evLd,↓cbT,↓cbF,↓evDn,evUp,eu,sevalprocAttr]
                 generalize hX:EvC Tryz.prog C0 W0 _ (Code.loop _) _=Z
                 obtain ⟨X4,K4,Y4,L4,he4,hi4,y0,y1⟩:=rc_out' hX ((hcK.agree jA).agree kA) ((hmK.agree jA).agree kA) ((hsK.agree jA).agree kA) (Nat.lt_trans hs.n (by decide)) ⟨by simp only [ls,k0],Agree.refl _,Aj3 (by simp only [k0,k1,k2,k3,gB,and_self,sevalprocAttr]) (by simp only [k0,gB,sevalprocAttr]; try rfl)⟩
                 subst he4
                 unfold allR
                 cases hf:allF (fun i=>rowR cs m (strAt ss i)) ss.length 0 with
                 | false=>simp (maxSteps:=4000000) -implicitDefEqProofs only [y0,y1,hf,↓cbT,↓cbF,↓evDn,evUp,eu,sevalprocAttr]
                 | true =>
                   obtain ⟨l0,_⟩:=hi4 hf
                   simp (maxSteps:=4000000) -implicitDefEqProofs only [aP,l0,hf,↓cbT,↓cbF,↓evDn,evUp,eu,sevalprocAttr]
theorem bp_f (q k:Nat) (H:AH) (fb:Option AV):binV .eql 37 (.ptr q k) .nilPtr H fb=some (.bool false):=by kernel_rfl
theorem bp_t (H:AH) (fb:Option AV):binV .eql 37 .nilPtr .nilPtr H fb=some (.bool true):=by kernel_rfl
theorem bn4 (a b:Bool) (H:AH) (fb:Option AV):binV .neq 4 (.bool a) (.bool b) H fb=some (.bool (a != b)):=by cases a <;> cases b <;> kernel_rfl
theorem ev4 {H:AH} {cs:List Cod} {m:List (List Int)} {ss:List (List Itm)} {vc vm vs:AV} (hc:CodsR H cs vc) (hm:MemR H m vm) (hs:StrsR H ss vs) (f:Con) (vt:AV):∃ K,Ev Tryz.prog C0 W0 4 [.agg [vc,vm,vs,I f.w,.bool f.free,I f.cores,I f.slots,I f.room,I f.pol,I f.lat],vt] H=some (.bool true,K):=by
 obtain ⟨tm,ht,g0,g1,g2⟩:=tm2 (.agg [vc,vm,vs,I f.w,.bool f.free,I f.cores,I f.slots,I f.room,I f.pol,I f.lat]) vt 129 (by decide)
 rw [fe4,ht]
 have e00:eqB 0 0=true:=rfl
 have e0:(true != false)=true:=rfl
 have hxl:∀ l∈ss,l.length < 2 ^ 50:=fun xs hx=>by
   obtain ⟨⟨l2,e2,_,h2⟩,_⟩:=hs
   rw [<-e2] at hx
   obtain ⟨p,hp,rfl⟩:=List.mem_map.1 hx
   exact (h2 p hp).n
 have hA0:=Agree.app H [.cells [vc,vm,vs,I f.w,.bool f.free,I f.cores,I f.slots,I f.room,I f.pol,I f.lat] 29]
 have hpl:(H++[AObj.cells [vc,vm,vs,I f.w,.bool f.free,I f.cores,I f.slots,I f.room,I f.pol,I f.lat] 29])[H.length]? =some (.cells [vc,vm,vs,I f.w,.bool f.free,I f.cores,I f.slots,I f.room,I f.pol,I f.lat] 29):=by rw [List.getElem?_append_right (Nat.le_refl _),Nat.sub_self]; rfl
 have hp0:∀ {K:AH},Agree (H++[AObj.cells [vc,vm,vs,I f.w,.bool f.free,I f.cores,I f.slots,I f.room,I f.pol,I f.lat] 29]) K->rdCells K H.length 0 1=some [vc]:=fun h=>by unfold rdCells; rw [h.get hpl]; rfl
 have hp1:∀ {K:AH},Agree (H++[AObj.cells [vc,vm,vs,I f.w,.bool f.free,I f.cores,I f.slots,I f.room,I f.pol,I f.lat] 29]) K->rdCells K H.length 1 1=some [vm]:=fun h=>by unfold rdCells; rw [h.get hpl]; rfl
 have hp2:∀ {K:AH},Agree (H++[AObj.cells [vc,vm,vs,I f.w,.bool f.free,I f.cores,I f.slots,I f.room,I f.pol,I f.lat] 29]) K->rdCells K H.length 2 1=some [vs]:=fun h=>by unfold rdCells; rw [h.get hpl]; rfl
 have hp3:∀ {K:AH},Agree (H++[AObj.cells [vc,vm,vs,I f.w,.bool f.free,I f.cores,I f.slots,I f.room,I f.pol,I f.lat] 29]) K->rdCells K H.length 3 7=some (rowF f):=fun h=>by unfold rdCells; rw [h.get hpl]; rfl
 have hput:∀ o,put none H o=some (H.length,H++[o]):=fun _=>rfl
 have hc0:=hc.agree hA0
 have hm0:=hm.agree hA0
 have hs0:=hs.agree hA0
 generalize hKe:H++[AObj.cells [vc,vm,vs,I f.w,.bool f.free,I f.cores,I f.slots,I f.room,I f.pol,I f.lat] 29]=K0 at *
 have r0:=hp0 (Agree.refl K0)
 have r1:=hp1 (Agree.refl K0)
 have r2:=hp2 (Agree.refl K0)
 have r3:=hp3 (Agree.refl K0)
 have h16:=ev16 hc0 hm0 hs0 f
 simp only [rowF] at h16 r3
 by_cases hk:checkP cs m ss f=0
 · obtain ⟨K1,S,q,a,ws,vc',vm',vs',h10,hA1,_,_,_⟩:=ev10 hc0 hm0 hs0 f hk
   rw [hk] at h16
   simp only [rowF] at h10
   have hA:=hA1
   have hcB:=hc0.agree hA
   have hmB:=hm0.agree hA
   have hsB:=hs0.agree hA
   have q0:=hp0 hA
   have q1:=hp1 hA
   have q2:=hp2 hA
   have h16B:=ev16 hcB hmB hsB plainC
   simp only [rowF,plainC] at h16B
   by_cases hk2:checkP cs m ss plainC=0
   · have hg:=good_of (f:=plainC) hxl hk2
     have h18:=ev18 hcB hmB hsB hk2 hg
     obtain ⟨wv,we,K9,h19,_,_,_⟩:=ev19 hcB hmB hsB hk2 hg
     have h9:=ev9 K9
     change Ev Tryz.prog C0 W0 16 _ _=some (I (checkP cs m ss plainC),_) at h16B
     rw [hk2] at h16B
     refine ⟨K9,?_⟩
     simp -implicitDefEqProofs only [show ltB 0 0=false from rfl,bp_f,bp_t,bn4,bne_self_eq_false,c4,Tryz.f4,aP,g0,g1,g2,fa29_0,ln30n,hput,hKe,r0,r1,r2,r3,ld27',fa29_0,fa29_1,fa29_2,fa29_3,↓fc16,h16,↓fc10,h10,q0,q1,q2,↓fc16,h16B,bl27,↓fc18,h18,↓fc19,h19,↓fc9,h9,e00,e0,r5,↓evLd,nck,↓cbT,↓cbF,↓evDn,evUp,eu,sevalprocAttr]
   · have h18:=ev18_bad hcB hmB hsB hk2
     obtain ⟨K9,h19,_⟩:=ev19_bad hcB hmB hsB hk2
     have h9:=ev9 K9
     change Ev Tryz.prog C0 W0 16 _ _=some (I (checkP cs m ss plainC),_) at h16B
     have en2:eqB (checkP cs m ss plainC) 0=false:=eqB_f hk2
     have es2:=eqB_self (checkP cs m ss plainC)
     generalize checkP cs m ss plainC=e2 at h16B h18 h19 en2 es2
     refine ⟨K9,?_⟩
     simp -implicitDefEqProofs only [show ltB 0 0=false from rfl,bp_f,bp_t,bn4,bne_self_eq_false,c4,Tryz.f4,aP,g0,g1,g2,fa29_0,ln30n,hput,hKe,r0,r1,r2,r3,ld27',fa29_0,fa29_1,fa29_2,fa29_3,↓fc16,h16,↓fc10,h10,q0,q1,q2,↓fc16,h16B,bl27,↓fc18,h18,↓fc19,h19,↓fc9,h9,en2,es2,e00,e0,r5,↓evLd,nck,↓cbT,↓cbF,↓evDn,evUp,eu,sevalprocAttr]
 · obtain ⟨K1,h10,hA1⟩:=ev10_bad hc0 hm0 hs0 f hk
   obtain ⟨K2,h17,hA2⟩:=ev17_bad (hc0.agree hA1) (hm0.agree hA1) (hs0.agree hA1) f hk vt
   have en:eqB (checkP cs m ss f) 0=false:=eqB_f hk
   have es:=eqB_self (checkP cs m ss f)
   have s0:=hp0 hA1
   have s1:=hp1 hA1
   have s2:=hp2 hA1
   have s3:=hp3 hA1
   simp only [rowF] at h10 h17 s3
   generalize checkP cs m ss f=e1 at h16 h10 h17 en es
   have hA:=hA1.trans hA2
   have hcB:=hc0.agree hA
   have hmB:=hm0.agree hA
   have hsB:=hs0.agree hA
   have q0:=hp0 hA
   have q1:=hp1 hA
   have q2:=hp2 hA
   have h16B:=ev16 hcB hmB hsB plainC
   simp only [rowF,plainC] at h16B
   by_cases hk2:checkP cs m ss plainC=0
   · have hg:=good_of (f:=plainC) hxl hk2
     have h18:=ev18 hcB hmB hsB hk2 hg
     obtain ⟨wv,we,K9,h19,_,_,_⟩:=ev19 hcB hmB hsB hk2 hg
     have h9:=ev9 K9
     change Ev Tryz.prog C0 W0 16 _ _=some (I (checkP cs m ss plainC),_) at h16B
     rw [hk2] at h16B
     refine ⟨K9,?_⟩
     simp -implicitDefEqProofs only [show ltB 0 0=false from rfl,bp_f,bp_t,bn4,bne_self_eq_false,c4,Tryz.f4,aP,g0,g1,g2,fa29_0,ln30n,hput,hKe,r0,r1,r2,r3,ld27',fa29_0,fa29_1,fa29_2,fa29_3,↓fc16,h16,↓fc10,h10,s0,s1,s2,s3,↓fc17,h17,en,es,ln24n,q0,q1,q2,↓fc16,h16B,bl27,↓fc18,h18,↓fc19,h19,↓fc9,h9,e00,e0,r5,↓evLd,nck,↓cbT,↓cbF,↓evDn,evUp,eu,sevalprocAttr]
   · have h18:=ev18_bad hcB hmB hsB hk2
     obtain ⟨K9,h19,_⟩:=ev19_bad hcB hmB hsB hk2
     have h9:=ev9 K9
     change Ev Tryz.prog C0 W0 16 _ _=some (I (checkP cs m ss plainC),_) at h16B
     have en2:eqB (checkP cs m ss plainC) 0=false:=eqB_f hk2
     have es2:=eqB_self (checkP cs m ss plainC)
     generalize checkP cs m ss plainC=e2 at h16B h18 h19 en2 es2
     refine ⟨K9,?_⟩
     simp -implicitDefEqProofs only [show ltB 0 0=false from rfl,bp_f,bp_t,bn4,bne_self_eq_false,c4,Tryz.f4,aP,g0,g1,g2,fa29_0,ln30n,hput,hKe,r0,r1,r2,r3,ld27',fa29_0,fa29_1,fa29_2,fa29_3,↓fc16,h16,↓fc10,h10,s0,s1,s2,s3,↓fc17,h17,en,es,ln24n,q0,q1,q2,↓fc16,h16B,bl27,↓fc18,h18,↓fc19,h19,↓fc9,h9,en2,es2,e00,e0,r5,↓evLd,nck,↓cbT,↓cbF,↓evDn,evUp,eu,sevalprocAttr]
end Go.Dv
