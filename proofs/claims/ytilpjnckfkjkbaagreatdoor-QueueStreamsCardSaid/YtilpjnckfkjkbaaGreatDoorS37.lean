/- Part 37 of the walks (own work). -/
import Derived.Test.YtilpjnckfkjkbaaGreatDoorS35
import Derived.Test.YtilpjnckfkjkbaaGreatDoorS36
open Bool renaming false_and→bd,not_eq_false'→iB,not_eq_true'→ba,true_and→aZ
open List renaming append_nil→af,getElem?_append_left→aq,getElem?_append_right→aw,length_append→ai,length_set→ar
open Nat renaming le_refl→ax,lt_trans→dB,reduceLT→aM
open Option.some renaming inj→aC
open Go.Proofs.Tryz renaming prog→aa
set_option maxRecDepth 100000
set_option maxHeartbeats 4000000
set_option linter.unusedSimpArgs false
set_option linter.unusedVariables false
namespace Go.Dv
open Go.Proofs
attribute [local congr] aH bP bj bO bQ
theorem Ro {G:AH} {cs:List Cod} {m:List (List Int)} {ss:List (List Itm)} {vc vm vs:AV} {q:Nat} (hc:cO G cs vc) (hm:dc G m vm) (hs:da G ss vs) (hN:cs.length < 2 ^ 60):∀ (d j:Nat) (tm:List AV) (K:AH),cs.length - j=d->j<=cs.length->al G K->tm.length=103->tm.getD 0 uA=vc->tm.getD 1 uA=vm->tm.getD 2 uA=vs->tm.getD 7 uA=.ptr q 0->tm.getD 9 uA=I ((j:Nat):Int) ->
   ∃ X Y K1 K2,EvC aa C0 W0 plN JN (tm,K)=br (bA (fun j=>iK (cY cs j)) (cs.length) (j)) (some (.exit 0,(X,K1))) (some (.ret,(Y,K2)))/\(X.length=103/\al G K1/\X.getD 0 uA=vc/\X.getD 1 uA=vm/\X.getD 2 uA=vs/\X.getD 7 uA=.ptr q 0)/\Y.length=103/\Y.getD 8 uA=I 1:=by
 intro d
 induction d with
 | zero =>
   intro j tm K hd hj hA hlen h0 h1 h2 h7 h9
   have hjl:j=cs.length:=by omega
   subst hjl
   have hlt:ltB (((cs.length:Nat)):Int) (cs.length:Nat)=false:=db (by omega)
   have hlc:=hc.len
   rw [cN (ax _),LK]
   simp (maxSteps:=4000000) -implicitDefEqProofs only [Cy,Tryz.f16,aP,hlen,h0,h1,h2,h7,h9,hlt,hlc,r5,↓az,↓cbT,↓cbF,↓ao,an,eu,sevalprocAttr]
   exact ⟨_,tm.set 8 (I 1),_,K,rfl,⟨by first | exact hlen | simp only [ar,hlen],hA,by first | exact h0 | simp only [hlen,h0,gB,sevalprocAttr],by first | exact h1 | simp only [hlen,h1,gB,sevalprocAttr],by first | exact h2 | simp only [hlen,h2,gB,sevalprocAttr],by first | exact h7 | simp only [hlen,h7,gB,sevalprocAttr]⟩,by simp only [ls,hlen],by simp only [hlen,dq,aM]⟩
 | succ d ih =>
   intro j tm K hd hj hA hlen h0 h1 h2 h7 h9
   have hjN:j < cs.length:=by omega
   have hlt:ltB (j:Int) (cs.length:Nat)=true:=cQ (by omega)
   have hw:=cD (j:=j) (by omega)
   have hlc:=hc.len
   obtain ⟨i,k,vp,vz,vi,hix,hrd,hcd⟩:=hc.at hA hjN
   have h37:=fun L=>aao ((hcd.aX hA).aX (al.app K L))
   simp only [bF] at h37 hrd
   rw [ch hjN,LK]
   rw [<-af K]
   cases hp:(iK (cY cs j)) with
   | true =>
     simp only [aZ]
     simp (maxSteps:=4000000) -implicitDefEqProofs only [Cy,Tryz.f16,aP,hlen,h0,h1,h2,h7,h9,hlt,hw,hlc,hix,hrd,↓Wa,h37,hp,r5,↓az,↓cbT,↓cbF,↓ao,an,eu,sevalprocAttr]
     exact ih (j+1) _ _ (by omega) (by omega) (by first | exact hA | exact hA.bS _ | exact (hA.bS _).bS _) (by simp only [ls,hlen]) (by simp only [hlen,h0,gB,sevalprocAttr]) (by simp only [hlen,h1,gB,sevalprocAttr]) (by simp only [hlen,h2,gB,sevalprocAttr]) (by simp only [hlen,h7,gB,sevalprocAttr]) (by simp only [hlen,h9,gB,sevalprocAttr])
   | false =>
     simp only [bd]
     simp (maxSteps:=4000000) -implicitDefEqProofs only [Cy,Tryz.f16,aP,hlen,h0,h1,h2,h7,h9,hlt,hw,hlc,hix,hrd,↓Wa,h37,hp,r5,↓az,↓cbT,↓cbF,↓ao,an,eu,sevalprocAttr]
     exact ⟨tm,_,K,_,rfl,⟨hlen,hA,h0,h1,h2,h7⟩,by simp only [ls,hlen],by simp only [hlen,gB,sevalprocAttr]⟩
theorem Ns {G:AH} {cs:List Cod} {m:List (List Int)} {ss:List (List Itm)} {vc vm vs:AV} {q:Nat} {tm:List AV} {K:AH} {Z:Option (bu × St)} (hX:EvC aa C0 W0 plN JN (tm,K)=Z) (hc:cO G cs vc) (hm:dc G m vm) (hs:da G ss vs) (hN:cs.length < 2 ^ 60) (hA:al G K) (hlen:tm.length=103) (h0:tm.getD 0 uA=vc) (h1:tm.getD 1 uA=vm) (h2:tm.getD 2 uA=vs) (h7:tm.getD 7 uA=.ptr q 0) (h9:tm.getD 9 uA=I ((0:Nat):Int)) :
   ∃ X Y K1 K2,Z=br (bA (fun j=>iK (cY cs j)) (cs.length) (0)) (some (.exit 0,(X,K1))) (some (.ret,(Y,K2)))/\(X.length=103/\al G K1/\X.getD 0 uA=vc/\X.getD 1 uA=vm/\X.getD 2 uA=vs/\X.getD 7 uA=.ptr q 0)/\Y.length=103/\Y.getD 8 uA=I 1:=by
 subst hX
 exact Ro hc hm hs hN (cs.length) 0 tm K (by omega) (by omega) hA hlen h0 h1 h2 h7 h9
theorem Rl {G:AH} {ss:List (List Itm)} {vc vm vs:AV} (hs:da G ss vs) (hN:ss.length < 2 ^ 60):∀ (d j:Nat) (tm:List AV) (K:AH),ss.length - j=d->j<=ss.length->(tm.length=103/\al G K/\tm.getD 0 uA=vc/\tm.getD 1 uA=vm/\tm.getD 2 uA=vs/\tm.getD 11 uA=I ((j:Nat):Int)/\tm.getD 10 uA=I (mq ss j)) ->
   ∃ X K1,EvC aa C0 W0 plN EW (tm,K)=some (.exit 2,(X,K1))/\(X.length=103/\al G K1/\X.getD 0 uA=vc/\X.getD 1 uA=vm/\X.getD 2 uA=vs/\X.getD 11 uA=I ((ss.length:Nat):Int)/\X.getD 10 uA=I (mq ss ss.length)):=by
 intro d
 induction d with
 | zero =>
   intro j tm K hd hj hI
   have hjl:j=ss.length:=by omega
   subst hjl
   have hI0:=hI
   obtain ⟨hlen,hA,h0,h1,h2,h11,h10⟩:=hI
   have hlt:ltB (((ss.length:Nat)):Int) (ss.length:Nat)=false:=db (by omega)
   have hls:=hs.len
   rw [LJ]
   simp (maxSteps:=4000000) -implicitDefEqProofs only [FE,Tryz.f16,aP,hlen,h0,h1,h2,h11,h10,hlt,hls,r5,↓az,↓cbT,↓cbF,↓ao,an,eu,sevalprocAttr]
   refine ⟨_,K,rfl,?_⟩
   exact ⟨by first | exact hlen | simp only [ar,hlen],by first | exact hA | exact hA.bS _,by simp only [hlen,h0,h1,h2,h11,h10,mq,gB,and_self,sevalprocAttr]⟩
 | succ d ih =>
   intro j tm K hd hj hI
   have hI0:=hI
   obtain ⟨hlen,hA,h0,h1,h2,h11,h10⟩:=hI
   have hjN:j < ss.length:=by omega
   have hlt:ltB (j:Int) (ss.length:Nat)=true:=cQ (by omega)
   have hw:=cD (j:=j) (by omega)
   have hls:=hs.len
   obtain ⟨i0,k0,w0,hix0,hrd0,hxs⟩:=hs.at hA hjN
   have hln:=hxs.len
   rw [LJ]
   rw [<-af K]
   have key:∀ (tmN:List AV) (KN:AH) (Z:Option (bu × St)),EvC aa C0 W0 plN EW (tmN,KN)=Z->(tmN.length=103/\al G KN/\tmN.getD 0 uA=vc/\tmN.getD 1 uA=vm/\tmN.getD 2 uA=vs/\tmN.getD 11 uA=I (((j+1):Nat):Int)/\tmN.getD 10 uA=I (mq ss (j+1)))->∃ X K1,Z=some (.exit 2,(X,K1))/\(X.length=103/\al G K1/\X.getD 0 uA=vc/\X.getD 1 uA=vm/\X.getD 2 uA=vs/\X.getD 11 uA=I ((ss.length:Nat):Int)/\X.getD 10 uA=I (mq ss ss.length)):=by
     intro tmN KN Z h hJ
     obtain ⟨X,K1,A,B⟩:=ih (j+1) tmN KN (by omega) (by omega) hJ
     exact ⟨X,K1,h.symm.trans A,B⟩
   simp (maxSteps:=4000000) -implicitDefEqProofs only [FE,Tryz.f16,aP,hlen,h0,h1,h2,h11,h10,hlt,hw,hls,hix0,hrd0,hln,r5,↓az,↓cbT,↓cbF,↓ao,an,eu,sevalprocAttr]
   generalize hX:EvC aa C0 W0 _ _ _=Z
   refine key _ _ _ hX ?_
   exact ⟨by first | exact hlen | simp only [ar,hlen],by first | exact hA | exact hA.bS _,by simp only [hlen,h0,h1,h2,h11,h10,mq,gB,and_self,sevalprocAttr]⟩
theorem Np {G:AH} {ss:List (List Itm)} {vc vm vs:AV} {tm:List AV} {K:AH} {Z:Option (bu × St)} (hX:EvC aa C0 W0 plN EW (tm,K)=Z) (hs:da G ss vs) (hN:ss.length < 2 ^ 60) (hI:tm.length=103/\al G K/\tm.getD 0 uA=vc/\tm.getD 1 uA=vm/\tm.getD 2 uA=vs/\tm.getD 11 uA=I ((0:Nat):Int)/\tm.getD 10 uA=I (mq ss 0)) :
   ∃ X K1,Z=some (.exit 2,(X,K1))/\(X.length=103/\al G K1/\X.getD 0 uA=vc/\X.getD 1 uA=vm/\X.getD 2 uA=vs/\X.getD 11 uA=I ((ss.length:Nat):Int)/\X.getD 10 uA=I (mq ss ss.length)):=by
 subst hX
 exact Rl hs hN (ss.length) 0 tm K (by omega) (by omega) hI
theorem Rn {G:AH} {cs:List Cod} {m:List (List Int)} {ss:List (List Itm)} {vc vm vs:AV} (hc:cO G cs vc) (hm:dc G m vm) (hs:da G ss vs) (hN:m.length < 2 ^ 60):∀ (d j:Nat) (tm:List AV) (K:AH),m.length - j=d->j<=m.length->al G K->tm.length=103->tm.getD 0 uA=vc->tm.getD 1 uA=vm->tm.getD 2 uA=vs->tm.getD 12 uA=I ((j:Nat):Int) ->
   ∃ X Y K1 K2,EvC aa C0 W0 plN JM (tm,K)=br (bA (fun j=>!ltB 256 ((bG m j).length:Int)) (m.length) (j)) (some (.exit 4,(X,K1))) (some (.ret,(Y,K2)))/\(X.length=103/\al G K1/\X.getD 0 uA=vc/\X.getD 1 uA=vm/\X.getD 2 uA=vs)/\Y.length=103/\Y.getD 8 uA=I 5:=by
 intro d
 induction d with
 | zero =>
   intro j tm K hd hj hA hlen h0 h1 h2 h12
   have hjl:j=m.length:=by omega
   subst hjl
   have hlt:ltB (((m.length:Nat)):Int) (m.length:Nat)=false:=db (by omega)
   have hlm:=hm.len
   rw [cN (ax _),LI]
   simp (maxSteps:=4000000) -implicitDefEqProofs only [Cx,Tryz.f16,aP,hlen,h0,h1,h2,h12,hlt,hlm,r5,↓az,↓cbT,↓cbF,↓ao,an,eu,sevalprocAttr]
   exact ⟨_,tm.set 8 (I 5),_,K,rfl,⟨by first | exact hlen | simp only [ar,hlen],hA,by first | exact h0 | simp only [hlen,h0,gB,sevalprocAttr],by first | exact h1 | simp only [hlen,h1,gB,sevalprocAttr],by first | exact h2 | simp only [hlen,h2,gB,sevalprocAttr]⟩,by simp only [ls,hlen],by simp only [hlen,dq,aM]⟩
 | succ d ih =>
   intro j tm K hd hj hA hlen h0 h1 h2 h12
   have hjN:j < m.length:=by omega
   have hlt:ltB (j:Int) (m.length:Nat)=true:=cQ (by omega)
   have hw:=cD (j:=j) (by omega)
   have hlm:=hm.len
   obtain ⟨i,k,w,hix,hrd,hw32⟩:=hm.at hA hjN
   have hl32:=kn hw32
   rw [ch hjN,LI]
   rw [<-af K]
   cases hp:(!ltB 256 ((bG m j).length:Int)) with
   | true =>
     simp only [aZ]
     rw [ba] at hp
     simp (maxSteps:=4000000) -implicitDefEqProofs only [Cx,Tryz.f16,aP,hlen,h0,h1,h2,h12,hlt,hw,hlm,hix,hrd,hl32,hp,r5,↓az,↓cbT,↓cbF,↓ao,an,eu,sevalprocAttr]
     exact ih (j+1) _ _ (by omega) (by omega) (by first | exact hA | exact hA.bS _ | exact (hA.bS _).bS _) (by simp only [ls,hlen]) (by simp only [hlen,h0,gB,sevalprocAttr]) (by simp only [hlen,h1,gB,sevalprocAttr]) (by simp only [hlen,h2,gB,sevalprocAttr]) (by simp only [hlen,h12,gB,sevalprocAttr])
   | false =>
     simp only [bd]
     rw [iB] at hp
     simp (maxSteps:=4000000) -implicitDefEqProofs only [Cx,Tryz.f16,aP,hlen,h0,h1,h2,h12,hlt,hw,hlm,hix,hrd,hl32,hp,r5,↓az,↓cbT,↓cbF,↓ao,an,eu,sevalprocAttr]
     exact ⟨tm,_,K,_,rfl,⟨hlen,hA,h0,h1,h2⟩,by simp only [ls,hlen],by simp only [hlen,gB,sevalprocAttr]⟩
theorem Nr {G:AH} {cs:List Cod} {m:List (List Int)} {ss:List (List Itm)} {vc vm vs:AV} {tm:List AV} {K:AH} {Z:Option (bu × St)} (hX:EvC aa C0 W0 plN JM (tm,K)=Z) (hc:cO G cs vc) (hm:dc G m vm) (hs:da G ss vs) (hN:m.length < 2 ^ 60) (hA:al G K) (hlen:tm.length=103) (h0:tm.getD 0 uA=vc) (h1:tm.getD 1 uA=vm) (h2:tm.getD 2 uA=vs) (h12:tm.getD 12 uA=I ((0:Nat):Int)) :
   ∃ X Y K1 K2,Z=br (bA (fun j=>!ltB 256 ((bG m j).length:Int)) (m.length) (0)) (some (.exit 4,(X,K1))) (some (.ret,(Y,K2)))/\(X.length=103/\al G K1/\X.getD 0 uA=vc/\X.getD 1 uA=vm/\X.getD 2 uA=vs)/\Y.length=103/\Y.getD 8 uA=I 5:=by
 subst hX
 exact Rn hc hm hs hN (m.length) 0 tm K (by omega) (by omega) hA hlen h0 h1 h2 h12
theorem Un {G:AH} {cs:List Cod} {m:List (List Int)} {ss:List (List Itm)} {vc vm vs:AV} {i:Nat} (hc:cO G cs vc) (hm:dc G m vm) (hs:da G ss vs) (hi:i < ss.length) (hN:(aR ss i).length < 2 ^ 60):∀ (d j:Nat) (tm:List AV) (K:AH),(aR ss i).length - j=d->j<=(aR ss i).length->al G K->tm.length=103->tm.getD 0 uA=vc->tm.getD 1 uA=vm->tm.getD 2 uA=vs->tm.getD 13 uA=I ((i:Nat):Int)->tm.getD 14 uA=I ((j:Nat):Int) ->
   ∃ X Y K1 K2,EvC aa C0 W0 plN JL (tm,K)=br (bA (fun j=>cK cs m (bB (aR ss i) j)) ((aR ss i).length) (j)) (some (.exit 8,(X,K1))) (some (.ret,(Y,K2)))/\(X.length=103/\al G K1/\X.getD 0 uA=vc/\X.getD 1 uA=vm/\X.getD 2 uA=vs/\X.getD 13 uA=I ((i:Nat):Int))/\Y.length=103/\Y.getD 8 uA=I 6:=by
 intro d
 induction d with
 | zero =>
   intro j tm K hd hj hA hlen h0 h1 h2 h13 h14
   have hjl:j=(aR ss i).length:=by omega
   subst hjl
   have hlt:ltB ((((aR ss i).length:Nat)):Int) ((aR ss i).length:Nat)=false:=db (by omega)
   obtain ⟨i0,k0,w0,hix0,hrd0,hx⟩:=hs.at hA hi
   have hln:=hx.len
   have hrd0':ak K i0 k0 1=some [w0]:=by have:=hrd0 []; rwa [af] at this
   rw [cN (ax _),LH]
   simp (maxSteps:=4000000) -implicitDefEqProofs only [Cw,Tryz.f16,aP,hlen,h0,h1,h2,h13,h14,hlt,hix0,hrd0',hln,r5,↓az,↓cbT,↓cbF,↓ao,an,eu,sevalprocAttr]
   exact ⟨_,tm.set 8 (I 6),_,K,rfl,⟨by first | exact hlen | simp only [ar,hlen],hA,by first | exact h0 | simp only [hlen,h0,gB,sevalprocAttr],by first | exact h1 | simp only [hlen,h1,gB,sevalprocAttr],by first | exact h2 | simp only [hlen,h2,gB,sevalprocAttr],by first | exact h13 | simp only [hlen,h13,gB,sevalprocAttr]⟩,by simp only [ls,hlen],by simp only [hlen,dq,aM]⟩
 | succ d ih =>
   intro j tm K hd hj hA hlen h0 h1 h2 h13 h14
   have hjN:j < (aR ss i).length:=by omega
   have hlt:ltB (j:Int) ((aR ss i).length:Nat)=true:=cQ (by omega)
   have hw:=cD (j:=j) (by omega)
   obtain ⟨i0,k0,w0,hix0,hrd0,hx⟩:=hs.at hA hi
   have hln:=hx.len
   obtain ⟨i1,k1,w1,hix1,hrd1,ha1⟩:=hx.at hA hjN
   have he39:=fun L=>aam (hc.aX (hA.bS L)) (hm.aX (hA.bS L)) (ha1.same (hA.bS L)) (hx.im _ (fu hjN))
   simp only [aU] at hrd1 he39
   rw [ch hjN,LH]
   rw [<-af K]
   cases hp:(cK cs m (bB (aR ss i) j)) with
   | true =>
     simp only [aZ]
     simp (maxSteps:=4000000) -implicitDefEqProofs only [Cw,Tryz.f16,aP,hlen,h0,h1,h2,h13,h14,hlt,hw,hix0,hrd0,hln,hix1,hrd1,↓V8,he39,hp,r5,↓az,↓cbT,↓cbF,↓ao,an,eu,sevalprocAttr]
     exact ih (j+1) _ _ (by omega) (by omega) (by first | exact hA | exact hA.bS _ | exact (hA.bS _).bS _) (by simp only [ls,hlen]) (by simp only [hlen,h0,gB,sevalprocAttr]) (by simp only [hlen,h1,gB,sevalprocAttr]) (by simp only [hlen,h2,gB,sevalprocAttr]) (by simp only [hlen,h13,gB,sevalprocAttr]) (by simp only [hlen,h14,gB,sevalprocAttr])
   | false =>
     simp only [bd]
     simp (maxSteps:=4000000) -implicitDefEqProofs only [Cw,Tryz.f16,aP,hlen,h0,h1,h2,h13,h14,hlt,hw,hix0,hrd0,hln,hix1,hrd1,↓V8,he39,hp,r5,↓az,↓cbT,↓cbF,↓ao,an,eu,sevalprocAttr]
     exact ⟨tm,_,K,_,rfl,⟨hlen,hA,h0,h1,h2,h13⟩,by simp only [ls,hlen],by simp only [hlen,gB,sevalprocAttr]⟩
theorem Iu {G:AH} {cs:List Cod} {m:List (List Int)} {ss:List (List Itm)} {vc vm vs:AV} {i:Nat} {tm:List AV} {K:AH} {Z:Option (bu × St)} (hX:EvC aa C0 W0 plN JL (tm,K)=Z) (hc:cO G cs vc) (hm:dc G m vm) (hs:da G ss vs) (hi:i < ss.length) (hN:(aR ss i).length < 2 ^ 60) (hA:al G K) (hlen:tm.length=103) (h0:tm.getD 0 uA=vc) (h1:tm.getD 1 uA=vm) (h2:tm.getD 2 uA=vs) (h13:tm.getD 13 uA=I ((i:Nat):Int)) (h14:tm.getD 14 uA=I ((0:Nat):Int)) :
   ∃ X Y K1 K2,Z=br (bA (fun j=>cK cs m (bB (aR ss i) j)) ((aR ss i).length) (0)) (some (.exit 8,(X,K1))) (some (.ret,(Y,K2)))/\(X.length=103/\al G K1/\X.getD 0 uA=vc/\X.getD 1 uA=vm/\X.getD 2 uA=vs/\X.getD 13 uA=I ((i:Nat):Int))/\Y.length=103/\Y.getD 8 uA=I 6:=by
 subst hX
 exact Un hc hm hs hi hN ((aR ss i).length) 0 tm K (by omega) (by omega) hA hlen h0 h1 h2 h13 h14
theorem Rm {G:AH} {cs:List Cod} {m:List (List Int)} {ss:List (List Itm)} {vc vm vs:AV} (hc:cO G cs vc) (hm:dc G m vm) (hs:da G ss vs) (hN:ss.length < 2 ^ 60):∀ (d j:Nat) (tm:List AV) (K:AH),ss.length - j=d->j<=ss.length->(tm.length=103/\al G K/\tm.getD 0 uA=vc/\tm.getD 1 uA=vm/\tm.getD 2 uA=vs/\tm.getD 13 uA=I ((j:Nat):Int)) ->
   ∃ X K1 Y K2,EvC aa C0 W0 plN EV (tm,K)=br (bA (fun j=>lh cs m (aR ss j)) (ss.length) (j)) (some (.exit 6,(X,K1))) (some (.ret,(Y,K2)))/\(bA (fun j=>lh cs m (aR ss j)) (ss.length) (j)=true->X.length=103/\al G K1/\X.getD 0 uA=vc/\X.getD 1 uA=vm/\X.getD 2 uA=vs/\X.getD 13 uA=I ((ss.length:Nat):Int))/\Y.length=103/\Y.getD 8 uA=I 6:=by
 intro d
 induction d with
 | zero =>
   intro j tm K hd hj hI
   have hjl:j=ss.length:=by omega
   subst hjl
   have hI0:=hI
   obtain ⟨hlen,hA,h0,h1,h2,h13⟩:=hI
   have hlt:ltB (((ss.length:Nat)):Int) (ss.length:Nat)=false:=db (by omega)
   have hls:=hs.len
   rw [cN (ax _)]
   rw [LG]
   simp (maxSteps:=4000000) -implicitDefEqProofs only [Cv,Tryz.f16,aP,hlen,h0,h1,h2,h13,hlt,hls,r5,↓az,↓cbT,↓cbF,↓ao,an,eu,sevalprocAttr]
   refine ⟨_,K,tm.set 8 (I 6),K,rfl,?_,by simp only [ls,hlen],by simp only [hlen,dq,aM]⟩
   try intro _
   exact ⟨by first | exact hlen | simp only [ar,hlen],hA,by simp only [hlen,h0,h1,h2,h13,gB,and_self,sevalprocAttr]⟩
 | succ d ih =>
   intro j tm K hd hj hI
   have hI0:=hI
   obtain ⟨hlen,hA,h0,h1,h2,h13⟩:=hI
   have hjN:j < ss.length:=by omega
   have hlt:ltB (j:Int) (ss.length:Nat)=true:=cQ (by omega)
   have hw:=cD (j:=j) (by omega)
   have hls:=hs.len
   obtain ⟨i0,k0,w0,hix0,hrd0,hxs⟩:=hs.at hA hjN
   rw [ch hjN]
   rw [LG]
   rw [<-af K]
   cases hp:(lh cs m (aR ss j)) with
   | true =>
     unfold lh at hp
     simp only [aZ]
     simp (maxSteps:=4000000) -implicitDefEqProofs only [Cv,Tryz.f16,aP,hlen,h0,h1,h2,h13,hlt,hw,hls,r5,↓az,↓cbT,↓cbF,↓ao,an,eu,sevalprocAttr]
     generalize hX:EvC aa C0 W0 _ (Code.loop _) _=Z
     obtain ⟨X,Y,K1,K2,he,xs,y0,y1⟩:=Iu  hX hc hm hs hjN (dB hxs.n (by decide)) (hA.bS _) (by simp only [ls,hlen,h0,h1,h2,h13]) (by simp only [hlen,h0,h1,h2,h13,h0,gB,sevalprocAttr]; try rfl) (by simp only [hlen,h0,h1,h2,h13,h1,gB,sevalprocAttr]; try rfl) (by simp only [hlen,h0,h1,h2,h13,h2,gB,sevalprocAttr]; try rfl) (by simp only [hlen,h0,h1,h2,h13,h13,gB,sevalprocAttr]; try rfl) (by simp only [hlen,h0,h1,h2,h13,gB,sevalprocAttr]; try rfl)
     subst he
     simp (maxSteps:=4000000) -implicitDefEqProofs only [hp,xs.1,xs.2.2.1,xs.2.2.2.1,xs.2.2.2.2.1,xs.2.2.2.2.2,hw,↓cbT,↓cbF,↓ao,an,eu,sevalprocAttr]
     generalize hX:EvC aa C0 W0 _ _ _=Z
     have key:∀ (tmN:List AV) (KN:AH),EvC aa C0 W0 plN EV (tmN,KN)=Z->(tmN.length=103/\al G KN/\tmN.getD 0 uA=vc/\tmN.getD 1 uA=vm/\tmN.getD 2 uA=vs/\tmN.getD 13 uA=I (((j+1):Nat):Int))->∃ X K1 Y K2,Z=br (bA (fun j=>lh cs m (aR ss j)) (ss.length) (j+1)) (some (.exit 6,(X,K1))) (some (.ret,(Y,K2)))/\(bA (fun j=>lh cs m (aR ss j)) (ss.length) (j+1)=true->X.length=103/\al G K1/\X.getD 0 uA=vc/\X.getD 1 uA=vm/\X.getD 2 uA=vs/\X.getD 13 uA=I ((ss.length:Nat):Int))/\Y.length=103/\Y.getD 8 uA=I 6:=by
       intro tmN KN h hJ
       obtain ⟨X,K1,Y,K2,A,B⟩:=ih (j+1) tmN KN (by omega) (by omega) hJ
       exact ⟨X,K1,Y,K2,h.symm.trans A,B⟩
     refine key _ _ hX ?_
     exact ⟨by simp only [ls,xs.1],xs.2.1,by simp only [xs.1,xs.2.2.1,xs.2.2.2.1,xs.2.2.2.2.1,xs.2.2.2.2.2,gB,and_self,sevalprocAttr]⟩
   | false =>
     simp only [bd]
     unfold lh at hp
     simp (maxSteps:=4000000) -implicitDefEqProofs only [Cv,Tryz.f16,aP,hlen,h0,h1,h2,h13,hlt,hw,hls,r5,↓az,↓cbT,↓cbF,↓ao,an,eu,sevalprocAttr]
     generalize hX:EvC aa C0 W0 _ (Code.loop _) _=Z
     obtain ⟨X,Y,K1,K2,he,xs,y0,y1⟩:=Iu  hX hc hm hs hjN (dB hxs.n (by decide)) (hA.bS _) (by simp only [ls,hlen,h0,h1,h2,h13]) (by simp only [hlen,h0,h1,h2,h13,h0,gB,sevalprocAttr]; try rfl) (by simp only [hlen,h0,h1,h2,h13,h1,gB,sevalprocAttr]; try rfl) (by simp only [hlen,h0,h1,h2,h13,h2,gB,sevalprocAttr]; try rfl) (by simp only [hlen,h0,h1,h2,h13,h13,gB,sevalprocAttr]; try rfl) (by simp only [hlen,h0,h1,h2,h13,gB,sevalprocAttr]; try rfl)
     subst he
     simp (maxSteps:=4000000) -implicitDefEqProofs only [hp,y0,y1,↓cbT,↓cbF,↓ao,an,eu,sevalprocAttr]
     exact ⟨tm,K,Y,_,rfl,by first | exact trivial | (intro h; cases h),y0,y1⟩
theorem Nq {G:AH} {cs:List Cod} {m:List (List Int)} {ss:List (List Itm)} {vc vm vs:AV} {tm:List AV} {K:AH} {Z:Option (bu × St)} (hX:EvC aa C0 W0 plN EV (tm,K)=Z) (hc:cO G cs vc) (hm:dc G m vm) (hs:da G ss vs) (hN:ss.length < 2 ^ 60) (hI:tm.length=103/\al G K/\tm.getD 0 uA=vc/\tm.getD 1 uA=vm/\tm.getD 2 uA=vs/\tm.getD 13 uA=I ((0:Nat):Int)) :
   ∃ X K1 Y K2,Z=br (bA (fun j=>lh cs m (aR ss j)) (ss.length) (0)) (some (.exit 6,(X,K1))) (some (.ret,(Y,K2)))/\(bA (fun j=>lh cs m (aR ss j)) (ss.length) (0)=true->X.length=103/\al G K1/\X.getD 0 uA=vc/\X.getD 1 uA=vm/\X.getD 2 uA=vs/\X.getD 13 uA=I ((ss.length:Nat):Int))/\Y.length=103/\Y.getD 8 uA=I 6:=by
 subst hX
 exact Rm hc hm hs hN (ss.length) 0 tm K (by omega) (by omega) hI
theorem aaw {H:AH} {cs:List Cod} {m:List (List Int)} {ss:List (List Itm)} {vc vm vs:AV} (hc:cO H cs vc) (hm:dc H m vm) (hs:da H ss vs) (f:Con):Ev aa C0 W0 16 [vc,vm,vs,.agg (d8 f)] H=some (I (fG cs m ss f),H):=by
 obtain ⟨tm,ht,g0,g1,g2,g3,g4⟩:=tm4 vc vm vs (.agg (d8 f)) 103 (by decide)
 rw [Zp,ht]
 rw [<-af (ro H)]
 have h38:=fun G=>aan f G
 simp only [d8] at h38
 have hlc:=hc.len
 have hlm:=hm.len
 have hls:=hs.len
 unfold fG uL
 simp (maxSteps:=4000000) -implicitDefEqProofs only [c16,Tryz.f16,aP,g0,g1,g2,g3,g4,d8,hlc,r5,↓az,↓cbT,↓cbF,↓ao,an,eu,sevalprocAttr]
 have hA0:=al.app (ro H) [bo.cells [I f.w,.bool f.free,I f.cores,I f.slots,I f.room,I f.pol,I f.lat] 27]
 generalize hX:EvC aa C0 W0 _ (Code.loop _) _=Z
 obtain ⟨X,Y,K1,L1,he1,xs,y0,y1⟩:=Ns (q:=(ro H).length) hX (hc.ro.aX hA0) (hm.ro.aX hA0) (hs.ro.aX hA0) (dB hc.n (by decide)) (al.refl _) (by simp only [ls,g0]) (by simp only [g0,g1,gB,sevalprocAttr]) (by simp only [g0,g2,gB,sevalprocAttr]) (by simp only [g0,g3,gB,sevalprocAttr]) (by simp only [g0,gB,sevalprocAttr]) (by simp only [g0,gB,sevalprocAttr]; try rfl)
 subst he1
 cases c1:bA (fun j=>iK (cY cs j)) cs.length 0 with
 | false =>
   simp only [Bool.and_false]
   simp (maxSteps:=4000000) -implicitDefEqProofs only [y0,y1,c1,↓cbT,↓cbF,↓ao,an,eu,sevalprocAttr]
 | true =>
   obtain ⟨i0,iA,i1,i2,i3,i7⟩:=xs
   have hcK:=(hc.ro.aX hA0).aX iA
   have hmK:=(hm.ro.aX hA0).aX iA
   have hsK:=(hs.ro.aX hA0).aX iA
   have hbox:ak K1 (ro H).length 0 7=some [I f.w,.bool f.free,I f.cores,I f.slots,I f.room,I f.pol,I f.lat]:=by
     have:=ju iA (show ak (ro H++[bo.cells [I f.w,.bool f.free,I f.cores,I f.slots,I f.room,I f.pol,I f.lat] 27]) (ro H).length 0 7=_ from by rw [gu]; rfl)
     exact this
   simp only [Bool.and_true]
   cases c0:tf f with
   | false=>simp (maxSteps:=4000000) -implicitDefEqProofs only [i0,i1,i2,i3,i7,hbox,↓V9,h38,c0,c1,r5,↓az,↓cbT,↓cbF,↓ao,an,eu,sevalprocAttr]
   | true =>
     simp (maxSteps:=4000000) -implicitDefEqProofs only [i0,i1,i2,i3,i7,hbox,↓V9,h38,c0,c1,r5,↓az,↓cbT,↓cbF,↓ao,an,eu,sevalprocAttr]
     generalize hX:EvC aa C0 W0 _ (Code.loop _) _=Z
     obtain ⟨X2,K2,he2,j0,jA,j1,j2,j3,_,j10⟩:=Np (vc:=vc) (vm:=vm) hX hsK (dB hs.n (by decide)) ⟨by simp only [ls,i0],al.refl _,Aj3 (by simp only [i0,i1,i2,i3,gB,and_self,sevalprocAttr]) ⟨by simp only [i0,gB,sevalprocAttr]; try rfl,by simp only [i0,gB,sevalprocAttr]; try rfl⟩⟩
     subst he2
     unfold oV
     cases q0:ltB (ss.length:Int) 1 with
     | true=>simp (maxSteps:=4000000) -implicitDefEqProofs only [aP,j0,j1,j2,j3,j10,hls,hlc,hlm,r5,↓az,q0,↓cbT,↓cbF,↓ao,an,eu,sevalprocAttr]
     | false =>
       cases q1:ltB 4 (ss.length:Int) with
       | true=>simp (maxSteps:=4000000) -implicitDefEqProofs only [aP,j0,j1,j2,j3,j10,hls,hlc,hlm,r5,↓az,q0,q1,↓cbT,↓cbF,↓ao,an,eu,sevalprocAttr]
       | false =>
         cases q2:ltB 4 (cs.length:Int) with
         | true=>simp (maxSteps:=4000000) -implicitDefEqProofs only [aP,j0,j1,j2,j3,j10,hls,hlc,hlm,r5,↓az,q0,q1,q2,↓cbT,↓cbF,↓ao,an,eu,sevalprocAttr]
         | false =>
           cases q3:ltB 24 (mq ss ss.length) with
           | true=>simp (maxSteps:=4000000) -implicitDefEqProofs only [aP,j0,j1,j2,j3,j10,hls,hlc,hlm,r5,↓az,q0,q1,q2,q3,↓cbT,↓cbF,↓ao,an,eu,sevalprocAttr]
           | false =>
             cases q4:ltB 6 (m.length:Int) with
             | true=>simp (maxSteps:=4000000) -implicitDefEqProofs only [aP,j0,j1,j2,j3,j10,hls,hlc,hlm,r5,↓az,q0,q1,q2,q3,q4,↓cbT,↓cbF,↓ao,an,eu,sevalprocAttr]
             | false =>
               simp (maxSteps:=4000000) -implicitDefEqProofs only [aP,j0,j1,j2,j3,j10,hls,hlc,hlm,r5,↓az,q0,q1,q2,q3,q4,↓cbT,↓cbF,↓ao,an,eu,sevalprocAttr]
               generalize hX:EvC aa C0 W0 _ (Code.loop _) _=Z
               obtain ⟨X3,Y3,K3,L3,he3,xs,y0,y1⟩:=Nr hX (hcK.aX jA) (hmK.aX jA) (hsK.aX jA) (dB hm.n (by decide)) (al.refl _) (by simp only [ls,j0]) (by simp only [j0,j1,gB,sevalprocAttr]) (by simp only [j0,j2,gB,sevalprocAttr]) (by simp only [j0,j3,gB,sevalprocAttr]) (by simp only [j0,gB,sevalprocAttr]; try rfl)
               subst he3
               unfold lf
               cases c2:bA (fun j=>!ltB 256 ((bG m j).length:Int)) m.length 0 with
               | false=>simp (maxSteps:=4000000) -implicitDefEqProofs only [y0,y1,c2,↓cbT,↓cbF,↓ao,an,eu,sevalprocAttr]
               | true =>
                 obtain ⟨k0,kA,k1,k2,k3⟩:=xs
                 simp (maxSteps:=4000000) -implicitDefEqProofs only [c2,k0,k1,k2,k3,hls,r5,↓az,↓cbT,↓cbF,↓ao,an,eu,sevalprocAttr]
                 generalize hX:EvC aa C0 W0 _ (Code.loop _) _=Z
                 obtain ⟨X4,K4,Y4,L4,he4,hi4,y0,y1⟩:=Nq hX ((hcK.aX jA).aX kA) ((hmK.aX jA).aX kA) ((hsK.aX jA).aX kA) (dB hs.n (by decide)) ⟨by simp only [ls,k0],al.refl _,Aj3 (by simp only [k0,k1,k2,k3,gB,and_self,sevalprocAttr]) (by simp only [k0,gB,sevalprocAttr]; try rfl)⟩
                 subst he4
                 unfold yb
                 cases hf:bA (fun i=>lh cs m (aR ss i)) ss.length 0 with
                 | false=>simp (maxSteps:=4000000) -implicitDefEqProofs only [y0,y1,hf,↓cbT,↓cbF,↓ao,an,eu,sevalprocAttr]
                 | true =>
                   obtain ⟨l0,_⟩:=hi4 hf
                   simp (maxSteps:=4000000) -implicitDefEqProofs only [aP,l0,hf,↓cbT,↓cbF,↓ao,an,eu,sevalprocAttr]
theorem bn4 (a b:Bool) (H:AH) (fb:Option AV):iG .neq 4 (.bool a) (.bool b) H fb=some (.bool (a != b)):=by cases a <;> cases b <;> kernel_rfl
def HT (cs:List Cod):Bool:=bA (fun j=>!ltB 80 ((cY cs j).insns.length:Int)) cs.length 0
def Nd (cs:List Cod) (m:List (List Int)) (ss:List (List Itm)) (f:Con):Bool:=!ltB 4 (cs.length:Int) && HT cs && eqB (fG cs m ss f) 0
theorem Nc {G:AH} {cs:List Cod} {vc vm vs:AV} {f:Con} {q:Nat} (hc:cO G cs vc) (hq:G[q]? =some (.cells [vc,vm,vs,I f.w,.bool f.free,I f.cores,I f.slots,I f.room,I f.pol,I f.lat] 29)) (hN:cs.length < 2 ^ 60):∀ (d j:Nat) (tm:List AV) (K:AH),cs.length - j=d->j<=cs.length->al G K->tm.length=33->tm.getD 1 uA=.ptr q 0->tm.getD 3 uA=I ((j:Nat):Int) ->
   ∃ X Y K1 K2,EvC aa C0 W0 plN Sk (tm,K)=br (bA (fun j=>!ltB 80 ((cY cs j).insns.length:Int)) (cs.length) (j)) (some (.exit 0,(X,K1))) (some (.ret,(Y,K2)))/\(X.length=33/\al G K1/\X.getD 1 uA=.ptr q 0)/\Y.length=33/\Y.getD 2 uA=.bool false:=by
 intro d
 induction d with
 | zero =>
   intro j tm K hd hj hA hlen h1 h3
   have hjl:j=cs.length:=by omega
   subst hjl
   have hlt:ltB (((cs.length:Nat)):Int) (cs.length:Nat)=false:=db (by omega)
   have hq0:∀ L,ak (K++L) q 0 1=some [vc]:=fun L=>by unfold ak; rw [(hA.bS L).get hq]; rfl
   have hq0':ak K q 0 1=some [vc]:=by unfold ak; rw [hA.get hq]; rfl
   have hlc:=hc.len
   rw [cN (ax _),Qm]
   simp -implicitDefEqProofs only [Me,Tryz.f8,aP,hlen,h1,h3,hlt,hlc,hq0',ku,r5,↓az,nck,↓cbT,↓cbF,↓ao,an,eu,sevalprocAttr]
   exact ⟨_,tm.set 2 (.bool false),_,K,rfl,⟨by first | exact hlen | simp only [ar,hlen],hA,by first | exact h1 | simp only [hlen,h1,gB,sevalprocAttr]⟩,by simp only [ls,hlen],by simp only [hlen,dq,aM]⟩
 | succ d ih =>
   intro j tm K hd hj hA hlen h1 h3
   have hjN:j < cs.length:=by omega
   have hlt:ltB (j:Int) (cs.length:Nat)=true:=cQ (by omega)
   have hw:=cD (j:=j) (by omega)
   have hq0:∀ L,ak (K++L) q 0 1=some [vc]:=fun L=>by unfold ak; rw [(hA.bS L).get hq]; rfl
   have hq0':ak K q 0 1=some [vc]:=by unfold ak; rw [hA.get hq]; rfl
   have hlc:=hc.len
   obtain ⟨i,k,vp,vz,vi,hix,hrd,hcd⟩:=hc.at hA hjN
   have hr4:∀ L,ak (K++L) i (k+4) 1=some [vi]:=fun L=>jU (hrd L) (j:=4) rfl
   have hli:=hcd.li
   rw [ch hjN,Qm]
   rw [<-af K]
   cases hp:(!ltB 80 ((cY cs j).insns.length:Int)) with
   | true =>
     simp only [aZ]
     rw [ba] at hp
     simp -implicitDefEqProofs only [Me,Tryz.f8,aP,hlen,h1,h3,hlt,hw,hlc,hq0,hix,hr4,hli,hp,ku,r5,↓az,nck,↓cbT,↓cbF,↓ao,an,eu,sevalprocAttr]
     exact ih (j+1) _ _ (by omega) (by omega) (by first | exact hA | exact hA.bS _ | exact (hA.bS _).bS _) (by simp only [ls,hlen]) (by simp only [hlen,h1,gB,sevalprocAttr]) (by simp only [hlen,h3,gB,sevalprocAttr])
   | false =>
     simp only [bd]
     rw [iB] at hp
     simp -implicitDefEqProofs only [Me,Tryz.f8,aP,hlen,h1,h3,hlt,hw,hlc,hq0,hix,hr4,hli,hp,ku,r5,↓az,nck,↓cbT,↓cbF,↓ao,an,eu,sevalprocAttr]
     exact ⟨tm,_,K,_,rfl,⟨hlen,hA,h1⟩,by simp only [ls,hlen],by simp only [hlen,gB,sevalprocAttr]⟩
theorem H9 {G:AH} {cs:List Cod} {vc vm vs:AV} {f:Con} {q:Nat} {tm:List AV} {K:AH} {Z:Option (bu × St)} (hX:EvC aa C0 W0 plN Sk (tm,K)=Z) (hc:cO G cs vc) (hq:G[q]? =some (.cells [vc,vm,vs,I f.w,.bool f.free,I f.cores,I f.slots,I f.room,I f.pol,I f.lat] 29)) (hN:cs.length < 2 ^ 60) (hA:al G K) (hlen:tm.length=33) (h1:tm.getD 1 uA=.ptr q 0) (h3:tm.getD 3 uA=I ((0:Nat):Int)) :
   ∃ X Y K1 K2,Z=br (bA (fun j=>!ltB 80 ((cY cs j).insns.length:Int)) (cs.length) (0)) (some (.exit 0,(X,K1))) (some (.ret,(Y,K2)))/\(X.length=33/\al G K1/\X.getD 1 uA=.ptr q 0)/\Y.length=33/\Y.getD 2 uA=.bool false:=by
 subst hX
 exact Nc hc hq hN (cs.length) 0 tm K (by omega) (by omega) hA hlen h1 h3
theorem ev8 {H:AH} {cs:List Cod} {m:List (List Int)} {ss:List (List Itm)} {vc vm vs:AV} (hc:cO H cs vc) (hm:dc H m vm) (hs:da H ss vs) (f:Con):Ev aa C0 W0 8 [.agg [vc,vm,vs,I f.w,.bool f.free,I f.cores,I f.slots,I f.room,I f.pol,I f.lat]] H=some (.bool (Nd cs m ss f),H):=by
 obtain ⟨tm,ht,g0,g1⟩:=tm1 (.agg [vc,vm,vs,I f.w,.bool f.free,I f.cores,I f.slots,I f.room,I f.pol,I f.lat]) 33 (by decide)
 rw [fe8,ht]
 rw [<-af (ro H)]
 have hA0:=al.app (ro H) [bo.cells [vc,vm,vs,I f.w,.bool f.free,I f.cores,I f.slots,I f.room,I f.pol,I f.lat] 29]
 have hc0:=hc.ro.aX hA0
 have hm0:=hm.ro.aX hA0
 have hs0:=hs.ro.aX hA0
 have hq:(ro H++[bo.cells [vc,vm,vs,I f.w,.bool f.free,I f.cores,I f.slots,I f.room,I f.pol,I f.lat] 29])[(ro H).length]? =some (.cells [vc,vm,vs,I f.w,.bool f.free,I f.cores,I f.slots,I f.room,I f.pol,I f.lat] 29):=by rw [aw (ax _),Nat.sub_self]; rfl
 have hlc:=hc.len
 unfold Nd
 cases h4:ltB 4 (cs.length:Int) with
 | true=>simp -implicitDefEqProofs only [c8,Tryz.f8,aP,g0,g1,hlc,h4,ku,r5,↓az,nck,↓cbT,↓cbF,↓ao,an,eu,sevalprocAttr]
 | false =>
   simp -implicitDefEqProofs only [c8,Tryz.f8,aP,g0,g1,hlc,h4,ku,r5,↓az,nck,↓cbT,↓cbF,↓ao,an,eu,sevalprocAttr]
   generalize hX:EvC aa C0 W0 _ (Code.loop _) _=Z
   obtain ⟨X,Y,K1,L1,he1,xs,y0,y1⟩:=H9 (f:=f) (vm:=vm) (vs:=vs) (q:=(ro H).length) hX hc0 hq (dB hc.n (by decide)) (al.refl _) (by simp only [ls,g0]) (by simp only [g0,gB,sevalprocAttr]) (by simp only [g0,gB,sevalprocAttr]; try rfl)
   subst he1
   unfold HT
   cases c1:bA (fun j=>!ltB 80 ((cY cs j).insns.length:Int)) cs.length 0 with
   | false=>simp -implicitDefEqProofs only [y0,y1,c1,↓cbT,↓cbF,↓ao,an,eu,sevalprocAttr]
   | true =>
     obtain ⟨i0,iA,i1⟩:=xs
     have p0:ak K1 (ro H).length 0 1=some [vc]:=by unfold ak; rw [iA.get hq]; rfl
     have p1:ak K1 (ro H).length 1 1=some [vm]:=by unfold ak; rw [iA.get hq]; rfl
     have p2:ak K1 (ro H).length 2 1=some [vs]:=by unfold ak; rw [iA.get hq]; rfl
     have p3:ak K1 (ro H).length 3 7=some (d8 f):=by unfold ak; rw [iA.get hq]; rfl
     have h16:=aaw (hc0.aX iA) (hm0.aX iA) (hs0.aX iA) f
     simp only [d8] at h16 p3
     simp -implicitDefEqProofs only [i0,i1,c1,p0,p1,p2,p3,ku,pJ,jC,rU,yR,↓ZM,h16,r5,↓az,nck,↓cbT,↓cbF,↓ao,an,eu,sevalprocAttr]
theorem Xq {x:AV} (hx:x=.nilSlice∨∃ i k es l c e,x=.slice i k es l c e) (s:Option Nat) (H:AH):bf aa s 25 1 [(0,x)] H=(put s H (.cells [x] 31)).map fun p=>(.slice p.1 0 1 1 1 true,p.2):=by
 rcases hx with rfl | ⟨i,k,es,l,c,e,rfl⟩ <;> kernel_rfl
structure CE (G K:AH) (b1 b3:Nat) (vc vm vs rv:AV) (f:Con) (ws:List AV):Prop where
 ag:al G K
 h1:G[b1]? =some (.cells [vc,vm,vs,I f.w,.bool f.free,I f.cores,I f.slots,I f.room,I f.pol,I f.lat] 29)
 h3:K[b3]? =some (.cells [vc,vm,rv,I f.w,.bool f.free,I f.cores,I f.slots,I f.room,I f.pol,I f.lat] 29)
 g3:G.length<=b3
 ex:Ex K 1 31 rv ws
 n3:bZ rv≠some b3
 gr:∀ i,bZ rv=some i->G.length<=i
theorem Rf {G K:AH} {b1 b3:Nat} {vc vm vs rv x:AV} {f:Con} {ws:List AV} {tm:List AV} {Z:Option (bu × St)} (hR:EvC aa C0 W0 pl7 (aQ [true,true,true,true,false,true,false,false,true,false,false] c7) (tm,K)=Z) (h:CE G K b1 b3 vc vm vs rv f ws) (hlen:tm.length=182) (t1:tm.getD 1 uA=.ptr b1 0) (t3:tm.getD 3 uA=.ptr b3 0) {j i0 k0:Nat} (t4:tm.getD 4 uA=I (j:Int)) (hix:∀ kk,aG aa 25 vs (.int kk (j:Int))=some (.ptr i0 k0)) (hrd:ak G i0 k0 1=some [x]) (hxs:x=.nilSlice∨∃ i k es l c e,x=.slice i k es l c e) (hx1:x.cells=[x]) (hx2:x.one=true) (hl:ws.length<=1000) :
   ∃ tm' K' rv',Z=some (.normal,(tm',K'))/\tm'.length=182/\(∀ i,i < 31->tm'.getD i uA=tm.getD i uA)/\CE G K' b1 b3 vc vm vs rv' f (ws++[x]):=by
 subst hR
 have r3:∀ L,ak (K++L) b3 2 1=some [rv]:=fun L=>by rw [eQ h.h3 L]; rfl
 have r1:∀ L,ak (K++L) b1 2 1=some [vs]:=fun L=>by rw [eQ (h.ag.get h.h1) L]; rfl
 have rx:∀ L,ak (K++L) i0 k0 1=some [x]:=fun L=>(h.ag.bS L).sub.rd hrd
 have hk3:(bC rv K)[b3]? =some (.cells [vc,vm,rv,I f.w,.bool f.free,I f.cores,I f.slots,I f.room,I f.pol,I f.lat] 29):=by rw [cI h.n3]; exact h.h3
 have pk1:=fun L n o=>sK (cS rv K) L n o
 have hlo:=h.ex.lenOf
 have a1:=fun L=>nS Mi (by decide) (K:=K) rfl h.ex (new:=[x]) rfl (by simp [hx2]) (il b31 (by omega)) 8 7 L
 have w1:∀ i k e n c y L,bp (bC rv K++L) b3 2 [.slice i k e n c y]=some ((bC rv K).set b3 (.cells [vc,vm,.slice i k e n c y,I f.w,.bool f.free,I f.cores,I f.slots,I f.room,I f.pol,I f.lat] 29)++L):=fun i k e n c y L=>by
   rw [gN hk3 (by simp) rfl L]; rfl
 have bs:=Xq hxs
 simp -implicitDefEqProofs only [c7,Tryz.f7,aP,hlen,t1,t3,t4,r3,r1,rx,hix,bs,pk1,a1,w1,Q8,jC,↓hx1,↓hx2,↓dn Rr,RA,List.any_toArray',List.any_toArray,List.any_cons,List.any_nil,cJ,List.size_toArray,List.replicate_succ,List.replicate_zero,r5,↓az,nck,↓cbT,↓cbF,↓ao,an,eu,sevalprocAttr,↓fK,↓fI,↓jG,↓gP,↓fJ,↓gQ,↓ez,↓fL,↓cF,↓bX,↓dj,↓gR,↓eA,↓fM,↓cH,↓cG,↓dk,↓e9,↓dK,eB,cd,ai,Nat.add_assoc,di,dJ,eC]
 refine ⟨_,_,.slice (K.length+8) 0 1 (bz rv+1) (bz rv+1) false,rfl,by simp only [ls,hlen],fun i hi=>by simp only [uo hi,Nat.reduceLeDiff],?_⟩
 have hb3:=aJ h.h3
 have hXl:((bC rv K).set b3 (.cells [vc,vm,.slice (K.length+8) 0 1 (bz rv+1) (bz rv+1) false,I f.w,.bool f.free,I f.cores,I f.slots,I f.room,I f.pol,I f.lat] 29)).length=K.length:=by rw [ar,cS]
 have hGK:=h.ag.len
 refine ⟨fun i hi=>?_,h.h1,?_,h.g3,.inr ⟨K.length+8,bz rv+1,rfl,?_,by rw [ai,hlo]; simp⟩,fun e=>?_,fun i e=>?_⟩
 · have hi3:=h.g3
   rw [aq (by rw [hXl]; omega),List.getElem?_set_ne (by omega),cI (fun e=>by have:=h.gr i e; omega)]
   exact h.ag i hi
 · rw [aq (by rw [hXl]; exact hb3),List.getElem?_set_self (by rw [cS]; exact hb3)]
 · rw [aw (by rw [hXl]; omega),hXl,Nat.add_sub_cancel_left]; rfl
 · have:=aC (show some (K.length+8)=some b3 from e); omega
 · have:=aC (show some (K.length+8)=some i from e); omega
theorem Um {G:AH} {b1 b3:Nat} {vc vm vs:AV} {f:Con} {l:List (List Itm × AV)} (hs:SlS 25 1 G vs (l.map fun p=>[p.2])) (hl:∀ p∈l,dA G p.1 p.2) (hn:l.length<=100):∀ (r:Nat) (tm:List AV) (K:AH) (rv:AV),r<=l.length->tm.length=182->tm.getD 1 uA=.ptr b1 0->tm.getD 3 uA=.ptr b3 0->tm.getD 4 uA=I ((r:Int) - 1)->CE G K b1 b3 vc vm vs rv f ((l.drop r).reverse.map (·.2)) ->
   ∃ X K' rv',EvC aa C0 W0 pl7 OP (tm,K)=some (.exit 0,(X,K'))/\X.length=182/\X.getD 1 uA=.ptr b1 0/\X.getD 3 uA=.ptr b3 0/\CE G K' b1 b3 vc vm vs rv' f (l.reverse.map (·.2)):=by
 intro r
 induction r with
 | zero =>
   intro tm K rv hr hlen t1 t3 t4 h
   have l0:leB 0 (-1)=false:=rfl
   rw [show (((0:Nat):Int) - 1)=-1 from rfl] at t4
   rw [Qp]
   simp -implicitDefEqProofs only [PF,Tryz.f7,aP,hlen,t1,t3,t4,l0,↓cbT,↓cbF,↓ao,an,eu,sevalprocAttr]
   exact ⟨_,K,rv,rfl,by simp only [ls,hlen],Aj2 (by simp only [hlen,t1,t3,gB,and_self,sevalprocAttr]) (by simpa using h)⟩
 | succ r ih =>
   intro tm K rv hr hlen t1 t3 t4 h
   rw [show (((r+1:Nat):Int) - 1)=((r:Nat):Int) by omega] at t4
   have l0:leB 0 ((r:Nat):Int)=true:=(dp _ _).2 (by omega)
   have hw:IntKind.i64.wrap (((r:Nat):Int) - 1)=((r:Int) - 1):=IntWalk.i64_in _ (by omega)
   have hrl:r < l.length:=hr
   obtain ⟨i0,k0,hix,hrd⟩:=hs.ix r [(l[r]'hrl).2] (by rw [List.getElem?_map,List.getElem?_eq_getElem hrl]; rfl)
   obtain ⟨⟨l2,_,hs2,_⟩,_⟩:=hl _ (List.getElem_mem hrl)
   have hxs:(l[r]'hrl).2=AV.nilSlice∨∃ i k es ln c e,(l[r]'hrl).2=AV.slice i k es ln c e:=hs2.old.imp (fun h=>h.1) fun ⟨i,k,c,e,h,_⟩=>⟨i,k,_,_,c,e,h⟩
   have hdr:(l.drop r).reverse.map (·.2)=(l.drop (r+1)).reverse.map (·.2)++[(l[r]'hrl).2]:=by
     rw [List.drop_eq_getElem_cons hrl,List.reverse_cons,List.map_append]; rfl
   have hll:((l.drop (r+1)).reverse.map (·.2)).length<=1000:=by
     rw [List.length_map,List.length_reverse,List.length_drop]; omega
   rw [Qp]
   simp -implicitDefEqProofs only [PF,Tryz.f7,aP,hlen,t1,t3,t4,l0,↓cbT,↓cbF,↓ao,an,eu,sevalprocAttr]
   generalize hR:EvC aa C0 W0 pl7 (Code.region _ _ _) _=Zr
   obtain ⟨t2,K1,rv1,he,x0,xlow,hR1⟩:=Rf hR h (by simp only [ls,hlen]) (by simp only [hlen,t1,gB,sevalprocAttr]) (by simp only [hlen,t3,gB,sevalprocAttr]) (by simp only [hlen,t4,gB,sevalprocAttr]) hix hrd hxs hs2.cells hs2.one hll
   subst he
   have y1:t2.getD 1 uA=.ptr b1 0:=by rw [xlow 1 (by decide)]; simp only [hlen,t1,gB,sevalprocAttr]
   have y3:t2.getD 3 uA=.ptr b3 0:=by rw [xlow 3 (by decide)]; simp only [hlen,t3,gB,sevalprocAttr]
   have y4:t2.getD 4 uA=I ((r:Nat):Int):=by rw [xlow 4 (by decide)]; simp only [hlen,t4,gB,sevalprocAttr]
   rw [<-hdr] at hR1
   simp -implicitDefEqProofs only [x0,y1,y3,y4,hw,↓cbT,↓cbF,↓ao,an,eu,sevalprocAttr]
   generalize hX:EvC aa C0 W0 pl7 _ _=Z
   have key:∀ (tm1:List AV),EvC aa C0 W0 pl7 OP (tm1,K1)=Z->tm1.length=182->tm1.getD 1 uA=.ptr b1 0->tm1.getD 3 uA=.ptr b3 0->tm1.getD 4 uA=I ((r:Int) - 1)->∃ X K' rv',Z=some (.exit 0,(X,K'))/\X.length=182/\X.getD 1 uA=.ptr b1 0/\X.getD 3 uA=.ptr b3 0/\CE G K' b1 b3 vc vm vs rv' f (l.reverse.map (·.2)):=fun tm1 hZ a b c d=>by
     rw [<-hZ]
     exact ih tm1 K1 rv1 (by omega) a b c d hR1
   exact key _ hX (by simp only [ls,x0]) (by simp only [x0,y1,gB,sevalprocAttr]) (by simp only [x0,y3,gB,sevalprocAttr]) (by simp only [x0,gB,sevalprocAttr])
theorem Rd {G:AH} {b1 b3:Nat} {vc vm vs:AV} {f:Con} {l:List (List Itm × AV)} (hs:SlS 25 1 G vs (l.map fun p=>[p.2])) (hl:∀ p∈l,dA G p.1 p.2) (hn:l.length<=100) {tm:List AV} {K:AH} {rv:AV} {Z:Option (bu × St)} (hX:EvC aa C0 W0 pl7 OP (tm,K)=Z) (hlen:tm.length=182) (t1:tm.getD 1 uA=.ptr b1 0) (t3:tm.getD 3 uA=.ptr b3 0) (t4:tm.getD 4 uA=I ((l.length:Int) - 1)) (h:CE G K b1 b3 vc vm vs rv f []) :
   ∃ X K' rv',Z=some (.exit 0,(X,K'))/\X.length=182/\X.getD 1 uA=.ptr b1 0/\X.getD 3 uA=.ptr b3 0/\CE G K' b1 b3 vc vm vs rv' f (l.reverse.map (·.2)):=by
 subst hX
 exact Um hs hl hn l.length tm K rv (ax _) hlen t1 t3 t4 (by simpa using h)
end Go.Dv
