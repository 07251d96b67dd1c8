/- Part 25 of the walks (own work). -/
import Derived.Test.YtilpjnckfkjkbaaGreatDoorU24
open Bool renaming and_eq_true→az,false_and→bd,not_eq_true'→bl,true_and→bf
open List renaming append_nil→af,drop_zero→ib,getElem?_append_right→al,getElem?_eq_getElem→aj,getElem_mem→gQ,length→ew,length_append→ai,length_cons→cR,length_nil→gH,length_set→aq,mem_iff_getElem→lY,replicate→au,take_add_one→ez,take_of_length_le→bt
open Nat renaming add_sub_cancel_left→aN,le_add_right→dI,le_refl→aw,lt_of_le_of_lt→vG,lt_or_ge→bc,lt_trans→dZ,reduceLT→aR,zero_le→aV
open Go.Proofs.Tryz renaming prog→aa
set_option maxRecDepth 100000
set_option maxHeartbeats 4000000
set_option linter.unusedSimpArgs false
set_option linter.unusedVariables false
open Go.Proofs.Tryz (f10 f26)
namespace Go.Dv
open Go.Proofs
attribute [local congr] aA bC aT bB bD
def sR (ss:List (List Itm)):Nat->Int
 | 0=>0
 | j+1=>IntKind.i64.wrap (sR ss j+((aM ss j).length:Int))
def rB (cs:List Cod) (m:List (List Int)) (xs:List Itm):Bool:=ck (fun k=>cC cs m (bo xs k)) xs.length 0
def Fw (cs:List Cod) (m:List (List Int)) (ss:List (List Itm)):Bool:=ck (fun i=>rB cs m (aM ss i)) ss.length 0
def sX (cs:List Cod) (m:List (List Int)) (ss:List (List Itm)):Bool:=!ltB ss.length 1 && !ltB 4 ss.length && !ltB 4 cs.length && !ltB 24 (sR ss ss.length) && !ltB 6 m.length && lO m
def g8 (cs:List Cod) (m:List (List Int)) (ss:List (List Itm)) (f:Con):Int:=br (vt f && wv cs) (br (sX cs m ss) (br (Fw cs m ss) 0 6) 5) 1
theorem RA {G:AH} {ss:List (List Itm)} {vc vm vs:AV} (hs:cT G ss vs) (hN:ss.length < 2 ^ 60):∀ (d j:Nat) (tm:List AV) (K:AH) (Z:Option (bk × St)),EvC aa C0 W0 plN SV (tm,K)=Z->ss.length - j=d->j<=ss.length->(tm.length=81/\an G K/\tm.getD 0 uA=vc/\tm.getD 1 uA=vm/\tm.getD 2 uA=vs/\tm.getD 24 uA=vs/\tm.getD 25 uA=I ss.length/\tm.getD 26 uA=I ((j:Nat):Int)/\tm.getD 9 uA=I (sR ss j)) ->
   ∃ X K1,Z=some (.exit 0,(X,K1))/\(X.length=81/\an G K1/\X.getD 0 uA=vc/\X.getD 1 uA=vm/\X.getD 2 uA=vs/\X.getD 24 uA=vs/\X.getD 25 uA=I ss.length/\X.getD 26 uA=I ((ss.length:Nat):Int)/\X.getD 9 uA=I (sR ss ss.length)):=by
 intro d;induction d with
 | zero =>
   intro j tm K Z hZ hd hj hI;subst hZ;have hjl:j=ss.length:=by omega
   subst hjl;have hI0:=hI;obtain ⟨hlen,hA,h0,h1,h2,h24,h25,h26,h9⟩:=hI;have hlt:ltB (((ss.length:Nat)):Int) (ss.length:Nat)=false:=cw (by omega);rw [NB];simp (maxSteps:=4000000) -implicitDefEqProofs only [GW,f26,aP,hlen,h0,h1,h2,h24,h25,h26,h9,hlt,↓zzA,zzB,sevalprocAttr];refine ⟨_,K,rfl,?_⟩;exact ⟨by first | exact hlen | simp only [aq,hlen],by first | exact hA | exact hA.bX _,by simp only [hlen,h0,h1,h2,h24,h25,h26,h9,sR,gB,and_self,sevalprocAttr]⟩
 | succ d ih =>
   intro j tm K Z hZ hd hj hI;subst hZ;have hI0:=hI;obtain ⟨hlen,hA,h0,h1,h2,h24,h25,h26,h9⟩:=hI;have hjN:j < ss.length:=by omega
   have hlt:ltB (j:Int) (ss.length:Nat)=true:=cu (by omega);have hw:=b6 (j:=j) (by omega);obtain ⟨i0,k0,w0,hix0,hrd0,hxs⟩:=hs.at hA hjN;have hln:=hxs.len;rw [NB];rw [<-af K];simp (maxSteps:=4000000) -implicitDefEqProofs only [GW,f26,aP,hlen,h0,h1,h2,h24,h25,h26,h9,hlt,hw,hix0,hrd0,hln,↓zzC,zzD,sevalprocAttr];generalize hX:EvC aa C0 W0 _ _ _=Z;refine ih (j+1) _ _ _ hX (by omega) (by omega) ?_;exact ⟨by first | exact hlen | simp only [aq,hlen],by first | exact hA | exact hA.bX _,by simp only [hlen,h0,h1,h2,h24,h25,h26,h9,sR,gB,and_self,sevalprocAttr]⟩
theorem Oe {G:AH} {cs:List Cod} {m:List (List Int)} {ss:List (List Itm)} {vc vm vs:AV} {xs:List Itm} {w0:AV} {i:Nat} (hc:dy G cs vc) (hm:eo G m vm) (hs:cT G ss vs) (hx:eD G xs w0) (hN:xs.length < 2 ^ 60):∀ (d j:Nat) (tm:List AV) (K:AH) (Z:Option (bk × St)),EvC aa C0 W0 plN SU (tm,K)=Z->xs.length - j=d->j<=xs.length->an G K->tm.length=81->tm.getD 0 uA=vc->tm.getD 1 uA=vm->tm.getD 2 uA=vs->tm.getD 62 uA=vs->tm.getD 63 uA=I ss.length->tm.getD 64 uA=I ((i:Nat):Int)->tm.getD 68 uA=w0->tm.getD 69 uA=I xs.length->tm.getD 70 uA=I ((j:Nat):Int) ->
   ∃ X Y K1 K2,Z=br (ck (fun j=>cC cs m (bo xs j)) (xs.length) (j)) (some (.exit 4,(X,K1))) (some (.ret,(Y,K2)))/\(X.length=81/\an G K1/\X.getD 0 uA=vc/\X.getD 1 uA=vm/\X.getD 2 uA=vs/\X.getD 62 uA=vs/\X.getD 63 uA=I ss.length/\X.getD 64 uA=I ((i:Nat):Int)/\X.getD 68 uA=w0/\X.getD 69 uA=I xs.length)/\Y.length=81/\Y.getD 8 uA=I 6:=by
 intro d;induction d with
 | zero =>
   intro j tm K Z hZ hd hj hA hlen h0 h1 h2 h62 h63 h64 h68 h69 h70;subst hZ;have hjl:j=xs.length:=by omega
   subst hjl;have hlt:ltB (((xs.length:Nat)):Int) (xs.length:Nat)=false:=cw (by omega);rw [dk (aw _),NA];simp (maxSteps:=4000000) -implicitDefEqProofs only [DG,f26,aP,hlen,h0,h1,h2,h62,h63,h64,h68,h69,h70,hlt,↓zzA,zzB,sevalprocAttr];exact ⟨_,tm.set 8 (I 6),_,K,rfl,⟨by first | exact hlen | simp only [aq,hlen],hA,by first | exact h0 | simp only [hlen,h0,gB,sevalprocAttr],by first | exact h1 | simp only [hlen,h1,gB,sevalprocAttr],by first | exact h2 | simp only [hlen,h2,gB,sevalprocAttr],by first | exact h62 | simp only [hlen,h62,gB,sevalprocAttr],by first | exact h63 | simp only [hlen,h63,gB,sevalprocAttr],by first | exact h64 | simp only [hlen,h64,gB,sevalprocAttr],by first | exact h68 | simp only [hlen,h68,gB,sevalprocAttr],by first | exact h69 | simp only [hlen,h69,gB,sevalprocAttr]⟩,by simp only [ls,hlen],by simp only [hlen,dK,aR]⟩
 | succ d ih =>
   intro j tm K Z hZ hd hj hA hlen h0 h1 h2 h62 h63 h64 h68 h69 h70;subst hZ;have hjN:j < xs.length:=by omega
   have hlt:ltB (j:Int) (xs.length:Nat)=true:=cu (by omega);have hw:=b6 (j:=j) (by omega);obtain ⟨i1,k1,w1,hix1,hrd1,ha1⟩:=hx.at hA hjN;have he62:=fun L=>aes (hc.aZ (hA.bX L)) (hm.aZ (hA.bX L)) (ha1.same (hA.bX L)) (hx.im _ (fA hjN));simp only [aJ] at hrd1 he62;have hac:=ha1.cells;have hao:=ha1.one;rw [cK hjN,NA];rw [<-af K];cases hp:(cC cs m (bo xs j)) with
   | true =>simp only [bf];simp (maxSteps:=4000000) -implicitDefEqProofs only [DG,f26,aP,hlen,h0,h1,h2,h62,h63,h64,h68,h69,h70,hlt,hw,hix1,hrd1,↓hac,↓hao,fB,ed,↓ZJ,he62,hp,↓zzC,zzD,sevalprocAttr];exact ih (j+1) _ _ _ rfl (by omega) (by omega) (by first | exact hA | exact hA.bX _ | exact (hA.bX _).bX _) (by simp only [ls,hlen]) (by simp only [hlen,h0,gB,sevalprocAttr]) (by simp only [hlen,h1,gB,sevalprocAttr]) (by simp only [hlen,h2,gB,sevalprocAttr]) (by simp only [hlen,h62,gB,sevalprocAttr]) (by simp only [hlen,h63,gB,sevalprocAttr]) (by simp only [hlen,h64,gB,sevalprocAttr]) (by simp only [hlen,h68,gB,sevalprocAttr]) (by simp only [hlen,h69,gB,sevalprocAttr]) (by simp only [hlen,h70,gB,sevalprocAttr])
   | false =>simp only [bd];simp (maxSteps:=4000000) -implicitDefEqProofs only [DG,f26,aP,hlen,h0,h1,h2,h62,h63,h64,h68,h69,h70,hlt,hw,hix1,hrd1,↓hac,↓hao,fB,ed,↓ZJ,he62,hp,↓zzC,zzD,sevalprocAttr];exact ⟨tm,_,K,_,rfl,⟨hlen,hA,h0,h1,h2,h62,h63,h64,h68,h69⟩,by simp only [ls,hlen],by simp only [hlen,gB,sevalprocAttr]⟩
theorem RB {G:AH} {cs:List Cod} {m:List (List Int)} {ss:List (List Itm)} {vc vm vs:AV} (hc:dy G cs vc) (hm:eo G m vm) (hs:cT G ss vs) (hN:ss.length < 2 ^ 60):∀ (d j:Nat) (tm:List AV) (K:AH) (Z:Option (bk × St)),EvC aa C0 W0 plN SS (tm,K)=Z->ss.length - j=d->j<=ss.length->(tm.length=81/\an G K/\tm.getD 0 uA=vc/\tm.getD 1 uA=vm/\tm.getD 2 uA=vs/\tm.getD 62 uA=vs/\tm.getD 63 uA=I ss.length/\tm.getD 64 uA=I ((j:Nat):Int)) ->
   ∃ X K1 Y K2,Z=br (ck (fun j=>rB cs m (aM ss j)) (ss.length) (j)) (some (.exit 2,(X,K1))) (some (.ret,(Y,K2)))/\(ck (fun j=>rB cs m (aM ss j)) (ss.length) (j)=true->X.length=81/\an G K1/\X.getD 0 uA=vc/\X.getD 1 uA=vm/\X.getD 2 uA=vs/\X.getD 62 uA=vs/\X.getD 63 uA=I ss.length/\X.getD 64 uA=I ((ss.length:Nat):Int))/\Y.length=81/\Y.getD 8 uA=I 6:=by
 intro d;induction d with
 | zero =>
   intro j tm K Z hZ hd hj hI;subst hZ;have hjl:j=ss.length:=by omega
   subst hjl;have hI0:=hI;obtain ⟨hlen,hA,h0,h1,h2,h62,h63,h64⟩:=hI;have hlt:ltB (((ss.length:Nat)):Int) (ss.length:Nat)=false:=cw (by omega);rw [dk (aw _)];rw [Nz];simp (maxSteps:=4000000) -implicitDefEqProofs only [DF,f26,aP,hlen,h0,h1,h2,h62,h63,h64,hlt,↓zzA,zzB,sevalprocAttr];refine ⟨_,K,tm.set 8 (I 6),K,rfl,?_,by simp only [ls,hlen],by simp only [hlen,dK,aR]⟩;try intro _
   exact ⟨by first | exact hlen | simp only [aq,hlen],hA,by simp only [hlen,h0,h1,h2,h62,h63,h64,gB,and_self,sevalprocAttr]⟩
 | succ d ih =>
   intro j tm K Z hZ hd hj hI;subst hZ;have hI0:=hI;obtain ⟨hlen,hA,h0,h1,h2,h62,h63,h64⟩:=hI;have hjN:j < ss.length:=by omega
   have hlt:ltB (j:Int) (ss.length:Nat)=true:=cu (by omega);have hw:=b6 (j:=j) (by omega);obtain ⟨i0,k0,w0,hix0,hrd0,hxs⟩:=hs.at hA hjN;have hln:=hxs.len;rw [cK hjN];rw [Nz];rw [<-af K];cases hp:(rB cs m (aM ss j)) with
   | true =>unfold rB at hp;simp only [bf];simp (maxSteps:=4000000) -implicitDefEqProofs only [DF,f26,aP,hlen,h0,h1,h2,h62,h63,h64,hlt,hw,hix0,hrd0,hln,↓zzC,zzD,sevalprocAttr];generalize hX:EvC aa C0 W0 _ (Code.loop _) _=Z;obtain ⟨X,Y,K1,K2,he,xs,y0,y1⟩:=Oe (i:=j) hc hm hs hxs (dZ hxs.n (by decide)) _ 0 _ _ _ hX rfl (aV _) (hA.bX _) (by simp only [ls,hlen,h0,h1,h2,h62,h63,h64]) (by simp only [hlen,h0,h1,h2,h62,h63,h64,h0,gB,sevalprocAttr]; try rfl) (by simp only [hlen,h0,h1,h2,h62,h63,h64,h1,gB,sevalprocAttr]; try rfl) (by simp only [hlen,h0,h1,h2,h62,h63,h64,h2,gB,sevalprocAttr]; try rfl) (by simp only [hlen,h0,h1,h2,h62,h63,h64,h62,gB,sevalprocAttr]; try rfl) (by simp only [hlen,h0,h1,h2,h62,h63,h64,h63,gB,sevalprocAttr]; try rfl) (by simp only [hlen,h0,h1,h2,h62,h63,h64,h64,gB,sevalprocAttr]; try rfl) (by simp only [hlen,h0,h1,h2,h62,h63,h64,gB,sevalprocAttr]; try rfl) (by simp only [hlen,h0,h1,h2,h62,h63,h64,gB,sevalprocAttr]; try rfl) (by simp only [hlen,h0,h1,h2,h62,h63,h64,gB,sevalprocAttr]; try rfl);subst he;simp (maxSteps:=4000000) -implicitDefEqProofs only [hp,xs.1,xs.2.2.1,xs.2.2.2.1,xs.2.2.2.2.1,xs.2.2.2.2.2.1,xs.2.2.2.2.2.2.1,xs.2.2.2.2.2.2.2.1,hw,↓zzA,zzB,sevalprocAttr];generalize hX:EvC aa C0 W0 _ _ _=Z;refine ih (j+1) _ _ _ hX (by omega) (by omega) ?_;exact ⟨by simp only [ls,xs.1],by first | exact xs.2.1,by simp only [xs.1,xs.2.2.1,xs.2.2.2.1,xs.2.2.2.2.1,xs.2.2.2.2.2.1,xs.2.2.2.2.2.2.1,xs.2.2.2.2.2.2.2.1,gB,and_self,sevalprocAttr]⟩
   | false =>simp only [bd];unfold rB at hp;simp (maxSteps:=4000000) -implicitDefEqProofs only [DF,f26,aP,hlen,h0,h1,h2,h62,h63,h64,hlt,hw,hix0,hrd0,hln,↓zzC,zzD,sevalprocAttr];generalize hX:EvC aa C0 W0 _ (Code.loop _) _=Z;obtain ⟨X,Y,K1,K2,he,xs,y0,y1⟩:=Oe (i:=j) hc hm hs hxs (dZ hxs.n (by decide)) _ 0 _ _ _ hX rfl (aV _) (hA.bX _) (by simp only [ls,hlen,h0,h1,h2,h62,h63,h64]) (by simp only [hlen,h0,h1,h2,h62,h63,h64,h0,gB,sevalprocAttr]; try rfl) (by simp only [hlen,h0,h1,h2,h62,h63,h64,h1,gB,sevalprocAttr]; try rfl) (by simp only [hlen,h0,h1,h2,h62,h63,h64,h2,gB,sevalprocAttr]; try rfl) (by simp only [hlen,h0,h1,h2,h62,h63,h64,h62,gB,sevalprocAttr]; try rfl) (by simp only [hlen,h0,h1,h2,h62,h63,h64,h63,gB,sevalprocAttr]; try rfl) (by simp only [hlen,h0,h1,h2,h62,h63,h64,h64,gB,sevalprocAttr]; try rfl) (by simp only [hlen,h0,h1,h2,h62,h63,h64,gB,sevalprocAttr]; try rfl) (by simp only [hlen,h0,h1,h2,h62,h63,h64,gB,sevalprocAttr]; try rfl) (by simp only [hlen,h0,h1,h2,h62,h63,h64,gB,sevalprocAttr]; try rfl);subst he;simp (maxSteps:=4000000) -implicitDefEqProofs only [hp,y0,y1,↓zzA,zzB,sevalprocAttr];exact ⟨tm,K,Y,_,rfl,by first | exact trivial | (intro h; cases h),y0,y1⟩
theorem V3 {H:AH} {cs:List Cod} {m:List (List Int)} {ss:List (List Itm)} {vc vm vs:AV} (hc:dy H cs vc) (hm:eo H m vm) (hs:cT H ss vs) (f:Con):Ev aa C0 W0 26 [vc,vm,vs,.agg (fx f)] H=some (I (g8 cs m ss f),H):=by
 obtain ⟨tm,ht,g0,g1,g2,g3,g4⟩:=tm4 vc vm vs (.agg (fx f)) 81 (by decide);rw [adn,ht];rw [<-af (ro H)];have h56:=fun G=>aey f G;simp only [fx] at h56;have h57:=fun L=>aex (hc.ro.aZ (an.app (ro H) L));have hlc:=hc.len;have hlm:=hm.len;have hls:=hs.len;unfold g8;cases c0:vt f with
 | false =>simp (maxSteps:=4000000) -implicitDefEqProofs only [c26,f26,aP,g0,g1,g2,g3,g4,fx,↓VS,h56,c0,↓zzC,zzD,sevalprocAttr]
 | true =>
   cases c1:wv cs with
   | false =>simp (maxSteps:=4000000) -implicitDefEqProofs only [c26,f26,aP,g0,g1,g2,g3,g4,fx,↓VS,h56,c0,↓ZK,show ∀ gl tm,cY gl tm (.func 58)=some (.func (.func 58) [] []) from fun _ _=>rfl,h57,c1,↓zzC,zzD,sevalprocAttr]
   | true =>
     simp (maxSteps:=4000000) -implicitDefEqProofs only [c26,f26,aP,g0,g1,g2,g3,g4,fx,↓VS,h56,c0,↓ZK,show ∀ gl tm,cY gl tm (.func 58)=some (.func (.func 58) [] []) from fun _ _=>rfl,h57,c1,hls,↓zzC,zzD,sevalprocAttr];generalize hX:EvC aa C0 W0 _ (Code.loop _) _=Z;obtain ⟨X,K1,he1,i0,iA,i1,i2,i3,i4,i5,i6,i9⟩:=RA (vc:=vc) (vm:=vm) hs.ro (dZ hs.n (by decide)) _ 0 _ _ _ hX rfl (aV _) ⟨by simp only [ls,g0],an.app _ _,Aj5 (by simp only [g0,g1,g2,g3,gB,and_self,sevalprocAttr]) ⟨by simp only [g0,gB,sevalprocAttr]; try rfl,by simp only [g0,gB,sevalprocAttr]; try rfl⟩⟩;subst he1;have h60:=aeu (hm.ro.aZ iA);unfold sX;cases q0:ltB (ss.length:Int) 1 with
     | true =>simp (maxSteps:=4000000) -implicitDefEqProofs only [aP,i0,i1,i2,i3,i9,↓E6,show ∀ gl tm,cY gl tm (.func 61)=some (.func (.func 61) [] []) from fun _ _=>rfl,h60,hls,hlc,hlm,q0,↓zzC,zzD,sevalprocAttr]
     | false =>
       cases q1:ltB 4 (ss.length:Int) with
       | true =>simp (maxSteps:=4000000) -implicitDefEqProofs only [aP,i0,i1,i2,i3,i9,↓E6,show ∀ gl tm,cY gl tm (.func 61)=some (.func (.func 61) [] []) from fun _ _=>rfl,h60,hls,hlc,hlm,q0,q1,↓zzC,zzD,sevalprocAttr]
       | false =>
         cases q2:ltB 4 (cs.length:Int) with
         | true =>simp (maxSteps:=4000000) -implicitDefEqProofs only [aP,i0,i1,i2,i3,i9,↓E6,show ∀ gl tm,cY gl tm (.func 61)=some (.func (.func 61) [] []) from fun _ _=>rfl,h60,hls,hlc,hlm,q0,q1,q2,↓zzC,zzD,sevalprocAttr]
         | false =>
           cases q3:ltB 24 (sR ss ss.length) with
           | true =>simp (maxSteps:=4000000) -implicitDefEqProofs only [aP,i0,i1,i2,i3,i9,↓E6,show ∀ gl tm,cY gl tm (.func 61)=some (.func (.func 61) [] []) from fun _ _=>rfl,h60,hls,hlc,hlm,q0,q1,q2,q3,↓zzC,zzD,sevalprocAttr]
           | false =>
             cases q4:ltB 6 (m.length:Int) with
             | true =>simp (maxSteps:=4000000) -implicitDefEqProofs only [aP,i0,i1,i2,i3,i9,↓E6,show ∀ gl tm,cY gl tm (.func 61)=some (.func (.func 61) [] []) from fun _ _=>rfl,h60,hls,hlc,hlm,q0,q1,q2,q3,q4,↓zzC,zzD,sevalprocAttr]
             | false =>
               cases q5:lO m with
               | false =>simp (maxSteps:=4000000) -implicitDefEqProofs only [aP,i0,i1,i2,i3,i9,↓E6,show ∀ gl tm,cY gl tm (.func 61)=some (.func (.func 61) [] []) from fun _ _=>rfl,h60,hls,hlc,hlm,q0,q1,q2,q3,q4,q5,↓zzC,zzD,sevalprocAttr]
               | true =>
                 simp (maxSteps:=4000000) -implicitDefEqProofs only [aP,i0,i1,i2,i3,i9,↓E6,show ∀ gl tm,cY gl tm (.func 61)=some (.func (.func 61) [] []) from fun _ _=>rfl,h60,hls,hlc,hlm,q0,q1,q2,q3,q4,q5,↓zzC,zzD,sevalprocAttr];generalize hX2:EvC aa C0 W0 _ (Code.loop _) _=Z2;obtain ⟨X2,K2,Y2,L2,he2,hi2,y0,y1⟩:=RB hc.ro hm.ro hs.ro (dZ hs.n (by decide)) _ 0 _ _ _ hX2 rfl (aV _) ⟨by simp only [ls,i0],iA,Aj5 (by simp only [i0,i1,i2,i3,gB,and_self,sevalprocAttr]) (by simp only [i0,gB,sevalprocAttr]; try rfl)⟩;subst he2;unfold Fw;cases hf:ck (fun i=>rB cs m (aM ss i)) ss.length 0 with
                 | false=>simp (maxSteps:=4000000) -implicitDefEqProofs only [y0,y1,hf,↓zzA,zzB,sevalprocAttr]
                 | true =>obtain ⟨j0,_⟩:=hi2 hf;simp (maxSteps:=4000000) -implicitDefEqProofs only [aP,j0,hf,↓zzA,zzB,sevalprocAttr]
structure Good (cs:List Cod) (m:List (List Int)) (ss:List (List Itm)) (f:Con):Prop where
 cf:vt f=true
 nc:cs.length<=4
 n1:1<=ss.length
 n4:ss.length<=4
 few:(ss.map ew).sum<=24
 nm:m.length<=6
 nb:∀ b∈m,b.length<=256
 cod:∀ c∈cs,c.params.length<=6/\c.shared.length<=4/\c.insns.length<=2000
 it:∀ l∈ss,∀ x∈l,cC cs m x=true
theorem zr (l:List Nat) (j:Nat):(l.take (j+1)).sum=(l.take j).sum+l.getD j 0:=by rw [ez,List.sum_append,gde];cases l[j]? <;> simp
theorem AQ {ss:List (List Itm)} (hl:∀ l∈ss,l.length < 2 ^ 50):∀ j,j<=ss.length->j<=4->sR ss j=(((ss.map ew).take j).sum:Nat)/\((ss.map ew).take j).sum<=j * 2 ^ 50
 | 0,_,_=>⟨rfl,by simp⟩
 | j+1,h,h4=>by
   obtain ⟨h1,h2⟩:=AQ hl j (by omega) (by omega)
   have hj:j < ss.length:=h
   have hg:(ss.map ew).getD j 0=(aM ss j).length:=by
     unfold aM
     rw [gde,List.getElem?_map,gde,aj hj]; rfl
   have hb:=hl _ (gG hj)
   rw [zr,hg]
   refine ⟨?_,by omega⟩
   rw [sR,h1,pw (by omega)]; omega
theorem mT:∀ (l:List Nat) (n:Nat),n∈l->n<=l.sum
 | x::l,n,h=>by
   rw [List.sum_cons]
   rcases List.mem_cons.1 h with e | e
   · omega
   · have:=mT l n e; omega
theorem tk {α:Type} {l:List α} {d:α} {p:α->Bool} (h:ck (fun j=>p (l.getD j d)) l.length 0=true):∀ x∈l,p x=true:=by rw [gz] at h;intro x hx;obtain ⟨j,hj,e⟩:=lY.1 hx;have:=h j hj;rw [gde,aj hj] at this;rw [<-e]; exact this
theorem tI {cs:List Cod} {m:List (List Int)} {ss:List (List Itm)} {f:Con} (hl:∀ l∈ss,l.length < 2 ^ 50) (h:g8 cs m ss f=0):Good cs m ss f:=by
 unfold g8 at h;cases h0:vt f && wv cs with
 | false=>rw [h0] at h; cases h
 | true =>
   rw [h0] at h;cases h1:sX cs m ss with
   | false=>rw [h1] at h; cases h
   | true =>
     rw [h1] at h;cases h2:Fw cs m ss with
     | false=>rw [h2] at h; cases h
     | true =>
       rw [az] at h0;unfold sX at h1;simp only [az,bl,fZ] at h1;obtain ⟨⟨⟨⟨⟨a1,a2⟩,a3⟩,a4⟩,a5⟩,a6⟩:=h1;have hn4:ss.length<=4:=by omega
       obtain ⟨s1,_⟩:=AQ hl ss.length (aw _) hn4;rw [s1,bt (by rw [List.length_map]; exact aw _)] at a4;refine ⟨h0.1,by omega,by omega,hn4,by omega,by omega,fun b hb=>?_,fun c hc=>?_,fun l hl x hx=>?_⟩
       · unfold lO bV at a6;have:=tk (l:=m) (d:=[]) (p:=fun b=>!ltB 256 ((b:List Int).length:Int)) a6 b hb;simp only [bl,fZ] at this;omega
       · have h02:=h0.2;unfold wv dj at h02;have:=tk (l:=cs) (d:=⟨eS,[],[],0,[]⟩) (p:=jQ) h02 c hc;unfold jQ Ad at this;simp only [az,bl,fZ] at this;omega
       · unfold Fw aM at h2;have:=tk (l:=ss) (d:=[]) (p:=fun l=>rB cs m l) h2 l hl;unfold rB bo at this;exact tk (l:=l) (d:=⟨0,0,0,0,0,0,0,[],0⟩) (p:=fun x=>cC cs m x) this x hx
theorem B9 {cs:List Cod} {m:List (List Int)} {x:Itm} (hc:∀ c∈cs,c.params.length<=6) (h:cC cs m x=true):x.args.length<=6:=by
 unfold cC at h;cases k0:eqB x.kind 0 with
 | true =>
   rw [k0,d7] at h;simp only [az,dC,dB] at h;obtain ⟨⟨⟨h1,h2⟩,h3⟩,_⟩:=h;have hm:dj cs x.code.toNat∈cs:=by
     have hlt:x.code.toNat < cs.length:=by omega
     unfold dj;rw [d6 hlt];exact gQ _
   have hp:=hc _ hm;unfold pq vW pN at h3;simp only [az,cP] at h3;omega
 | false =>
   rw [k0,cM] at h;cases k1:eqB x.kind 1 with
   | true =>rw [k1,d7] at h;simp only [az,cP] at h;omega
   | false =>
     rw [k1,cM] at h;cases k2:eqB x.kind 2 with
     | true =>rw [k2,d7] at h;simp only [az,cP] at h;omega
     | false =>
       rw [k2,cM] at h;cases k3:(eqB x.kind 3 || eqB x.kind 4) with
       | true =>rw [k3,d7] at h;simp only [az,cP] at h;omega
       | false=>rw [k3,cM] at h; cases h
theorem uH {cs:List Cod} {m:List (List Int)} {x:Itm} (h:cC cs m x=true) (hk:x.kind=3∨x.kind=4):0<=x.ev/\x.ev < 16:=by
 have e0:eqB x.kind 0=false:=fR (by omega);have e1:eqB x.kind 1=false:=fR (by omega);have e2:eqB x.kind 2=false:=fR (by omega);have e3:(eqB x.kind 3 || eqB x.kind 4)=true:=by rw [Bool.or_eq_true,cP,cP]; exact hk
 unfold cC at h;rw [e0,e1,e2,e3,cM,cM,cM,d7] at h;simp only [az,dC,dB] at h;omega
theorem Good.args {cs:List Cod} {m:List (List Int)} {ss:List (List Itm)} {f:Con} (h:Good cs m ss f):∀ l∈ss,∀ x∈l,x.args.length<=6:=fun l hl x hx=>B9 (fun c hc=>(h.cod c hc).1) (h.it l hl x hx)
theorem Good.ev {cs:List Cod} {m:List (List Int)} {ss:List (List Itm)} {f:Con} (h:Good cs m ss f):sG ss:=fun l hl x hx hk=>uH (h.it l hl x hx) hk
theorem Good.len {cs:List Cod} {m:List (List Int)} {ss:List (List Itm)} {f:Con} (h:Good cs m ss f):∀ l∈ss,l.length<=24:=fun l hl=>by
 have:=mT _ _ (List.mem_map_of_mem (f:=ew) hl)
 have:=h.few
 omega
structure fP (S K:AH) (q a:Nat) (ws:List AV) (vc vm vs:AV) (f:Con) (cs:List Cod) (ss:List (List Itm)) (ad:List Nat) (m:List (List Int)) (rc:List Bool):Prop where
 sub:Sub S K
 gq:lL S q
 ga:lL S a
 gw:∀ w∈ws,∀ b,cF w=some b->lL S b
 qa:q≠a
 qw:∀ w∈ws,cF w≠some q/\cF w≠some a
 ww:∀ i j b,i < ws.length->j < ws.length->cF (ws.getD i uA)=some b->cF (ws.getD j uA)=some b->i=j
 kq:K[q]? =some (.cells (lP vc vm vs (.slice a 0 1 ad.length ad.length true) f rc 0) 71)
 ka:K[a]? =some (.cells (ad.map fun (n:Nat)=>I (n:Int)) 3)
 c:dy S cs vc
 s:cT S ss vs
 sm:SlS 24 1 S vm (ws.map fun w=>[w])
 lw:ws.length=m.length
 own:∀ i,i < m.length->Own 0 K 1 21 (ws.getD i uA) (ju (bV m i))
 la:ad.length=ss.length
 le:∀ i,i < ss.length->ad.getD i 0<=(aM ss i).length
 lr:rc.length=16
 ev:sG ss
 few:(ss.map ew).sum<=24
 fs:ss.length<=4
 nm:m.length<=6
 nb:∀ b∈m,b.length<=256
 im:∀ b∈m,∀ x∈b,fk x
theorem fP.abX {S K:AH} {q a:Nat} {ws:List AV} {vc vm vs:AV} {f:Con} {cs:List Cod} {ss:List (List Itm)} {ad:List Nat} {m:List (List Int)} {rc:List Bool} (h:fP S K q a ws vc vm vs f cs ss ad m rc):eo K m vm:=by
 refine ⟨⟨List.zip m ws,?_,?_,?_⟩,vG h.nm (by decide),fun b hb=>vG (h.nb b hb) (by decide),h.im⟩
 · rw [List.map_fst_zip (by rw [h.lw]; exact aw _)]
 · rw [show (fun p:List Int × AV=>[p.2])=(fun w=>[w]) ∘ Prod.snd from rfl,<-List.map_map,List.map_snd_zip (by rw [h.lw]; exact aw _)];exact h.sm.sub h.sub
 · intro p hp;obtain ⟨i,hi,hpe⟩:=lY.1 hp;have hi':=hi;rw [List.length_zip] at hi';have h1:i < m.length:=by omega
   have h2:i < ws.length:=by omega
   have:=(h.own i h1).s32;rw [<-hpe,List.getElem_zip];rw [show bV m i=m[i] from d6 h1 _,show ws.getD i uA=ws[i] from d6 h2 _] at this;exact this
theorem fP.view {S K:AH} {q a:Nat} {ws:List AV} {vc vm vs:AV} {f:Con} {cs:List Cod} {ss:List (List Itm)} {ad:List Nat} {m:List (List Int)} {rc:List Bool} (h:fP S K q a ws vc vm vs f cs ss ad m rc):m6 K q vc vm vs (.slice a 0 1 ad.length ad.length true) f ss ad m rc 0 where
 row:=by
   unfold ak
   rw [h.kq]
   simp only
   rw [if_pos (by rw [nW _ _ _ _ _ h.lr]; decide),ib,bt (by rw [nW _ _ _ _ _ h.lr]; exact aw _)]
 m:=h.abX
 s:=h.s.sub h.sub
 a:=by
   have:=mI (T:=30) (es:=1) vV (H:=K) (i:=a) (k:=0) (c:=ad.length) (e:=true) (rows:=ints ad) (ot ad) (by unfold okC; rw [h.ka]) (by
     unfold ak
     rw [h.ka]
     simp only
     rw [if_pos (by simp [ints]),ib,bt (by simp [ints]),mu])
   have e:(ints ad).length=ad.length:=by simp [ints]
   rw [e] at this
   exact this
 la:=h.la
 le:=h.le
 lr:=h.lr
 ev:=h.ev
 nn:=⟨_,_,_,_,rfl⟩
 few:=h.few
 fs:=h.fs
theorem fP.grow {S K K':AH} {q a:Nat} {ws:List AV} {vc vm vs:AV} {f:Con} {cs:List Cod} {ss:List (List Itm)} {ad:List Nat} {m:List (List Int)} {rc:List Bool} (h:fP S K q a ws vc vm vs f cs ss ad m rc) (hA:an K K'):fP S K' q a ws vc vm vs f cs ss ad m rc:=
 { h with sub:=h.sub.aZ hA,kq:=hA.get h.kq,ka:=hA.get h.ka,own:=fun i hi=>(h.own i hi).aZ hA }
theorem eF {α:Type} {l:List α} {i:Nat} (h:i < l.length) (d:α):l.getD i d∈l:=by rw [gde,aj h]; exact gQ _
theorem Kj {H:AH} {rows:List (List AV)} {l:List (List Int × AV)} {n:Nat} {vc vm vs:AV} (f:Con) (h27:∀ L,Ev aa C0 W0 27 [vc] (H++L)=some (bu 5 rows.length vc (H.length+L.length),H++(L++bq 66 vc rows.flatten))) (h28:∀ L,Ev aa C0 W0 28 [vm] (H++L)=some (.slice (H.length+L.length) 0 1 l.length l.length true,H++(L++(.cells (du (H.length+L.length) l).1 32::(du (H.length+L.length) l).2))))
   (hls:∀ G,d4 aa 25 G vs=some (I n)) (hn:n<=4) {tm:List AV} {R:Option (bk × St)} (hR:EvC aa C0 W0 pU (aH [true,true,false] (f10.body.getD .skip)) (tm,H++[.cells [I f.w,.bool f.free,I f.cores,I f.slots,I f.room,I f.pol,I f.lat] 27])=R) (hlen:tm.length=100) (h0:tm.getD 0 uA=vc) (h1:tm.getD 1 uA=vm) (h2:tm.getD 2 uA=vs) (h7:tm.getD 7 uA=.ptr H.length 0) :
   ∃ tm',R=some (.normal,(tm',uQ H rows l n vc f))/\tm'.length=100/\tm'.getD 2 uA=vs/\tm'.getD 11 uA=.ptr (H.length+10) 0:=by subst hR;exact PF f h27 h28 hls hn hlen h0 h1 h2 h7
theorem Fk {n:Nat} {v:AV} {b:Nat} (hv:v=.nilSlice->n=0) (G:AH):d4 aa 22 G (bu 5 n v b)=some (I n):=by
 by_cases h:v=.nilSlice
 · rw [hv h,h]; exact Si G
 · have hc:bu 5 n v b=if n=0 then .slice b 0 5 0 0 true else .slice (b+1) 0 5 n n false:=by
     cases v <;> first | rfl | exact absurd rfl h
   rw [hc]
   by_cases h0:n=0
   · rw [if_pos h0,h0]; exact Vz _ _ _ _ _ _ _
   · rw [if_neg h0]; exact Vz _ _ _ _ _ _ _
theorem qL (N:Nat) (l:List (List Int × AV)) {i j:Nat} (h:i<=j):(du N (l.take i)).2.length<=(du N (l.take j)).2.length:=by
 induction j with
 | zero=>rw [Nat.le_zero.1 h]; exact aw _
 | succ j ih =>
   rcases bc i (j+1) with c | c
   · refine Nat.le_trans (ih (by omega)) ?_;rcases bc j l.length with hj | hj
     · rw [ez,aj hj,show (l.take j++(some l[j]).toList)=l.take j++[l[j]] from rfl,uR];show _<=((du N (l.take j)).2++_).length;rw [ai]; exact dI _ _
     · rw [bt hj,bt (Nat.le_succ_of_le hj)]; exact aw _
   · rw [show i=j+1 by omega]; exact aw _
structure DW (H K:AH) (rows:List (List AV)) (l:List (List Int × AV)) (n:Nat) (vc:AV) (f:Con) (N c:Nat) (ws:List AV):Prop where
 ag:an H K
 len:N+1+(du N l).2.length=K.length
 eN:N=H.length+((bq 66 vc rows.flatten).length+12)
 kq:K[H.length+10]? =some (.cells (lP (bu 5 rows.length vc (H.length+12)) (.slice N 0 1 l.length l.length true) .nilSlice (.slice (H.length+8) 0 1 n n true) f rc0 0) 71)
 ka:K[H.length+8]? =some (.cells (au n (I 0)) 3)
 kN:K[N]? =some (.cells ws 32)
 ws_:ws=(du N l).1
 hh:∃ HH:AH,HH.length=N+1/\K=HH++(du N l).2
 c0:H.length<=c
 cl:c < N
 cq:H.length+10≠c
 ca:H.length+8≠c
 kc:rows≠[]->c=H.length+13/\K[c]? =some (.cells rows.flatten 66)
 ce:rows=[]->c=H.length/\(bu 5 rows.length vc (H.length+12)=.nilSlice∨(bu 5 rows.length vc (H.length+12)=.slice (H.length+12) 0 5 0 0 true/\H.length+12 < N/\K[H.length+12]? =some (.cells [] 66)))
theorem ET {H:AH} {rows:List (List AV)} {l:List (List Int × AV)} {n:Nat} {vc:AV} {f:Con} (hr:∀ r∈rows,r.length=5) (hv:vc=.nilSlice->rows=[]) :
   ∃ N c ws,DW H (uQ H rows l n vc f) rows l n vc f N c ws:=by
 have hg:∀ i,(uQ H rows l n vc f)[H.length+i]? =(([.cells [I f.w,.bool f.free,I f.cores,I f.slots,I f.room,I f.pol,I f.lat] 27,.fresh,.fresh,.fresh,.fresh,.fresh,.fresh,.fresh,.cells (au n (I 0)) 3,.fresh,
   .cells (lP (bu 5 rows.length vc (H.length+12)) (.slice (H.length+((bq 66 vc rows.flatten).length+12)) 0 1 l.length l.length true) .nilSlice (.slice (H.length+8) 0 1 n n true) f (au 16 false) 0) 71,.fresh]:AH) ++
   (bq 66 vc rows.flatten++(.cells (du (H.length+((bq 66 vc rows.flatten).length+12)) l).1 32::(du (H.length+((bq 66 vc rows.flatten).length+12)) l).2)))[i]?:=fun i=>by
   unfold uQ
   rw [al (dI _ _),aN]
 have hgL:∀ i,(uQ H rows l n vc f)[H.length+(12+i)]? =((bq 66 vc rows.flatten++(.cells (du (H.length+((bq 66 vc rows.flatten).length+12)) l).1 32::(du (H.length+((bq 66 vc rows.flatten).length+12)) l).2)):AH)[i]?:=fun i=>by rw [hg,al (by show 12<=12+i; omega)];show (_:AH)[12+i - 12]? =_;rw [aN]
 have hnl:rows≠[]->bq 66 vc rows.flatten=[.cells [] 66,.cells rows.flatten 66]:=fun h=>by have hf:rows.flatten≠[]:=fun e=>h (List.length_eq_zero_iff.1 ((yK (by decide) hr).1 e));have hvn:vc≠.nilSlice:=fun e=>h (hv e);cases vc <;> first | exact absurd rfl hvn | (unfold bq; rw [if_neg hf])
 have hbase:an H (uQ H rows l n vc f):=an.app _ _;have hlen:H.length+((bq 66 vc rows.flatten).length+12)+1+(du (H.length+((bq 66 vc rows.flatten).length+12)) l).2.length=(uQ H rows l n vc f).length:=by unfold uQ;simp only [ai,cR,gH];omega
 have hkN:(uQ H rows l n vc f)[H.length+((bq 66 vc rows.flatten).length+12)]? =some (.cells (du (H.length+((bq 66 vc rows.flatten).length+12)) l).1 32):=by rw [show (bq 66 vc rows.flatten).length+12=12+(bq 66 vc rows.flatten).length by omega,hgL,al (aw _),Nat.sub_self];rw [show (bq 66 vc rows.flatten).length+12=12+(bq 66 vc rows.flatten).length by omega]; rfl
 have hhh:∃ HH:AH,HH.length=H.length+((bq 66 vc rows.flatten).length+12)+1/\uQ H rows l n vc f=HH++(du (H.length+((bq 66 vc rows.flatten).length+12)) l).2:=by
   refine ⟨H++([.cells [I f.w,.bool f.free,I f.cores,I f.slots,I f.room,I f.pol,I f.lat] 27,.fresh,.fresh,.fresh,.fresh,.fresh,.fresh,.fresh,.cells (au n (I 0)) 3,.fresh,
     .cells (lP (bu 5 rows.length vc (H.length+12)) (.slice (H.length+((bq 66 vc rows.flatten).length+12)) 0 1 l.length l.length true) .nilSlice (.slice (H.length+8) 0 1 n n true) f (au 16 false) 0) 71,.fresh] ++
     (bq 66 vc rows.flatten++[.cells (du (H.length+((bq 66 vc rows.flatten).length+12)) l).1 32])),?_,?_⟩
   · simp only [ai,cR,gH]; omega
   · unfold uQ;simp only [List.append_assoc,List.cons_append,List.nil_append]
 by_cases h0:rows=[]
 · refine ⟨_,H.length,_,hbase,hlen,rfl,hg 10,hg 8,hkN,rfl,hhh,aw _,by omega,by omega,by omega,fun h=>absurd h0 h,fun _=>⟨rfl,?_⟩⟩;subst h0;by_cases hvn:vc=.nilSlice
   · left; rw [hvn]; rfl
   · right;have hc:bu 5 ([]:List (List AV)).length vc (H.length+12)=.slice (H.length+12) 0 5 0 0 true:=by cases vc <;> first | rfl | exact absurd rfl hvn
     have hL:bq 66 vc ([]:List (List AV)).flatten=[.cells [] 66]:=by cases vc <;> first | rfl | exact absurd rfl hvn
     refine ⟨hc,by rw [hL]; simp,?_⟩;have:=hgL 0;rw [hL] at this;exact this
 · have hcl:=hnl h0;refine ⟨_,H.length+13,_,hbase,hlen,rfl,hg 10,hg 8,hkN,rfl,hhh,by omega,by rw [hcl]; simp,by omega,by omega,fun _=>⟨rfl,?_⟩,fun h=>absurd h h0⟩;have:=hgL 1;rw [hcl] at this;exact this
end Go.Dv
