/- Part 25 of the walks (own work). -/
import Derived.Test.YtilpjnckfkjkbaaGreatDoorT24
open Bool renaming and_eq_true→aC,false_and→bc,not_eq_true'→bj,true_and→bd
open List renaming append_nil→af,drop_zero→gA,getElem?_append_right→al,getElem?_eq_getElem→aj,getElem_mem→gM,length→gJ,length_append→ai,length_cons→cF,length_nil→gC,length_set→aq,mem_iff_getElem→lR,replicate→ay,take_add_one→eH,take_of_length_le→bq
open Nat renaming add_sub_cancel_left→aS,le_add_right→du,le_refl→ax,lt_of_le_of_lt→vg,lt_or_ge→aX,lt_trans→dI,reduceLT→aQ
open Go.Proofs.Tryz renaming prog→aa
set_option maxRecDepth 100000
set_option maxHeartbeats 4000000
set_option linter.unusedSimpArgs false
set_option linter.unusedVariables false
namespace Go.Dv
open Go.Proofs
attribute [local congr] aF bC aY bB bD
def sJ (ss:List (List Itm)):Nat->Int
 | 0=>0
 | j+1=>IntKind.i64.wrap (sJ ss j+((aW ss j).length:Int))
def q8 (cs:List Cod) (m:List (List Int)) (xs:List Itm):Bool:=cd (fun k=>b6 cs m (bz xs k)) xs.length 0
def EZ (cs:List Cod) (m:List (List Int)) (ss:List (List Itm)):Bool:=cd (fun i=>q8 cs m (aW ss i)) ss.length 0
def sO (cs:List Cod) (m:List (List Int)) (ss:List (List Itm)):Bool:=!ltB ss.length 1 && !ltB 4 ss.length && !ltB 4 cs.length && !ltB 24 (sJ ss ss.length) && !ltB 6 m.length && lE m
def gX (cs:List Cod) (m:List (List Int)) (ss:List (List Itm)) (f:Con):Int:=br (uV f && vT cs) (br (sO cs m ss) (br (EZ cs m ss) 0 6) 5) 1
theorem Qp {G:AH} {ss:List (List Itm)} {vc vm vs:AV} (hs:dy G ss vs) (hN:ss.length < 2 ^ 60):∀ (d j:Nat) (tm:List AV) (K:AH) (Z:Option (bs × St)),EvC aa C0 W0 plN RF (tm,K)=Z->ss.length - j=d->j<=ss.length->(tm.length=81/\au G K/\tm.getD 0 uA=vc/\tm.getD 1 uA=vm/\tm.getD 2 uA=vs/\tm.getD 24 uA=vs/\tm.getD 25 uA=I ss.length/\tm.getD 26 uA=I ((j:Nat):Int)/\tm.getD 9 uA=I (sJ ss j)) ->
   ∃ X K1,Z=some (.exit 0,(X,K1))/\(X.length=81/\au G K1/\X.getD 0 uA=vc/\X.getD 1 uA=vm/\X.getD 2 uA=vs/\X.getD 24 uA=vs/\X.getD 25 uA=I ss.length/\X.getD 26 uA=I ((ss.length:Nat):Int)/\X.getD 9 uA=I (sJ ss ss.length)):=by
 intro d
 induction d with
 | zero =>
   intro j tm K Z hZ hd hj hI
   subst hZ
   have hjl:j=ss.length:=by omega
   subst hjl
   have hI0:=hI
   obtain ⟨hlen,hA,h0,h1,h2,h24,h25,h26,h9⟩:=hI
   have hlt:ltB (((ss.length:Nat)):Int) (ss.length:Nat)=false:=cH (by omega)
   rw [Mu]
   simp (maxSteps:=4000000) -implicitDefEqProofs only [Gj,Tryz.f26,aP,hlen,h0,h1,h2,h24,h25,h26,h9,hlt,↓cbT,↓cbF,↓ao,an,eu,sevalprocAttr]
   refine ⟨_,K,rfl,?_⟩
   exact ⟨by first | exact hlen | simp only [aq,hlen],by first | exact hA | exact hA.bS _,by simp only [hlen,h0,h1,h2,h24,h25,h26,h9,sJ,gB,and_self,sevalprocAttr]⟩
 | succ d ih =>
   intro j tm K Z hZ hd hj hI
   subst hZ
   have hI0:=hI
   obtain ⟨hlen,hA,h0,h1,h2,h24,h25,h26,h9⟩:=hI
   have hjN:j < ss.length:=by omega
   have hlt:ltB (j:Int) (ss.length:Nat)=true:=cD (by omega)
   have hw:=cp (j:=j) (by omega)
   obtain ⟨i0,k0,w0,hix0,hrd0,hxs⟩:=hs.at hA hjN
   have hln:=hxs.len
   rw [Mu]
   rw [<-af K]
   simp (maxSteps:=4000000) -implicitDefEqProofs only [Gj,Tryz.f26,aP,hlen,h0,h1,h2,h24,h25,h26,h9,hlt,hw,hix0,hrd0,hln,r5,↓az,↓cbT,↓cbF,↓ao,an,eu,sevalprocAttr]
   generalize hX:EvC aa C0 W0 _ _ _=Z
   refine ih (j+1) _ _ _ hX (by omega) (by omega) ?_
   exact ⟨by first | exact hlen | simp only [aq,hlen],by first | exact hA | exact hA.bS _,by simp only [hlen,h0,h1,h2,h24,h25,h26,h9,sJ,gB,and_self,sevalprocAttr]⟩
theorem MZ {G:AH} {cs:List Cod} {m:List (List Int)} {ss:List (List Itm)} {vc vm vs:AV} {xs:List Itm} {w0:AV} {i:Nat} (hc:dk G cs vc) (hm:dZ G m vm) (hs:dy G ss vs) (hx:dY G xs w0) (hN:xs.length < 2 ^ 60):∀ (d j:Nat) (tm:List AV) (K:AH) (Z:Option (bs × St)),EvC aa C0 W0 plN RE (tm,K)=Z->xs.length - j=d->j<=xs.length->au G K->tm.length=81->tm.getD 0 uA=vc->tm.getD 1 uA=vm->tm.getD 2 uA=vs->tm.getD 62 uA=vs->tm.getD 63 uA=I ss.length->tm.getD 64 uA=I ((i:Nat):Int)->tm.getD 68 uA=w0->tm.getD 69 uA=I xs.length->tm.getD 70 uA=I ((j:Nat):Int) ->
   ∃ X Y K1 K2,Z=br (cd (fun j=>b6 cs m (bz xs j)) (xs.length) (j)) (some (.exit 4,(X,K1))) (some (.ret,(Y,K2)))/\(X.length=81/\au G K1/\X.getD 0 uA=vc/\X.getD 1 uA=vm/\X.getD 2 uA=vs/\X.getD 62 uA=vs/\X.getD 63 uA=I ss.length/\X.getD 64 uA=I ((i:Nat):Int)/\X.getD 68 uA=w0/\X.getD 69 uA=I xs.length)/\Y.length=81/\Y.getD 8 uA=I 6:=by
 intro d
 induction d with
 | zero =>
   intro j tm K Z hZ hd hj hA hlen h0 h1 h2 h62 h63 h64 h68 h69 h70
   subst hZ
   have hjl:j=xs.length:=by omega
   subst hjl
   have hlt:ltB (((xs.length:Nat)):Int) (xs.length:Nat)=false:=cH (by omega)
   rw [di (ax _),Mt]
   simp (maxSteps:=4000000) -implicitDefEqProofs only [De,Tryz.f26,aP,hlen,h0,h1,h2,h62,h63,h64,h68,h69,h70,hlt,↓cbT,↓cbF,↓ao,an,eu,sevalprocAttr]
   exact ⟨_,tm.set 8 (I 6),_,K,rfl,⟨by first | exact hlen | simp only [aq,hlen],hA,by first | exact h0 | simp only [hlen,h0,gB,sevalprocAttr],by first | exact h1 | simp only [hlen,h1,gB,sevalprocAttr],by first | exact h2 | simp only [hlen,h2,gB,sevalprocAttr],by first | exact h62 | simp only [hlen,h62,gB,sevalprocAttr],by first | exact h63 | simp only [hlen,h63,gB,sevalprocAttr],by first | exact h64 | simp only [hlen,h64,gB,sevalprocAttr],by first | exact h68 | simp only [hlen,h68,gB,sevalprocAttr],by first | exact h69 | simp only [hlen,h69,gB,sevalprocAttr]⟩,by simp only [ls,hlen],by simp only [hlen,dv,aQ]⟩
 | succ d ih =>
   intro j tm K Z hZ hd hj hA hlen h0 h1 h2 h62 h63 h64 h68 h69 h70
   subst hZ
   have hjN:j < xs.length:=by omega
   have hlt:ltB (j:Int) (xs.length:Nat)=true:=cD (by omega)
   have hw:=cp (j:=j) (by omega)
   obtain ⟨i1,k1,w1,hix1,hrd1,ha1⟩:=hx.at hA hjN
   have he62:=fun L=>acL (hc.bg (hA.bS L)) (hm.bg (hA.bS L)) (ha1.same (hA.bS L)) (hx.im _ (fi hjN))
   simp only [aL] at hrd1 he62
   have hac:=ha1.cells
   have hao:=ha1.one
   rw [cI hjN,Mt]
   rw [<-af K]
   cases hp:(b6 cs m (bz xs j)) with
   | true =>
     simp only [bd]
     simp (maxSteps:=4000000) -implicitDefEqProofs only [De,Tryz.f26,aP,hlen,h0,h1,h2,h62,h63,h64,h68,h69,h70,hlt,hw,hix1,hrd1,↓hac,↓hao,fV,ed,↓Yt,he62,hp,r5,↓az,↓cbT,↓cbF,↓ao,an,eu,sevalprocAttr]
     exact ih (j+1) _ _ _ rfl (by omega) (by omega) (by first | exact hA | exact hA.bS _ | exact (hA.bS _).bS _) (by simp only [ls,hlen]) (by simp only [hlen,h0,gB,sevalprocAttr]) (by simp only [hlen,h1,gB,sevalprocAttr]) (by simp only [hlen,h2,gB,sevalprocAttr]) (by simp only [hlen,h62,gB,sevalprocAttr]) (by simp only [hlen,h63,gB,sevalprocAttr]) (by simp only [hlen,h64,gB,sevalprocAttr]) (by simp only [hlen,h68,gB,sevalprocAttr]) (by simp only [hlen,h69,gB,sevalprocAttr]) (by simp only [hlen,h70,gB,sevalprocAttr])
   | false =>
     simp only [bc]
     simp (maxSteps:=4000000) -implicitDefEqProofs only [De,Tryz.f26,aP,hlen,h0,h1,h2,h62,h63,h64,h68,h69,h70,hlt,hw,hix1,hrd1,↓hac,↓hao,fV,ed,↓Yt,he62,hp,r5,↓az,↓cbT,↓cbF,↓ao,an,eu,sevalprocAttr]
     exact ⟨tm,_,K,_,rfl,⟨hlen,hA,h0,h1,h2,h62,h63,h64,h68,h69⟩,by simp only [ls,hlen],by simp only [hlen,gB,sevalprocAttr]⟩
theorem Qq {G:AH} {cs:List Cod} {m:List (List Int)} {ss:List (List Itm)} {vc vm vs:AV} (hc:dk G cs vc) (hm:dZ G m vm) (hs:dy G ss vs) (hN:ss.length < 2 ^ 60):∀ (d j:Nat) (tm:List AV) (K:AH) (Z:Option (bs × St)),EvC aa C0 W0 plN RD (tm,K)=Z->ss.length - j=d->j<=ss.length->(tm.length=81/\au G K/\tm.getD 0 uA=vc/\tm.getD 1 uA=vm/\tm.getD 2 uA=vs/\tm.getD 62 uA=vs/\tm.getD 63 uA=I ss.length/\tm.getD 64 uA=I ((j:Nat):Int)) ->
   ∃ X K1 Y K2,Z=br (cd (fun j=>q8 cs m (aW ss j)) (ss.length) (j)) (some (.exit 2,(X,K1))) (some (.ret,(Y,K2)))/\(cd (fun j=>q8 cs m (aW ss j)) (ss.length) (j)=true->X.length=81/\au G K1/\X.getD 0 uA=vc/\X.getD 1 uA=vm/\X.getD 2 uA=vs/\X.getD 62 uA=vs/\X.getD 63 uA=I ss.length/\X.getD 64 uA=I ((ss.length:Nat):Int))/\Y.length=81/\Y.getD 8 uA=I 6:=by
 intro d
 induction d with
 | zero =>
   intro j tm K Z hZ hd hj hI
   subst hZ
   have hjl:j=ss.length:=by omega
   subst hjl
   have hI0:=hI
   obtain ⟨hlen,hA,h0,h1,h2,h62,h63,h64⟩:=hI
   have hlt:ltB (((ss.length:Nat)):Int) (ss.length:Nat)=false:=cH (by omega)
   rw [di (ax _)]
   rw [Ms]
   simp (maxSteps:=4000000) -implicitDefEqProofs only [Dd,Tryz.f26,aP,hlen,h0,h1,h2,h62,h63,h64,hlt,↓cbT,↓cbF,↓ao,an,eu,sevalprocAttr]
   refine ⟨_,K,tm.set 8 (I 6),K,rfl,?_,by simp only [ls,hlen],by simp only [hlen,dv,aQ]⟩
   try intro _
   exact ⟨by first | exact hlen | simp only [aq,hlen],hA,by simp only [hlen,h0,h1,h2,h62,h63,h64,gB,and_self,sevalprocAttr]⟩
 | succ d ih =>
   intro j tm K Z hZ hd hj hI
   subst hZ
   have hI0:=hI
   obtain ⟨hlen,hA,h0,h1,h2,h62,h63,h64⟩:=hI
   have hjN:j < ss.length:=by omega
   have hlt:ltB (j:Int) (ss.length:Nat)=true:=cD (by omega)
   have hw:=cp (j:=j) (by omega)
   obtain ⟨i0,k0,w0,hix0,hrd0,hxs⟩:=hs.at hA hjN
   have hln:=hxs.len
   rw [cI hjN]
   rw [Ms]
   rw [<-af K]
   cases hp:(q8 cs m (aW ss j)) with
   | true =>
     unfold q8 at hp
     simp only [bd]
     simp (maxSteps:=4000000) -implicitDefEqProofs only [Dd,Tryz.f26,aP,hlen,h0,h1,h2,h62,h63,h64,hlt,hw,hix0,hrd0,hln,r5,↓az,↓cbT,↓cbF,↓ao,an,eu,sevalprocAttr]
     generalize hX:EvC aa C0 W0 _ (Code.loop _) _=Z
     obtain ⟨X,Y,K1,K2,he,xs,y0,y1⟩:=MZ (i:=j) hc hm hs hxs (dI hxs.n (by decide)) _ 0 _ _ _ hX rfl (Nat.zero_le _) (hA.bS _) (by simp only [ls,hlen,h0,h1,h2,h62,h63,h64]) (by simp only [hlen,h0,h1,h2,h62,h63,h64,h0,gB,sevalprocAttr]; try rfl) (by simp only [hlen,h0,h1,h2,h62,h63,h64,h1,gB,sevalprocAttr]; try rfl) (by simp only [hlen,h0,h1,h2,h62,h63,h64,h2,gB,sevalprocAttr]; try rfl) (by simp only [hlen,h0,h1,h2,h62,h63,h64,h62,gB,sevalprocAttr]; try rfl) (by simp only [hlen,h0,h1,h2,h62,h63,h64,h63,gB,sevalprocAttr]; try rfl) (by simp only [hlen,h0,h1,h2,h62,h63,h64,h64,gB,sevalprocAttr]; try rfl) (by simp only [hlen,h0,h1,h2,h62,h63,h64,gB,sevalprocAttr]; try rfl) (by simp only [hlen,h0,h1,h2,h62,h63,h64,gB,sevalprocAttr]; try rfl) (by simp only [hlen,h0,h1,h2,h62,h63,h64,gB,sevalprocAttr]; try rfl)
     subst he
     simp (maxSteps:=4000000) -implicitDefEqProofs only [hp,xs.1,xs.2.2.1,xs.2.2.2.1,xs.2.2.2.2.1,xs.2.2.2.2.2.1,xs.2.2.2.2.2.2.1,xs.2.2.2.2.2.2.2.1,hw,↓cbT,↓cbF,↓ao,an,eu,sevalprocAttr]
     generalize hX:EvC aa C0 W0 _ _ _=Z
     refine ih (j+1) _ _ _ hX (by omega) (by omega) ?_
     exact ⟨by simp only [ls,xs.1],by first | exact xs.2.1,by simp only [xs.1,xs.2.2.1,xs.2.2.2.1,xs.2.2.2.2.1,xs.2.2.2.2.2.1,xs.2.2.2.2.2.2.1,xs.2.2.2.2.2.2.2.1,gB,and_self,sevalprocAttr]⟩
   | false =>
     simp only [bc]
     unfold q8 at hp
     simp (maxSteps:=4000000) -implicitDefEqProofs only [Dd,Tryz.f26,aP,hlen,h0,h1,h2,h62,h63,h64,hlt,hw,hix0,hrd0,hln,r5,↓az,↓cbT,↓cbF,↓ao,an,eu,sevalprocAttr]
     generalize hX:EvC aa C0 W0 _ (Code.loop _) _=Z
     obtain ⟨X,Y,K1,K2,he,xs,y0,y1⟩:=MZ (i:=j) hc hm hs hxs (dI hxs.n (by decide)) _ 0 _ _ _ hX rfl (Nat.zero_le _) (hA.bS _) (by simp only [ls,hlen,h0,h1,h2,h62,h63,h64]) (by simp only [hlen,h0,h1,h2,h62,h63,h64,h0,gB,sevalprocAttr]; try rfl) (by simp only [hlen,h0,h1,h2,h62,h63,h64,h1,gB,sevalprocAttr]; try rfl) (by simp only [hlen,h0,h1,h2,h62,h63,h64,h2,gB,sevalprocAttr]; try rfl) (by simp only [hlen,h0,h1,h2,h62,h63,h64,h62,gB,sevalprocAttr]; try rfl) (by simp only [hlen,h0,h1,h2,h62,h63,h64,h63,gB,sevalprocAttr]; try rfl) (by simp only [hlen,h0,h1,h2,h62,h63,h64,h64,gB,sevalprocAttr]; try rfl) (by simp only [hlen,h0,h1,h2,h62,h63,h64,gB,sevalprocAttr]; try rfl) (by simp only [hlen,h0,h1,h2,h62,h63,h64,gB,sevalprocAttr]; try rfl) (by simp only [hlen,h0,h1,h2,h62,h63,h64,gB,sevalprocAttr]; try rfl)
     subst he
     simp (maxSteps:=4000000) -implicitDefEqProofs only [hp,y0,y1,↓cbT,↓cbF,↓ao,an,eu,sevalprocAttr]
     exact ⟨tm,K,Y,_,rfl,by first | exact trivial | (intro h; cases h),y0,y1⟩
theorem UQ {H:AH} {cs:List Cod} {m:List (List Int)} {ss:List (List Itm)} {vc vm vs:AV} (hc:dk H cs vc) (hm:dZ H m vm) (hs:dy H ss vs) (f:Con):Ev aa C0 W0 26 [vc,vm,vs,.agg (fg f)] H=some (I (gX cs m ss f),H):=by
 obtain ⟨tm,ht,g0,g1,g2,g3,g4⟩:=tm4 vc vm vs (.agg (fg f)) 81 (by decide)
 rw [abQ,ht]
 rw [<-af (ro H)]
 have h56:=fun G=>acR f G
 simp only [fg] at h56
 have h57:=fun L=>acQ (hc.ro.bg (au.app (ro H) L))
 have hlc:=hc.len
 have hlm:=hm.len
 have hls:=hs.len
 unfold gX
 cases c0:uV f with
 | false =>
   simp (maxSteps:=4000000) -implicitDefEqProofs only [c26,Tryz.f26,aP,g0,g1,g2,g3,g4,fg,↓UH,h56,c0,r5,↓az,↓cbT,↓cbF,↓ao,an,eu,sevalprocAttr]
 | true =>
   cases c1:vT cs with
   | false =>
     simp (maxSteps:=4000000) -implicitDefEqProofs only [c26,Tryz.f26,aP,g0,g1,g2,g3,g4,fg,↓UH,h56,c0,↓Yu,show ∀ gl tm,cP gl tm (.func 58)=some (.func (.func 58) [] []) from fun _ _=>rfl,h57,c1,r5,↓az,↓cbT,↓cbF,↓ao,an,eu,sevalprocAttr]
   | true =>
     simp (maxSteps:=4000000) -implicitDefEqProofs only [c26,Tryz.f26,aP,g0,g1,g2,g3,g4,fg,↓UH,h56,c0,↓Yu,show ∀ gl tm,cP gl tm (.func 58)=some (.func (.func 58) [] []) from fun _ _=>rfl,h57,c1,hls,r5,↓az,↓cbT,↓cbF,↓ao,an,eu,sevalprocAttr]
     generalize hX:EvC aa C0 W0 _ (Code.loop _) _=Z
     obtain ⟨X,K1,he1,i0,iA,i1,i2,i3,i4,i5,i6,i9⟩:=Qp (vc:=vc) (vm:=vm) hs.ro (dI hs.n (by decide)) _ 0 _ _ _ hX rfl (Nat.zero_le _) ⟨by simp only [ls,g0],au.app _ _,Aj5 (by simp only [g0,g1,g2,g3,gB,and_self,sevalprocAttr]) ⟨by simp only [g0,gB,sevalprocAttr]; try rfl,by simp only [g0,gB,sevalprocAttr]; try rfl⟩⟩
     subst he1
     have h60:=acN (hm.ro.bg iA)
     unfold sO
     cases q0:ltB (ss.length:Int) 1 with
     | true =>
       simp (maxSteps:=4000000) -implicitDefEqProofs only [aP,i0,i1,i2,i3,i9,↓EB,show ∀ gl tm,cP gl tm (.func 61)=some (.func (.func 61) [] []) from fun _ _=>rfl,h60,hls,hlc,hlm,r5,↓az,q0,↓cbT,↓cbF,↓ao,an,eu,sevalprocAttr]
     | false =>
       cases q1:ltB 4 (ss.length:Int) with
       | true =>
         simp (maxSteps:=4000000) -implicitDefEqProofs only [aP,i0,i1,i2,i3,i9,↓EB,show ∀ gl tm,cP gl tm (.func 61)=some (.func (.func 61) [] []) from fun _ _=>rfl,h60,hls,hlc,hlm,r5,↓az,q0,q1,↓cbT,↓cbF,↓ao,an,eu,sevalprocAttr]
       | false =>
         cases q2:ltB 4 (cs.length:Int) with
         | true =>
           simp (maxSteps:=4000000) -implicitDefEqProofs only [aP,i0,i1,i2,i3,i9,↓EB,show ∀ gl tm,cP gl tm (.func 61)=some (.func (.func 61) [] []) from fun _ _=>rfl,h60,hls,hlc,hlm,r5,↓az,q0,q1,q2,↓cbT,↓cbF,↓ao,an,eu,sevalprocAttr]
         | false =>
           cases q3:ltB 24 (sJ ss ss.length) with
           | true =>
             simp (maxSteps:=4000000) -implicitDefEqProofs only [aP,i0,i1,i2,i3,i9,↓EB,show ∀ gl tm,cP gl tm (.func 61)=some (.func (.func 61) [] []) from fun _ _=>rfl,h60,hls,hlc,hlm,r5,↓az,q0,q1,q2,q3,↓cbT,↓cbF,↓ao,an,eu,sevalprocAttr]
           | false =>
             cases q4:ltB 6 (m.length:Int) with
             | true =>
               simp (maxSteps:=4000000) -implicitDefEqProofs only [aP,i0,i1,i2,i3,i9,↓EB,show ∀ gl tm,cP gl tm (.func 61)=some (.func (.func 61) [] []) from fun _ _=>rfl,h60,hls,hlc,hlm,r5,↓az,q0,q1,q2,q3,q4,↓cbT,↓cbF,↓ao,an,eu,sevalprocAttr]
             | false =>
               cases q5:lE m with
               | false =>
                 simp (maxSteps:=4000000) -implicitDefEqProofs only [aP,i0,i1,i2,i3,i9,↓EB,show ∀ gl tm,cP gl tm (.func 61)=some (.func (.func 61) [] []) from fun _ _=>rfl,h60,hls,hlc,hlm,r5,↓az,q0,q1,q2,q3,q4,q5,↓cbT,↓cbF,↓ao,an,eu,sevalprocAttr]
               | true =>
                 simp (maxSteps:=4000000) -implicitDefEqProofs only [aP,i0,i1,i2,i3,i9,↓EB,show ∀ gl tm,cP gl tm (.func 61)=some (.func (.func 61) [] []) from fun _ _=>rfl,h60,hls,hlc,hlm,r5,↓az,q0,q1,q2,q3,q4,q5,↓cbT,↓cbF,↓ao,an,eu,sevalprocAttr]
                 generalize hX2:EvC aa C0 W0 _ (Code.loop _) _=Z2
                 obtain ⟨X2,K2,Y2,L2,he2,hi2,y0,y1⟩:=Qq hc.ro hm.ro hs.ro (dI hs.n (by decide)) _ 0 _ _ _ hX2 rfl (Nat.zero_le _) ⟨by simp only [ls,i0],iA,Aj5 (by simp only [i0,i1,i2,i3,gB,and_self,sevalprocAttr]) (by simp only [i0,gB,sevalprocAttr]; try rfl)⟩
                 subst he2
                 unfold EZ
                 cases hf:cd (fun i=>q8 cs m (aW ss i)) ss.length 0 with
                 | false=>simp (maxSteps:=4000000) -implicitDefEqProofs only [y0,y1,hf,↓cbT,↓cbF,↓ao,an,eu,sevalprocAttr]
                 | true =>
                   obtain ⟨j0,_⟩:=hi2 hf
                   simp (maxSteps:=4000000) -implicitDefEqProofs only [aP,j0,hf,↓cbT,↓cbF,↓ao,an,eu,sevalprocAttr]
structure Good (cs:List Cod) (m:List (List Int)) (ss:List (List Itm)) (f:Con):Prop where
 cf:uV f=true
 nc:cs.length<=4
 n1:1<=ss.length
 n4:ss.length<=4
 few:(ss.map gJ).sum<=24
 nm:m.length<=6
 nb:∀ b∈m,b.length<=256
 cod:∀ c∈cs,c.params.length<=6/\c.shared.length<=4/\c.insns.length<=2000
 it:∀ l∈ss,∀ x∈l,b6 cs m x=true
theorem zc (l:List Nat) (j:Nat):(l.take (j+1)).sum=(l.take j).sum+l.getD j 0:=by
 rw [eH,List.sum_append,gde]
 cases l[j]? <;> simp
theorem AD {ss:List (List Itm)} (hl:∀ l∈ss,l.length < 2 ^ 50):∀ j,j<=ss.length->j<=4->sJ ss j=(((ss.map gJ).take j).sum:Nat)/\((ss.map gJ).take j).sum<=j * 2 ^ 50
 | 0,_,_=>⟨rfl,by simp⟩
 | j+1,h,h4=>by
   obtain ⟨h1,h2⟩:=AD hl j (by omega) (by omega)
   have hj:j < ss.length:=h
   have hg:(ss.map gJ).getD j 0=(aW ss j).length:=by
     unfold aW
     rw [gde,List.getElem?_map,gde,aj hj]; rfl
   have hb:=hl _ (iM hj)
   rw [zc,hg]
   refine ⟨?_,by omega⟩
   rw [sJ,h1,qZ (by omega)]; omega
theorem oM:∀ (l:List Nat) (n:Nat),n∈l->n<=l.sum
 | x::l,n,h=>by
   rw [List.sum_cons]
   rcases List.mem_cons.1 h with e | e
   · omega
   · have:=oM l n e; omega
theorem tc {α:Type} {l:List α} {d:α} {p:α->Bool} (h:cd (fun j=>p (l.getD j d)) l.length 0=true):∀ x∈l,p x=true:=by
 rw [fC] at h
 intro x hx
 obtain ⟨j,hj,e⟩:=lR.1 hx
 have:=h j hj
 rw [gde,aj hj] at this
 rw [<-e]; exact this
theorem tz {cs:List Cod} {m:List (List Int)} {ss:List (List Itm)} {f:Con} (hl:∀ l∈ss,l.length < 2 ^ 50) (h:gX cs m ss f=0):Good cs m ss f:=by
 unfold gX at h
 cases h0:uV f && vT cs with
 | false=>rw [h0] at h; cases h
 | true =>
   rw [h0] at h
   cases h1:sO cs m ss with
   | false=>rw [h1] at h; cases h
   | true =>
     rw [h1] at h
     cases h2:EZ cs m ss with
     | false=>rw [h2] at h; cases h
     | true =>
       rw [aC] at h0
       unfold sO at h1
       simp only [aC,bj,fS] at h1
       obtain ⟨⟨⟨⟨⟨a1,a2⟩,a3⟩,a4⟩,a5⟩,a6⟩:=h1
       have hn4:ss.length<=4:=by omega
       obtain ⟨s1,_⟩:=AD hl ss.length (ax _) hn4
       rw [s1,bq (by rw [List.length_map]; exact ax _)] at a4
       refine ⟨h0.1,by omega,by omega,hn4,by omega,by omega,fun b hb=>?_,fun c hc=>?_,fun l hl x hx=>?_⟩
       · unfold lE bN at a6
         have:=tc (l:=m) (d:=[]) (p:=fun b=>!ltB 256 ((b:List Int).length:Int)) a6 b hb
         simp only [bj,fS] at this
         omega
       · have h02:=h0.2
         unfold vT cT at h02
         have:=tc (l:=cs) (d:=⟨eS,[],[],0,[]⟩) (p:=jL) h02 c hc
         unfold jL zW at this
         simp only [aC,bj,fS] at this
         omega
       · unfold EZ aW at h2
         have:=tc (l:=ss) (d:=[]) (p:=fun l=>q8 cs m l) h2 l hl
         unfold q8 bz at this
         exact tc (l:=l) (d:=⟨0,0,0,0,0,0,0,[],0⟩) (p:=fun x=>b6 cs m x) this x hx
theorem BN {cs:List Cod} {m:List (List Int)} {x:Itm} (hc:∀ c∈cs,c.params.length<=6) (h:b6 cs m x=true):x.args.length<=6:=by
 unfold b6 at h
 cases k0:eqB x.kind 0 with
 | true =>
   rw [k0,dO] at h
   simp only [aC,dn,dm] at h
   obtain ⟨⟨⟨h1,h2⟩,h3⟩,_⟩:=h
   have hm:cT cs x.code.toNat∈cs:=by
     have hlt:x.code.toNat < cs.length:=by omega
     unfold cT
     rw [dU hlt]
     exact gM _
   have hp:=hc _ hm
   unfold o8 vE pB at h3
   simp only [aC,cU] at h3
   omega
 | false =>
   rw [k0,ct] at h
   cases k1:eqB x.kind 1 with
   | true =>
     rw [k1,dO] at h
     simp only [aC,cU] at h
     omega
   | false =>
     rw [k1,ct] at h
     cases k2:eqB x.kind 2 with
     | true =>
       rw [k2,dO] at h
       simp only [aC,cU] at h
       omega
     | false =>
       rw [k2,ct] at h
       cases k3:(eqB x.kind 3 || eqB x.kind 4) with
       | true =>
         rw [k3,dO] at h
         simp only [aC,cU] at h
         omega
       | false=>rw [k3,ct] at h; cases h
theorem uq {cs:List Cod} {m:List (List Int)} {x:Itm} (h:b6 cs m x=true) (hk:x.kind=3∨x.kind=4):0<=x.ev/\x.ev < 16:=by
 have e0:eqB x.kind 0=false:=fU (by omega)
 have e1:eqB x.kind 1=false:=fU (by omega)
 have e2:eqB x.kind 2=false:=fU (by omega)
 have e3:(eqB x.kind 3 || eqB x.kind 4)=true:=by
   rw [Bool.or_eq_true,cU,cU]; exact hk
 unfold b6 at h
 rw [e0,e1,e2,e3,ct,ct,ct,dO] at h
 simp only [aC,dn,dm] at h
 omega
theorem Good.args {cs:List Cod} {m:List (List Int)} {ss:List (List Itm)} {f:Con} (h:Good cs m ss f):∀ l∈ss,∀ x∈l,x.args.length<=6:=fun l hl x hx=>BN (fun c hc=>(h.cod c hc).1) (h.it l hl x hx)
theorem Good.ev {cs:List Cod} {m:List (List Int)} {ss:List (List Itm)} {f:Con} (h:Good cs m ss f):vf ss:=fun l hl x hx hk=>uq (h.it l hl x hx) hk
theorem Good.len {cs:List Cod} {m:List (List Int)} {ss:List (List Itm)} {f:Con} (h:Good cs m ss f):∀ l∈ss,l.length<=24:=fun l hl=>by
 have:=oM _ _ (List.mem_map_of_mem (f:=gJ) hl)
 have:=h.few
 omega
structure fF (S K:AH) (q a:Nat) (ws:List AV) (vc vm vs:AV) (f:Con) (cs:List Cod) (ss:List (List Itm)) (ad:List Nat) (m:List (List Int)) (rc:List Bool):Prop where
 sub:Sub S K
 gq:lB S q
 ga:lB S a
 gw:∀ w∈ws,∀ b,cu w=some b->lB S b
 qa:q≠a
 qw:∀ w∈ws,cu w≠some q/\cu w≠some a
 ww:∀ i j b,i < ws.length->j < ws.length->cu (ws.getD i uA)=some b->cu (ws.getD j uA)=some b->i=j
 kq:K[q]? =some (.cells (lF vc vm vs (.slice a 0 1 ad.length ad.length true) f rc 0) 71)
 ka:K[a]? =some (.cells (ad.map fun (n:Nat)=>I (n:Int)) 3)
 c:dk S cs vc
 s:dy S ss vs
 sm:SlS 24 1 S vm (ws.map fun w=>[w])
 lw:ws.length=m.length
 own:∀ i,i < m.length->Own 0 K 1 21 (ws.getD i uA) (jk (bN m i))
 la:ad.length=ss.length
 le:∀ i,i < ss.length->ad.getD i 0<=(aW ss i).length
 lr:rc.length=16
 ev:vf ss
 few:(ss.map gJ).sum<=24
 fs:ss.length<=4
 nm:m.length<=6
 nb:∀ b∈m,b.length<=256
 im:∀ b∈m,∀ x∈b,e9 x
theorem fF.aaD {S K:AH} {q a:Nat} {ws:List AV} {vc vm vs:AV} {f:Con} {cs:List Cod} {ss:List (List Itm)} {ad:List Nat} {m:List (List Int)} {rc:List Bool} (h:fF S K q a ws vc vm vs f cs ss ad m rc):dZ K m vm:=by
 refine ⟨⟨List.zip m ws,?_,?_,?_⟩,vg h.nm (by decide),fun b hb=>vg (h.nb b hb) (by decide),h.im⟩
 · rw [List.map_fst_zip (by rw [h.lw]; exact ax _)]
 · rw [show (fun p:List Int × AV=>[p.2])=(fun w=>[w]) ∘ Prod.snd from rfl,<-List.map_map,List.map_snd_zip (by rw [h.lw]; exact ax _)]
   exact h.sm.sub h.sub
 · intro p hp
   obtain ⟨i,hi,hpe⟩:=lR.1 hp
   have hi':=hi
   rw [List.length_zip] at hi'
   have h1:i < m.length:=by omega
   have h2:i < ws.length:=by omega
   have:=(h.own i h1).s32
   rw [<-hpe,List.getElem_zip]
   rw [show bN m i=m[i] from dU h1 _,show ws.getD i uA=ws[i] from dU h2 _] at this
   exact this
theorem fF.view {S K:AH} {q a:Nat} {ws:List AV} {vc vm vs:AV} {f:Con} {cs:List Cod} {ss:List (List Itm)} {ad:List Nat} {m:List (List Int)} {rc:List Bool} (h:fF S K q a ws vc vm vs f cs ss ad m rc):mN K q vc vm vs (.slice a 0 1 ad.length ad.length true) f ss ad m rc 0 where
 row:=by
   unfold ak
   rw [h.kq]
   simp only
   rw [if_pos (by rw [nO _ _ _ _ _ h.lr]; decide),gA,bq (by rw [nO _ _ _ _ _ h.lr]; exact ax _)]
 m:=h.aaD
 s:=h.s.sub h.sub
 a:=by
   have:=nA (T:=30) (es:=1) yh (H:=K) (i:=a) (k:=0) (c:=ad.length) (e:=true) (rows:=ints ad) (pP ad) (by unfold okC; rw [h.ka]) (by
     unfold ak
     rw [h.ka]
     simp only
     rw [if_pos (by simp [ints]),gA,bq (by simp [ints]),nY])
   have e:(ints ad).length=ad.length:=by simp [ints]
   rw [e] at this
   exact this
 la:=h.la
 le:=h.le
 lr:=h.lr
 ev:=h.ev
 nn:=⟨_,_,_,_,rfl⟩
 few:=h.few
 fs:=h.fs
theorem fF.grow {S K K':AH} {q a:Nat} {ws:List AV} {vc vm vs:AV} {f:Con} {cs:List Cod} {ss:List (List Itm)} {ad:List Nat} {m:List (List Int)} {rc:List Bool} (h:fF S K q a ws vc vm vs f cs ss ad m rc) (hA:au K K'):fF S K' q a ws vc vm vs f cs ss ad m rc:=
 { h with sub:=h.sub.bg hA,kq:=hA.get h.kq,ka:=hA.get h.ka,own:=fun i hi=>(h.own i hi).bg hA }
theorem eQ {α:Type} {l:List α} {i:Nat} (h:i < l.length) (d:α):l.getD i d∈l:=by
 rw [gde,aj h]; exact gM _
theorem Js {H:AH} {rows:List (List AV)} {l:List (List Int × AV)} {n:Nat} {vc vm vs:AV} (f:Con) (h27:∀ L,Ev aa C0 W0 27 [vc] (H++L)=some (bp 5 rows.length vc (H.length+L.length),H++(L++bo 66 vc rows.flatten))) (h28:∀ L,Ev aa C0 W0 28 [vm] (H++L)=some (.slice (H.length+L.length) 0 1 l.length l.length true,H++(L++(.cells (db (H.length+L.length) l).1 32::(db (H.length+L.length) l).2))))
   (hls:∀ G,dQ aa 25 G vs=some (I n)) (hn:n<=4) {tm:List AV} {R:Option (bs × St)} (hR:EvC aa C0 W0 pf (aI [true,true,false] (Tryz.f10.body.getD .skip)) (tm,H++[.cells [I f.w,.bool f.free,I f.cores,I f.slots,I f.room,I f.pol,I f.lat] 27])=R) (hlen:tm.length=100) (h0:tm.getD 0 uA=vc) (h1:tm.getD 1 uA=vm) (h2:tm.getD 2 uA=vs) (h7:tm.getD 7 uA=.ptr H.length 0) :
   ∃ tm',R=some (.normal,(tm',uD H rows l n vc f))/\tm'.length=100/\tm'.getD 2 uA=vs/\tm'.getD 11 uA=.ptr (H.length+10) 0:=by
 subst hR
 exact Oq f h27 h28 hls hn hlen h0 h1 h2 h7
theorem EN {n:Nat} {v:AV} {b:Nat} (hv:v=.nilSlice->n=0) (G:AH):dQ aa 22 G (bp 5 n v b)=some (I n):=by
 by_cases h:v=.nilSlice
 · rw [hv h,h]; exact Q9 G
 · have hc:bp 5 n v b=if n=0 then .slice b 0 5 0 0 true else .slice (b+1) 0 5 n n false:=by
     cases v <;> first | rfl | exact absurd rfl h
   rw [hc]
   by_cases h0:n=0
   · rw [if_pos h0,h0]; exact Un _ _ _ _ _ _ _
   · rw [if_neg h0]; exact Un _ _ _ _ _ _ _
theorem qF (N:Nat) (l:List (List Int × AV)) {i j:Nat} (h:i<=j):(db N (l.take i)).2.length<=(db N (l.take j)).2.length:=by
 induction j with
 | zero=>rw [Nat.le_zero.1 h]; exact ax _
 | succ j ih =>
   rcases aX i (j+1) with c | c
   · refine Nat.le_trans (ih (by omega)) ?_
     rcases aX j l.length with hj | hj
     · rw [eH,aj hj,show (l.take j++(some l[j]).toList)=l.take j++[l[j]] from rfl,uE]
       show _<=((db N (l.take j)).2++_).length
       rw [ai]; exact du _ _
     · rw [bq hj,bq (Nat.le_succ_of_le hj)]; exact ax _
   · rw [show i=j+1 by omega]; exact ax _
structure Dt (H K:AH) (rows:List (List AV)) (l:List (List Int × AV)) (n:Nat) (vc:AV) (f:Con) (N c:Nat) (ws:List AV):Prop where
 ag:au H K
 len:N+1+(db N l).2.length=K.length
 eN:N=H.length+((bo 66 vc rows.flatten).length+12)
 kq:K[H.length+10]? =some (.cells (lF (bp 5 rows.length vc (H.length+12)) (.slice N 0 1 l.length l.length true) .nilSlice (.slice (H.length+8) 0 1 n n true) f rc0 0) 71)
 ka:K[H.length+8]? =some (.cells (ay n (I 0)) 3)
 kN:K[N]? =some (.cells ws 32)
 ws_:ws=(db N l).1
 hh:∃ HH:AH,HH.length=N+1/\K=HH++(db N l).2
 c0:H.length<=c
 cl:c < N
 cq:H.length+10≠c
 ca:H.length+8≠c
 kc:rows≠[]->c=H.length+13/\K[c]? =some (.cells rows.flatten 66)
 ce:rows=[]->c=H.length/\(bp 5 rows.length vc (H.length+12)=.nilSlice∨(bp 5 rows.length vc (H.length+12)=.slice (H.length+12) 0 5 0 0 true/\H.length+12 < N/\K[H.length+12]? =some (.cells [] 66)))
theorem El {H:AH} {rows:List (List AV)} {l:List (List Int × AV)} {n:Nat} {vc:AV} {f:Con} (hr:∀ r∈rows,r.length=5) (hv:vc=.nilSlice->rows=[]) :
   ∃ N c ws,Dt H (uD H rows l n vc f) rows l n vc f N c ws:=by
 have hg:∀ i,(uD H rows l n vc f)[H.length+i]? =(([.cells [I f.w,.bool f.free,I f.cores,I f.slots,I f.room,I f.pol,I f.lat] 27,.fresh,.fresh,.fresh,.fresh,.fresh,.fresh,.fresh,.cells (ay n (I 0)) 3,.fresh,
   .cells (lF (bp 5 rows.length vc (H.length+12)) (.slice (H.length+((bo 66 vc rows.flatten).length+12)) 0 1 l.length l.length true) .nilSlice (.slice (H.length+8) 0 1 n n true) f (ay 16 false) 0) 71,.fresh]:AH) ++
   (bo 66 vc rows.flatten++(.cells (db (H.length+((bo 66 vc rows.flatten).length+12)) l).1 32::(db (H.length+((bo 66 vc rows.flatten).length+12)) l).2)))[i]?:=fun i=>by
   unfold uD
   rw [al (du _ _),aS]
 have hgL:∀ i,(uD H rows l n vc f)[H.length+(12+i)]? =((bo 66 vc rows.flatten++(.cells (db (H.length+((bo 66 vc rows.flatten).length+12)) l).1 32::(db (H.length+((bo 66 vc rows.flatten).length+12)) l).2)):AH)[i]?:=fun i=>by
   rw [hg,al (by show 12<=12+i; omega)]
   show (_:AH)[12+i - 12]? =_
   rw [aS]
 have hnl:rows≠[]->bo 66 vc rows.flatten=[.cells [] 66,.cells rows.flatten 66]:=fun h=>by
   have hf:rows.flatten≠[]:=fun e=>h (List.length_eq_zero_iff.1 ((yx (by decide) hr).1 e))
   have hvn:vc≠.nilSlice:=fun e=>h (hv e)
   cases vc <;> first | exact absurd rfl hvn | (unfold bo; rw [if_neg hf])
 have hbase:au H (uD H rows l n vc f):=au.app _ _
 have hlen:H.length+((bo 66 vc rows.flatten).length+12)+1+(db (H.length+((bo 66 vc rows.flatten).length+12)) l).2.length=(uD H rows l n vc f).length:=by
   unfold uD
   simp only [ai,cF,gC]
   omega
 have hkN:(uD H rows l n vc f)[H.length+((bo 66 vc rows.flatten).length+12)]? =some (.cells (db (H.length+((bo 66 vc rows.flatten).length+12)) l).1 32):=by
   rw [show (bo 66 vc rows.flatten).length+12=12+(bo 66 vc rows.flatten).length by omega,hgL,al (ax _),Nat.sub_self]
   rw [show (bo 66 vc rows.flatten).length+12=12+(bo 66 vc rows.flatten).length by omega]; rfl
 have hhh:∃ HH:AH,HH.length=H.length+((bo 66 vc rows.flatten).length+12)+1/\uD H rows l n vc f=HH++(db (H.length+((bo 66 vc rows.flatten).length+12)) l).2:=by
   refine ⟨H++([.cells [I f.w,.bool f.free,I f.cores,I f.slots,I f.room,I f.pol,I f.lat] 27,.fresh,.fresh,.fresh,.fresh,.fresh,.fresh,.fresh,.cells (ay n (I 0)) 3,.fresh,
     .cells (lF (bp 5 rows.length vc (H.length+12)) (.slice (H.length+((bo 66 vc rows.flatten).length+12)) 0 1 l.length l.length true) .nilSlice (.slice (H.length+8) 0 1 n n true) f (ay 16 false) 0) 71,.fresh] ++
     (bo 66 vc rows.flatten++[.cells (db (H.length+((bo 66 vc rows.flatten).length+12)) l).1 32])),?_,?_⟩
   · simp only [ai,cF,gC]; omega
   · unfold uD
     simp only [List.append_assoc,List.cons_append,List.nil_append]
 by_cases h0:rows=[]
 · refine ⟨_,H.length,_,hbase,hlen,rfl,hg 10,hg 8,hkN,rfl,hhh,ax _,by omega,by omega,by omega,fun h=>absurd h0 h,fun _=>⟨rfl,?_⟩⟩
   subst h0
   by_cases hvn:vc=.nilSlice
   · left; rw [hvn]; rfl
   · right
     have hc:bp 5 ([]:List (List AV)).length vc (H.length+12)=.slice (H.length+12) 0 5 0 0 true:=by
       cases vc <;> first | rfl | exact absurd rfl hvn
     have hL:bo 66 vc ([]:List (List AV)).flatten=[.cells [] 66]:=by
       cases vc <;> first | rfl | exact absurd rfl hvn
     refine ⟨hc,by rw [hL]; simp,?_⟩
     have:=hgL 0
     rw [hL] at this
     exact this
 · have hcl:=hnl h0
   refine ⟨_,H.length+13,_,hbase,hlen,rfl,hg 10,hg 8,hkN,rfl,hhh,by omega,by rw [hcl]; simp,by omega,by omega,fun _=>⟨rfl,?_⟩,fun h=>absurd h h0⟩
   have:=hgL 1
   rw [hcl] at this
   exact this
end Go.Dv
