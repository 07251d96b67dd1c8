/- Part 38 of the walks (own work). -/
import Derived.Test.YtilpjnckfkjkbaaGreatDoorS37
import Derived.WalkKit
import Derived.ProofKit
import Derived.OpenShut
import Derived.SizedLaws
open Array renaming getElem?_eq_some_iff→yk
open Bool renaming and_eq_true→aD,not_eq_true'→ba,true_and→aZ
open List renaming append_assoc→aE,append_nil→af,getElem?_append_left→aq,getElem?_append_right→aw,getElem?_eq_getElem→aj,getElem?_map→aI,length_cons→b6,length_map→au,length_nil→gj,length_reverse→jt,map_reverse→vn,mem_append→bJ,mem_cons_of_mem→jd,mem_cons_self→jN,mem_iff_getElem→fO,mem_map→bY,mem_reverse→kR
open Nat renaming le_refl→ax,lt_or_ge→aY,sub_self→dI,zero_le→fy
open Option renaming bind_eq_some_iff→ae,map_eq_some_iff→ah
open Go.Proofs.Tryz renaming prog→aa
set_option maxRecDepth 100000
set_option maxHeartbeats 4000000
set_option linter.unusedSimpArgs false
set_option linter.unusedVariables false
namespace Go.Dv
open Go.Proofs
attribute [local congr] aH bP bj bO bQ
def nkL (xs:List Itm):Bool:=bA (fun k=>!eqB (bB xs k).kind 0) xs.length 0
def noL (ss:List (List Itm)):Bool:=bA (fun i=>nkL (aR ss i)) ss.length 0
theorem Oz {ss:List (List Itm)} (h:noL ss=true):∀ l∈ss,∀ x∈l,x.kind≠0:=by
 unfold noL at h
 rw [dy] at h
 intro l hl x hx
 obtain ⟨i,hi,rfl⟩:=fO.1 hl
 have h1:=h i hi
 unfold nkL at h1
 rw [dy] at h1
 have e:aR ss i=ss[i]:=by unfold aR; rw [dr hi]
 rw [e] at h1
 obtain ⟨k,hk,rfl⟩:=fO.1 hx
 have h2:=h1 k hk
 have e2:bB ss[i] k=ss[i][k]:=by unfold bB; rw [dr hk]
 rw [e2,ba,<-Bool.not_eq_true,cX] at h2
 exact h2
theorem Sl {K:AH} {ss:List (List Itm)} {vs va:AV} {b1 b3:Nat} (hs:da K ss vs) (hp1:ak K b1 2 1=some [vs]) {i:Nat} (hi:i < ss.length):∀ (d j:Nat) (tm:List AV),(aR ss i).length - j=d->j<=(aR ss i).length->(tm.length=182/\tm.getD 1 uA=.ptr b1 0/\tm.getD 3 uA=.ptr b3 0/\tm.getD 5 uA=va/\tm.getD 13 uA=I (i:Nat)/\tm.getD 14 uA=I ((j:Nat):Int)) ->
   (bA (fun k=>!eqB (bB (aR ss i) k).kind 0) (aR ss i).length j=true->∃ X,EvC aa C0 W0 pl7 OO (tm,K)=some (.exit 4,(X,K))/\(X.length=182/\X.getD 1 uA=.ptr b1 0/\X.getD 3 uA=.ptr b3 0/\X.getD 5 uA=va/\X.getD 13 uA=I (i:Nat)))/\(bA (fun k=>!eqB (bB (aR ss i) k).kind 0) (aR ss i).length j=false->∃ Y,EvC aa C0 W0 pl7 OO (tm,K)=some (.ret,(Y,K))/\Y.length=182/\Y.getD 2 uA=.bool true):=by
 have h9:=ev9 K
 obtain ⟨i0,k0,w,hix0,hrd0,hx⟩:=hs.at (al.refl K) hi
 have hrd0:=hrd0 []
 rw [af] at hrd0
 have hln:=hx.len
 have hxn:=hx.n
 intro d
 induction d with
 | zero =>
   intro j tm hd hj hI
   have hjl:j=(aR ss i).length:=by omega
   obtain ⟨hlen,c1,c3,c5,c13,c14⟩:=hI
   have hlt:ltB (j:Int) ((aR ss i).length:Nat)=false:=db (by omega)
   rw [cN (by omega),Qo]
   refine ⟨fun _=>?_,fun h=>(by cases h)⟩
   simp -implicitDefEqProofs only [Mf,Tryz.f7,aP,hlen,c1,c3,c5,c13,c14,hlt,hp1,hix0,hrd0,hln,jC,r5,↓az,nck,↓cbT,↓cbF,↓ao,an,eu,sevalprocAttr]
   exact ⟨_,rfl,by simp only [ls,hlen],by simp only [hlen,c1,c3,c5,c13,gB,and_self,sevalprocAttr]⟩
 | succ d ih =>
   intro j tm hd hj hI
   obtain ⟨hlen,c1,c3,c5,c13,c14⟩:=hI
   have hjN:j < (aR ss i).length:=by omega
   have hlt:ltB (j:Int) ((aR ss i).length:Nat)=true:=cQ (by omega)
   have hw:=cD (j:=j) (by omega)
   obtain ⟨i1,k1,w1,hix1,hrd1,_⟩:=hx.at (al.refl K) hjN
   have hrd1:=hrd1 []
   rw [af] at hrd1
   have hk:=jU hrd1 (j:=0) rfl
   rw [Nat.add_zero] at hk
   rw [ch hjN,Qo]
   cases hp:eqB (bB (aR ss i) j).kind 0 with
   | true =>
     refine ⟨fun h=>(by cases h),fun _=>?_⟩
     simp -implicitDefEqProofs only [Mf,Tryz.f7,aP,hlen,c1,c3,c5,c13,c14,hlt,hp1,hix0,hrd0,hln,hix1,hk,jC,As,hp,↓fc9,h9,r5,↓az,nck,↓cbT,↓cbF,↓ao,an,eu,sevalprocAttr]
     exact ⟨_,rfl,by simp only [ls,hlen],by simp only [hlen,gB,sevalprocAttr]⟩
   | false =>
     simp only [Bool.not_false,aZ]
     simp -implicitDefEqProofs only [Mf,Tryz.f7,aP,hlen,c1,c3,c5,c13,c14,hlt,hw,hp1,hix0,hrd0,hln,hix1,hk,jC,As,hp,r5,↓az,nck,↓cbT,↓cbF,↓ao,an,eu,sevalprocAttr]
     exact ih (j+1) _ (by omega) (by omega) ⟨by simp only [ls,hlen],by simp only [hlen,c1,c3,c5,c13,gB,and_self,sevalprocAttr]⟩
theorem OU {K:AH} {ss:List (List Itm)} {vs va:AV} {b1 b3:Nat} (hs:da K ss vs) (hp1:ak K b1 2 1=some [vs]) {i:Nat} (hi:i < ss.length) {tm:List AV} {Z:Option (bu × St)} (hX:EvC aa C0 W0 pl7 OO (tm,K)=Z) (hI:tm.length=182/\tm.getD 1 uA=.ptr b1 0/\tm.getD 3 uA=.ptr b3 0/\tm.getD 5 uA=va/\tm.getD 13 uA=I (i:Nat)/\tm.getD 14 uA=I ((0:Nat):Int)) :
   (bA (fun k=>!eqB (bB (aR ss i) k).kind 0) (aR ss i).length 0=true->∃ X,Z=some (.exit 4,(X,K))/\(X.length=182/\X.getD 1 uA=.ptr b1 0/\X.getD 3 uA=.ptr b3 0/\X.getD 5 uA=va/\X.getD 13 uA=I (i:Nat)))/\(bA (fun k=>!eqB (bB (aR ss i) k).kind 0) (aR ss i).length 0=false->∃ Y,Z=some (.ret,(Y,K))/\Y.length=182/\Y.getD 2 uA=.bool true):=by
 subst hX
 exact Sl hs hp1 hi _ 0 tm rfl (fy _) hI
theorem OT {K:AH} {ss:List (List Itm)} {vs va:AV} {b1 b3:Nat} (hs:da K ss vs) (hp1:ak K b1 2 1=some [vs]):∀ (d j:Nat) (tm:List AV),ss.length - j=d->j<=ss.length->(tm.length=182/\tm.getD 1 uA=.ptr b1 0/\tm.getD 3 uA=.ptr b3 0/\tm.getD 5 uA=va/\tm.getD 13 uA=I ((j:Nat):Int)) ->
   (bA (fun i=>nkL (aR ss i)) ss.length j=true->∃ X,EvC aa C0 W0 pl7 ON (tm,K)=some (.exit 2,(X,K))/\(X.length=182/\X.getD 1 uA=.ptr b1 0/\X.getD 3 uA=.ptr b3 0/\X.getD 5 uA=va))/\(bA (fun i=>nkL (aR ss i)) ss.length j=false->∃ Y,EvC aa C0 W0 pl7 ON (tm,K)=some (.ret,(Y,K))/\Y.length=182/\Y.getD 2 uA=.bool true):=by
 have hln:=hs.len
 have hsn:=hs.n
 intro d
 induction d with
 | zero =>
   intro j tm hd hj hI
   have hjl:j=ss.length:=by omega
   obtain ⟨hlen,c1,c3,c5,c13⟩:=hI
   have hlt:ltB (j:Int) (ss.length:Nat)=false:=db (by omega)
   rw [cN (by omega),Qn]
   refine ⟨fun _=>?_,fun h=>(by cases h)⟩
   simp -implicitDefEqProofs only [PE,Tryz.f7,aP,hlen,c1,c3,c5,c13,hlt,hp1,hln,jC,r5,↓az,nck,↓cbT,↓cbF,↓ao,an,eu,sevalprocAttr]
   exact ⟨_,rfl,by simp only [ls,hlen],by simp only [hlen,c1,c3,c5,gB,and_self,sevalprocAttr]⟩
 | succ d ih =>
   intro j tm hd hj hI
   obtain ⟨hlen,c1,c3,c5,c13⟩:=hI
   have hjN:j < ss.length:=by omega
   have hlt:ltB (j:Int) (ss.length:Nat)=true:=cQ (by omega)
   have hw:=cD (j:=j) (by omega)
   rw [ch hjN,Qn]
   simp -implicitDefEqProofs only [PE,Tryz.f7,aP,hlen,c1,c3,c5,c13,hlt,hp1,hln,jC,r5,↓az,nck,↓cbT,↓cbF,↓ao,an,eu,sevalprocAttr]
   generalize hX:EvC aa C0 W0 pl7 (Code.loop _) _=Z
   obtain ⟨hT,hF⟩:=OU (va:=va) (b3:=b3) hs hp1 hjN hX ⟨by simp only [ls,hlen],Aj4 (by simp only [hlen,c1,c3,c5,c13,gB,and_self,sevalprocAttr]) (by simp only [hlen,gB,sevalprocAttr]; try rfl)⟩
   cases hp:nkL (aR ss j) with
   | false =>
     obtain ⟨Y,e,y0,y2⟩:=hF hp
     subst e
     refine ⟨fun h=>(by cases h),fun _=>?_⟩
     simp -implicitDefEqProofs only [y0,↓cbT,↓cbF,↓ao,an,eu,sevalprocAttr]
     exact ⟨_,rfl,y0,y2⟩
   | true =>
     obtain ⟨X,e,x0,x1,x3,x5,x13⟩:=hT hp
     subst e
     simp only [aZ]
     simp -implicitDefEqProofs only [x0,x1,x3,x5,x13,hw,↓cbT,↓cbF,↓ao,an,eu,sevalprocAttr]
     exact ih (j+1) _ (by omega) (by omega) ⟨by simp only [ls,x0],by simp only [x0,x1,x3,x5,gB,and_self,sevalprocAttr]⟩
theorem JO {K:AH} {ss:List (List Itm)} {vs va:AV} {b1 b3:Nat} (hs:da K ss vs) (hp1:ak K b1 2 1=some [vs]) {tm:List AV} {Z:Option (bu × St)} (hX:EvC aa C0 W0 pl7 ON (tm,K)=Z) (hI:tm.length=182/\tm.getD 1 uA=.ptr b1 0/\tm.getD 3 uA=.ptr b3 0/\tm.getD 5 uA=va/\tm.getD 13 uA=I ((0:Nat):Int)) :
   (bA (fun i=>nkL (aR ss i)) ss.length 0=true->∃ X,Z=some (.exit 2,(X,K))/\(X.length=182/\X.getD 1 uA=.ptr b1 0/\X.getD 3 uA=.ptr b3 0/\X.getD 5 uA=va))/\(bA (fun i=>nkL (aR ss i)) ss.length 0=false->∃ Y,Z=some (.ret,(Y,K))/\Y.length=182/\Y.getD 2 uA=.bool true):=by
 subst hX
 exact OT hs hp1 _ 0 tm rfl (fy _) hI
end Go.Dv
namespace Go.Dv
open Go.Proofs
theorem zo {cs:List Cod} {m:List (List Int)} {ss:List (List Itm)} {f:Con} (h:fG cs m ss f=0):tf f=true/\uL cs=true/\oV cs m ss=true/\yb cs m ss=true:=by
 have hs:=za h
 unfold fG at h
 cases h0:tf f && uL cs with
 | false=>rw [h0] at h; cases h
 | true =>
   rw [h0,hs] at h
   rw [aD] at h0
   cases h2:yb cs m ss with
   | false=>rw [h2] at h; cases h
   | true=>exact ⟨h0.1,h0.2,hs,rfl⟩
theorem LZ {cs:List Cod} {m:List (List Int)} {ss:List (List Itm)} {f:Con} (h1:tf f=true) (h2:uL cs=true) (h3:oV cs m ss=true) (h4:yb cs m ss=true):fG cs m ss f=0:=by
 unfold fG
 rw [h1,h2,h3,h4]; rfl
theorem zn {cs:List Cod} {m:List (List Int)} {ss:List (List Itm)} {f:Con} (h:fG cs m ss f=0):fG cs m ss fm=0:=by
 obtain ⟨_,h2,h3,h4⟩:=zo h
 exact LZ rfl h2 h3 h4
theorem Pt {cs:List Cod} {m:List (List Int)} {ss:List (List Itm)} {f:Con} (hl:∀ l∈ss,l.length < 2 ^ 50) (h:fG cs m ss f=0):fG cs m ss.reverse f=0:=by
 have hg:=mP hl h
 obtain ⟨h1,h2,h3,h4⟩:=zo h
 refine LZ h1 h2 ?_ ?_
 · unfold oV at h3 ⊢
   simp only [aD,ba,fe] at h3 ⊢
   obtain ⟨⟨⟨⟨⟨a1,a2⟩,a3⟩,a4⟩,a5⟩,a6⟩:=h3
   have hn4:=hg.n4
   obtain ⟨s1,_⟩:=vL (ss:=ss.reverse) (fun l hl'=>hl l (kR.1 hl')) ss.reverse.length (ax _) (by rw [jt]; omega)
   rw [List.take_of_length_le (by rw [au]; exact ax _),vn,List.sum_reverse] at s1
   have s3:=hg.few
   rw [s1,jt]
   exact ⟨⟨⟨⟨⟨a1,a2⟩,a3⟩,by omega⟩,a5⟩,a6⟩
 · unfold yb
   rw [dy]
   intro i hi
   unfold lh
   rw [dy]
   intro k hk
   have m1:aR ss.reverse i∈ss.reverse:=gO hi
   exact hg.it _ (kR.1 m1) _ (fu hk)
theorem wQ (ss:List (List Itm)):qS ss.reverse=(qS ss).reverse:=by unfold qS; rw [vn]
theorem Ok {cs:List Cod} {m:List (List Int)} {ss:List (List Itm)} {f:Con} (hg:Good cs m ss f) (hr:Good cs m ss.reverse f):w6 cs ss.reverse=w6 cs ss:=by
 rw [z5 hg,z5 hr,wQ,Qu.Bi]
theorem HI {G K:AH} {b1 b3:Nat} {vc vm vs rv:AV} {f:Con} {l:List (List Itm × AV)} (h:CE G K b1 b3 vc vm vs rv f (l.reverse.map (·.2))) (hl:∀ p∈l,dA G p.1 p.2) (hn:l.length < 2 ^ 50):da K (l.map (·.1)).reverse rv:=by
 refine ⟨⟨l.reverse,vn,?_,fun p hp=>(hl p (kR.1 hp)).aX h.ag⟩,by rw [jt,au]; exact hn⟩
 have:=h.ex.own
 rw [<-pF] at this
 exact this.nz BC (by decide) fun r hr=>by obtain ⟨p,_,rfl⟩:=bY.1 hr; rfl
theorem KT {cs:List Cod} {m m1 m2:List (List Int)} {ss:List (List Itm)} {f:Con} (hg:Good cs m ss f) (hnl:∀ l∈ss,∀ x∈l,x.kind≠0) (ho:w6 cs ss=true) {ad1 ad2:List Nat} {rc1 rc2:List Bool} (t1:Trod ss m ad1 m1 rc1) (t2:Trod ss.reverse m ad2 m2 rc2) (e1:td ss ad1 rc1=0) (b1:nk ss ad1 rc1=true) (e2:td ss.reverse ad2 rc2=0) (b2:nk ss.reverse ad2 rc2=true):m1=m2:=by
 have z:∀ {ss:List (List Itm)} {ad:List Nat} {rc:List Bool},td ss ad rc=0->nk ss ad rc=true->(fh ss ad ss.length).sum=0:=fun {ss ad rc} h hb=>by
   by_cases h0:(fh ss ad ss.length).sum=0
   · exact h0
   · exfalso
     unfold nk at hb
     rw [Bool.or_eq_true] at hb
     rcases hb with hb | hb
     · exact h0 (by simpa using hb)
     · have hr:dv ss ad rc ss.length=[]:=by simpa using hb
       unfold td at h
       rw [if_neg h0,if_pos hr] at h
       cases h
 obtain ⟨L1,h1,rfl⟩:=t1
 obtain ⟨L2,h2,rfl⟩:=t2
 rw [wQ] at h2 ⊢
 have z1:=z e1 b1
 have z2:=z e2 b2
 rw [<-z8] at z1 z2
 rw [wQ] at z2
 rw [z5 hg] at ho
 exact Qu.HY (IP hg hnl) ho h1 z1 h2 z2 m
end Go.Dv
namespace Go.Dv
open Go.Proofs
attribute [local congr] aH bP bj bO bQ
theorem ev7 {H:AH} {cs:List Cod} {m:List (List Int)} {ss:List (List Itm)} {vc vm vs:AV} (hc:cO H cs vc) (hm:dc H m vm) (hs:da H ss vs) (f:Con):∃ K,Ev aa C0 W0 7 [.agg [vc,vm,vs,I f.w,.bool f.free,I f.cores,I f.slots,I f.room,I f.pol,I f.lat]] H=some (.bool true,K):=by
 obtain ⟨tm,ht,g0,g1⟩:=tm1 (.agg [vc,vm,vs,I f.w,.bool f.free,I f.cores,I f.slots,I f.room,I f.pol,I f.lat]) 182 (by decide)
 rw [fe7,ht]
 have e00:eqB 0 0=true:=rfl
 have hxl:∀ l∈ss,l.length < 2 ^ 50:=fun xs hx=>by
   obtain ⟨⟨l2,e2,_,h2⟩,_⟩:=hs
   rw [<-e2] at hx
   obtain ⟨p,hp,rfl⟩:=bY.1 hx
   exact (h2 p hp).n
 have hA0:=al.app H [.cells [vc,vm,vs,I f.w,.bool f.free,I f.cores,I f.slots,I f.room,I f.pol,I f.lat] 29]
 have hpl:(H++[bo.cells [vc,vm,vs,I f.w,.bool f.free,I f.cores,I f.slots,I f.room,I f.pol,I f.lat] 29])[H.length]? =some (.cells [vc,vm,vs,I f.w,.bool f.free,I f.cores,I f.slots,I f.room,I f.pol,I f.lat] 29):=by rw [aw (ax _),dI]; rfl
 have hput:∀ o,put none H o=some (H.length,H++[o]):=fun _=>rfl
 have hc0:=hc.aX hA0
 have hm0:=hm.aX hA0
 have hs0:=hs.aX hA0
 have hHl:H.length < (H++[bo.cells [vc,vm,vs,I f.w,.bool f.free,I f.cores,I f.slots,I f.room,I f.pol,I f.lat] 29]).length:=by simp
 generalize hKe:H++[bo.cells [vc,vm,vs,I f.w,.bool f.free,I f.cores,I f.slots,I f.room,I f.pol,I f.lat] 29]=G1 at *
 have ra:ak G1 H.length 0 10=some [vc,vm,vs,I f.w,.bool f.free,I f.cores,I f.slots,I f.room,I f.pol,I f.lat]:=by unfold ak; rw [hpl]; rfl
 have h8:=ev8 hc0 hm0 hs0 f
 have oc:vc.one=true:=by obtain ⟨⟨l,_,h,_⟩,_⟩:=hc; exact h.one
 have om:vm.one=true:=by obtain ⟨⟨l,_,h,_⟩,_⟩:=hm; exact h.one
 have os:vs.one=true:=by obtain ⟨⟨l,_,h,_⟩,_⟩:=hs; exact h.one
 have h9:=ev9 G1
 cases hr:Nd cs m ss f with
 | false =>
   rw [hr] at h8
   refine ⟨G1,?_⟩
   simp -implicitDefEqProofs only [c7,Tryz.f7,aP,g0,g1,hput,hKe,ra,Jn,↓fc8,h8,↓fc9,h9,r5,↓az,nck,↓cbT,↓cbF,↓ao,an,eu,sevalprocAttr]
 | true =>
   rw [hr] at h8
   have hk:fG cs m ss f=0:=by
     unfold Nd at hr
     rw [aD,cX] at hr
     exact hr.2
   have hkr:=Pt hxl hk
   have hg:=mP hxl hk
   have hxr:∀ l∈ss.reverse,l.length < 2 ^ 50:=fun l h=>hxl l (kR.1 h)
   have hgr:=mP hxr hkr
   have hkp:=zn hk
   have hkrp:=zn hkr
   have hgp:=mP hxl hkp
   have hgrp:=mP hxr hkrp
   have hn4:=hg.n4
   have hls:=hs0.len
   have hput1:∀ o,put none G1 o=some (G1.length,G1++[o]):=fun _=>rfl
   have r2L:∀ L,ak (G1++L) H.length 2 1=some [vs]:=fun L=>by rw [eQ hpl L]; rfl
   have hwn:IntKind.i64.wrap (((ss.length:Nat):Int) - 1)=((ss.length:Int) - 1):=IntWalk.i64_in _ (by omega)
   obtain ⟨⟨l,hl1,hl2,hl3⟩,hln⟩:=id hs0
   have hll:l.length=ss.length:=by rw [<-hl1,au]
   simp -implicitDefEqProofs only [c7,Tryz.f7,aP,g0,g1,hput,hKe,ra,Jn,↓fc8,h8,z29,Uj,Q8,hput1,oc,om,os,jC,r2L,hls,hwn,r5,↓az,nck,↓cbT,↓cbF,↓ao,an,eu,sevalprocAttr]
   generalize hX:EvC aa C0 W0 pl7 (Code.loop _) _=Z
   obtain ⟨X,K1,rv,he,x0,x1,x3,hRv⟩:=Rd (G:=G1) (b1:=H.length) (b3:=G1.length) (vc:=vc) (vm:=vm) (f:=f) hl2 hl3 (by omega) hX (by simp only [ls,g0]) (by simp only [g0,gB,sevalprocAttr]) (by simp only [g0,gB,sevalprocAttr]) (by simp only [g0,hll,gB,sevalprocAttr]) ⟨al.app _ _,hpl,by rw [aw (ax _),dI]; rfl,ax _,.inl ⟨rfl,rfl⟩,fun e=>(by cases e),fun i e=>(by cases e)⟩
   subst he
   have hsR:=HI hRv hl3 (by omega)
   rw [hl1] at hsR
   have A1:=hRv.ag
   have hp1:=A1.get hRv.h1
   have hp3:=hRv.h3
   have rd1:∀ {K:AH},Sub K1 K->∀ i n xs,(([vc,vm,vs,I f.w,.bool f.free,I f.cores,I f.slots,I f.room,I f.pol,I f.lat]:List AV).drop i).take n=xs->i+n<=10->ak K H.length i n=some xs:=fun h i n xs e hin=>h.rd (by unfold ak; rw [hp1]; simp only [b6,gj]; rw [if_pos (by omega),e])
   have rd3:∀ {K:AH},Sub K1 K->∀ i n xs,(([vc,vm,rv,I f.w,.bool f.free,I f.cores,I f.slots,I f.room,I f.pol,I f.lat]:List AV).drop i).take n=xs->i+n<=10->ak K G1.length i n=some xs:=fun h i n xs e hin=>h.rd (by unfold ak; rw [hp3]; simp only [b6,gj]; rw [if_pos (by omega),e])
   have S1:=(al.refl K1).sub
   have a0:=rd1 S1 0 1 [vc] rfl (by decide)
   have a1:=rd1 S1 1 1 [vm] rfl (by decide)
   have a2:=rd1 S1 2 1 [vs] rfl (by decide)
   have b0:=rd3 S1 0 1 [vc] rfl (by decide)
   have b1:=rd3 S1 1 1 [vm] rfl (by decide)
   have b2:=rd3 S1 2 1 [rv] rfl (by decide)
   have h18:=SH (hc0.aX A1) (hm0.aX A1) (hs0.aX A1) hkp hgp
   have h18r:=SH (hc0.aX A1) (hm0.aX A1) hsR hkrp hgrp
   rw [Ok hg hgr] at h18r
   obtain ⟨v1,e1,K2,h19,S2,_,hW1⟩:=WD (hc0.aX A1) (hm0.aX A1) (hs0.aX A1) hkp hgp
   obtain ⟨v2,e2,K3,h19r,S3,_,hW2⟩:=WD ((hc0.aX A1).sub S2) ((hm0.aX A1).sub S2) (hsR.sub S2) hkrp hgrp
   have he:e2=e1:=by
     have ha:Qu.gK (qS ss.reverse)↔Qu.gK (qS ss):=by rw [wQ]; exact Qu.FK _
     rcases hW1 with ⟨p,_,q⟩ | ⟨p,q,_⟩ <;> rcases hW2 with ⟨u,_,w⟩ | ⟨u,w,_⟩
     · omega
     · exact absurd (ha.1 w) q
     · exact absurd (ha.2 q) w
     · omega
   subst he
   have hee:=bw e2
   have c0:=rd3 S2 0 1 [vc] rfl (by decide)
   have c1:=rd3 S2 1 1 [vm] rfl (by decide)
   have c2:=rd3 S2 2 1 [rv] rfl (by decide)
   have S13:=S2.trans S3
   have d2:=rd1 S13 2 1 [vs] rfl (by decide)
   have hs3:=(hs0.aX A1).sub S13
   simp -implicitDefEqProofs only [x0,x1,x3,a0,a1,a2,b0,b1,b2,c0,c1,c2,ku,pJ,jC,↓We,h18,h18r,↓ZL,h19,h19r,e00,hee,bn4,bne_self_eq_false,r5,↓az,nck,↓cbT,↓cbF,↓ao,an,eu,sevalprocAttr]
   generalize hX:EvC aa C0 W0 pl7 (Code.loop _) _=Z
   obtain ⟨hT,hF⟩:=JO (va:=.bool (w6 cs ss)) (b1:=H.length) (b3:=G1.length) hs3 d2 hX ⟨by simp only [ls,x0],Aj3 (by simp only [x0,x1,x3,gB,and_self,sevalprocAttr]) (by simp only [x0,gB,sevalprocAttr]; try rfl)⟩
   cases hN:noL ss with
   | false =>
     obtain ⟨Y,e,y0,y2⟩:=hF hN
     subst e
     refine ⟨K3,?_⟩
     simp -implicitDefEqProofs only [y0,y2,↓cbT,↓cbF,↓ao,an,eu,sevalprocAttr]
   | true =>
     obtain ⟨X2,e,w0,w1,w3,w5⟩:=hT hN
     subst e
     have hnl:=Oz hN
     have hnlr:∀ l∈ss.reverse,∀ x∈l,x.kind≠0:=fun l h=>hnl l (kR.1 h)
     obtain ⟨n1,K4,ad1,m1,rc1,h17,S4,_,hm1,_,t1,z1,_⟩:=Pb ((hc0.aX A1).sub S13) ((hm0.aX A1).sub S13) hs3 f hk hnl
     have S14:=S13.trans S4
     obtain ⟨n2,K5,ad2,m2,rc2,h17r,S5,_,hm2,_,t2,z2,_⟩:=Pb ((hc0.aX A1).sub S14) ((hm0.aX A1).sub S14) (hsR.sub S14) f hkr hnlr
     have h95:=ev9 K5
     have f0:=rd1 S13 0 1 [vc] rfl (by decide)
     have f1:=rd1 S13 1 1 [vm] rfl (by decide)
     have f3:=rd1 S13 3 7 (d8 f) rfl (by decide)
     have k0:=rd3 S14 0 1 [vc] rfl (by decide)
     have k1:=rd3 S14 1 1 [vm] rfl (by decide)
     have k2:=rd3 S14 2 1 [rv] rfl (by decide)
     have k3:=rd3 S14 3 7 (d8 f) rfl (by decide)
     have q1:=wE (At hg) t1 z1
     have q2:=wE (At hgr) t2 z2
     have ha:Qu.gK (qS ss.reverse)↔Qu.gK (qS ss):=by rw [wQ]; exact Qu.FK _
     rw [ha] at q2
     have e11:eqB 11 11=true:=rfl
     have e110:eqB 11 0=false:=rfl
     refine ⟨K5,?_⟩
     rcases q1 with ⟨q1,qa⟩ | ⟨q1,qa⟩
     · rcases q2 with ⟨q2,_⟩ | ⟨_,qb⟩
       · cases hB:w6 cs ss with
         | false =>
           rw [hB] at w5
           rw [q1] at h17
           rw [q2] at h17r
           simp only [d8] at h17 h17r f3 k3
           simp -implicitDefEqProofs only [w0,w1,w3,w5,f0,f1,d2,f3,k0,k1,k2,k3,ku,pJ,jC,rU,yR,↓DL,h17,h17r,e00,e11,e110,↓fc9,h95,r5,↓az,nck,↓cbT,↓cbF,↓ao,an,eu,sevalprocAttr]
         | true =>
           have hmm:=KT hg hnl hB t1 t2 q1 z1 q2 z2
           subst hmm
           have h25:=WB (hm1.sub S5) hm2
           rw [hB] at w5
           rw [q1] at h17
           rw [q2] at h17r
           simp only [d8] at h17 h17r f3 k3
           simp -implicitDefEqProofs only [w0,w1,w3,w5,f0,f1,d2,f3,k0,k1,k2,k3,ku,pJ,jC,rU,yR,↓DL,h17,h17r,e00,e11,e110,↓Wc,h25,↓fc9,h95,r5,↓az,nck,↓cbT,↓cbF,↓ao,an,eu,sevalprocAttr]
       · exact absurd qa qb
     · rcases q2 with ⟨_,qb⟩ | ⟨q2,_⟩
       · exact absurd qb qa
       · rw [q1] at h17
         rw [q2] at h17r
         simp only [d8] at h17 h17r f3 k3
         cases hB:w6 cs ss with
         | false =>
           rw [hB] at w5
           simp -implicitDefEqProofs only [w0,w1,w3,w5,f0,f1,d2,f3,k0,k1,k2,k3,ku,pJ,jC,rU,yR,↓DL,h17,h17r,e00,e11,e110,↓fc9,h95,r5,↓az,nck,↓cbT,↓cbF,↓ao,an,eu,sevalprocAttr]
         | true =>
           rw [hB] at w5
           simp -implicitDefEqProofs only [w0,w1,w3,w5,f0,f1,d2,f3,k0,k1,k2,k3,ku,pJ,jC,rU,yR,↓DL,h17,h17r,e00,e11,e110,↓fc9,h95,r5,↓az,nck,↓cbT,↓cbF,↓ao,an,eu,sevalprocAttr]
end Go.Dv
namespace Go.Dv
theorem Env.le.trans' {φ ψ χ:Env} (h:φ.le ψ) (k:ψ.le χ):φ.le χ:=Env.le_trans h k
structure RdW (w:World) (φ:Env) (G:AH):Prop where
 wr:WR w (fun b=>b < w.heap.size) φ G w
 arg:∀ (i:Nat) (o:bo),G[i]? =some o->∃ cs,o=bo.arg cs
theorem RdW.nil (w:World):RdW w (fun _=>none) []:=⟨WR.start w,fun i o h=>by simp at h⟩
theorem RdW.push {w:World} {φ:Env} {G:AH} (h:RdW w φ G) {b off z:Nat} {cs:List AV} (hb:b < w.heap.size)
   (hc:∀ j v,cs[j]? =some v->∃ u,w.cell? ⟨b,off+j,none⟩=some u/\VR φ v u):φ.le (φ.set G.length (b,off,z))/\RdW w (φ.set G.length (b,off,z)) (G++[.arg cs]):=by
 have hle:=Env.rT (b,off,z) (h.wr.dom G.length (ax _))
 have hA:∀ (i:Nat) (o:bo),(G++[bo.arg cs])[i]? =some o->(∃ cs,o=bo.arg cs)/\((i < G.length/\G[i]? =some o)∨i=G.length/\o=.arg cs):=by
   intro i o hi
   rcases aY i G.length with hl | hl
   · rw [aq hl] at hi
     exact ⟨h.arg i o hi,.inl ⟨hl,hi⟩⟩
   · rw [aw hl] at hi
     cases hn:i - G.length with
     | zero =>
       rw [hn] at hi
       simp at hi
       exact ⟨⟨cs,hi.symm⟩,.inr ⟨by omega,hi.symm⟩⟩
     | succ n=>rw [hn] at hi; simp at hi
 have hno:∀ i,¬ jM (G++[bo.arg cs]) i:=by
   rintro i ⟨o,hi,hw⟩
   obtain ⟨⟨c,rfl⟩,_⟩:=hA i o hi
   cases hw
 refine ⟨hle,⟨⟨fun i hi=>?_,fun i hi=>?_,fun i x hx=>?_,fun i j x y hi=>absurd hi (hno i),fun i x hi=>absurd hi (hno i),fun i x c hi hx=>?_,fun i o hi=>?_,fun _ h=>h,ax _,rfl,rfl,rfl,fun _ _=>rfl⟩,fun i o hi=>(hA i o hi).1⟩⟩
 · simp at hi
   rw [Env.gD _ _ (by omega)]
   exact h.wr.dom i (by omega)
 · obtain ⟨⟨c,hc⟩,_⟩:=hA i _ hi
   cases hc
 · by_cases e:i=G.length
   · subst e; rw [Env.dU] at hx; cases hx; exact hb
   · rw [Env.gD _ _ e] at hx; exact h.wr.lt i x hx
 · by_cases e:i=G.length
   · subst e; rw [Env.dU] at hx; cases hx; exact hb
   · rw [Env.gD _ _ e] at hx; exact h.wr.lt i x hx
 · rcases (hA i o hi).2 with ⟨_,hg⟩ | ⟨rfl,rfl⟩
   · exact (h.wr.obj i o hg).ll hle fun _ _=>rfl
   · exact ⟨b,off,z,Env.dU _ _ _,fun j v hj=>(hc j v hj).imp fun u hu=>⟨hu.1,hu.2.mono hle⟩⟩
def gL {H:Type} (enc:TypeId × Value->H) (P:Program) (t:TypeId) (Q:AH->List AV->Prop):Prop:=
 ∀ (w:World) (base:Nat) (held:Bool) (fuel:Nat) (cs:List Value) (x:DataW H × List MemPlace),DataW.trod enc P w base (fun _=>true) held fuel t cs=some x->(∀ z∈x.1.weights P t,z<=reachBytes)->0 < w.heap.size ->
   ∀ φ G,RdW w φ G->∃ φ' L avs,RdW w φ' (G++L)/\φ.le φ'/\VRs φ' avs cs/\Q (G++L) avs
def gA (Q:AH->List AV->Prop):Prop:=∀ G L avs,Q G avs->Q (G++L) avs
section
variable {H:Type} {enc:TypeId × Value->H} {P:Program} {t:TypeId}
def iz (k:IntKind):AH->List AV->Prop:=fun _ avs=>∃ n,avs=[.int k n]/\(Lit.int k n).wf=true
def zF:AH->List AV->Prop:=fun _ avs=>∃ b,avs=[.bool b]
def D9:AH->List AV->Prop:=fun _ avs=>∃ s:ByteArray,avs=[.str s]/\s.size<=reachBytes
theorem Bn (k:IntKind):gA (iz k):=fun _ _ _ h=>h
theorem Gw:gA zF:=fun _ _ _ h=>h
theorem Jh:gA D9:=fun _ _ _ h=>h
theorem yM {k:IntKind} (ht:P.underlying t=some (.int k)):gL enc P t (iz k):=by
 intro w base held fuel cs x h _ _ φ G hG
 obtain ⟨n,rfl,_,hw⟩:=DataW.trod_int ht h
 exact ⟨φ,[],[.int k n],by rw [af]; exact hG,Env.le_refl φ,VRs.one rfl,n,rfl,hw⟩
theorem Dp (ht:P.underlying t=some .bool):gL enc P t zF:=by
 intro w base held fuel cs x h _ _ φ G hG
 obtain ⟨n,rfl,_⟩:=DataW.trod_bool ht h
 exact ⟨φ,[],[.bool n],by rw [af]; exact hG,Env.le_refl φ,VRs.one rfl,n,rfl⟩
theorem Gq (ht:P.underlying t=some .string):gL enc P t D9:=by
 intro w base held fuel cs x h hz _ φ G hG
 obtain ⟨s,rfl,rfl,_⟩:=DataW.trod_string ht h
 exact ⟨φ,[],[.str s],by rw [af]; exact hG,Env.le_refl φ,VRs.one rfl,s,rfl,by
   have:=hz s.data.toList.length (by simp [DataW.weights])
   rw [Array.length_toList] at this
   exact this⟩
def SlA (G:AH) (es:Nat) (v:AV) (rows:List (List AV)):Prop:=(v=.nilSlice/\rows=[])∨∃ i c,v=.slice i 0 es rows.length c true/\G[i]? =some (.arg rows.flatten)
def QSl (P:Program) (e:TypeId) (Q:AH->List AV->Prop):AH->List AV->Prop:=fun G avs=>∃ v rows,avs=[v]/\SlA G (P.cellsOf e) v rows/\(∀ r∈rows,r.length=P.cellsOf e/\Q G r)/\rows.length * P.bytesOf e<=reachBytes
theorem SlA.mono {G:AH} {es:Nat} {v:AV} {rows:List (List AV)} (h:SlA G es v rows) (L:AH):SlA (G++L) es v rows:=h.imp id fun ⟨i,c,e,hi⟩=>⟨i,c,e,by
 rw [aq]; exact hi
 rcases aY i G.length with hl | hl
 · exact hl
 · rw [List.getElem?_eq_none hl] at hi; cases hi⟩
theorem OI {e:TypeId} {Q:AH->List AV->Prop} (hQ:gA Q):gA (QSl P e Q):=fun G L avs ⟨v,rows,h1,h2,h3,h4⟩=>⟨v,rows,h1,h2.mono L,fun r hr=>⟨(h3 r hr).1,hQ G L r (h3 r hr).2⟩,h4⟩
theorem BO {es:Nat} (hes:0 < es):∀ (rows:List (List AV)),(∀ r∈rows,r.length=es)->∀ (n:Nat) (v:AV),rows.flatten[n]? =some v->∃ r,rows[n / es]? =some r/\r[n % es]? =some v
 | [],_,n,v,h=>by simp at h
 | r::rows,hr,n,v,h=>by
   have h0:=hr r jN
   rw [List.flatten_cons] at h
   rcases aY n es with hl | hl
   · rw [aq (by omega)] at h
     exact ⟨r,by rw [Nat.div_eq_of_lt hl]; rfl,by rw [Nat.mod_eq_of_lt hl]; exact h⟩
   · rw [aw (by omega),h0] at h
     obtain ⟨q,h1,h2⟩:=BO hes rows (fun q hq=>hr q (jd _ hq)) (n - es) v h
     obtain ⟨m,rfl⟩:=Nat.exists_eq_add_of_le hl
     rw [Nat.add_sub_cancel_left] at h1 h2
     rw [Nat.add_comm es m,Nat.add_div_right m hes,Nat.add_mod_right]
     exact ⟨q,by simpa using h1,h2⟩
theorem zp {w:World} {base:Nat} {a:Addr} {n:Nat} {cs:List Value} (h:w.cells? base a n=some cs):cs.length=n/\∀ i,i < n->w.cell? (a.add i)=cs[i]?:=by
 unfold World.cells? at h
 split at h
 · exact ⟨by simpa using mapM_some_length h,fun i hi=>mapM_some_get h i i (by simp [hi])⟩
 · cases h
theorem zq {w:World} {a:Addr} {v:Value} (h:w.cell? a=some v):a.spot=none/\a.block < w.heap.size:=by
 unfold World.cell? at h
 split at h
 · rename_i c e f hb
   split at h
   · cases h
   · rename_i hs
     exact ⟨by simpa using hs,(yk.1 hb).1⟩
 · cases h
theorem add_add (a:Addr) (n m:Nat):(a.add n).add m=a.add (n+m):=by
 unfold Addr.add
 by_cases hn:n=0
 · subst hn; simp
 · by_cases hm:m=0
   · subst hm; simp
   · rw [if_neg hn,if_neg hm,if_neg (by omega)]
     simp [Nat.add_assoc]
theorem o9 {e:TypeId}:∀ (l:List (DataW H)) (i:Nat) (d:DataW H),l[i]? =some d->∀ z∈d.weights P e,z∈DataW.weightsAll P e l
 | [],i,d,h=>by simp at h
 | x::l,0,d,h=>fun z hz=>by simp at h; subst h; simp only [DataW.weightsAll,bJ]; exact .inl hz
 | x::l,i+1,d,h=>fun z hz=>by simp only [DataW.weightsAll,bJ]; exact .inr (o9 l i d (by simpa using h) z hz)
theorem Bj {e:TypeId} {Q:AH->List AV->Prop} (ht:P.underlying t=some (.slice e)) (he0:0 < P.cellsOf e) (hm:gA Q) (hQ:gL enc P e Q):gL enc P t (QSl P e Q):=by
 intro w base held fuel cs x h hz hw φ G hG
 rcases DataW.trod_slice ht h with ⟨rfl,_⟩ | ⟨a,len,cap,elems,rest,n,_,rfl,rfl,_,hl,_,hel,he,hr,_⟩
 · exact ⟨φ,[],[.nilSlice],by rw [af]; exact hG,Env.le_refl φ,VRs.one rfl,.nilSlice,[],rfl,.inl ⟨rfl,rfl⟩,fun r hr=>by simp at hr,by simp⟩
 obtain ⟨hrl,hr⟩:=hr rfl
 generalize hes:P.cellsOf e=es at *
 have hwt:DataW.weights P t (.slice (elems.map (·.1)) (rest.map (·.1)))=((elems.map (·.1)).length+(rest.map (·.1)).length) * P.bytesOf e::(DataW.weightsAll P e (elems.map (·.1))++DataW.weightsAll P e (rest.map (·.1))):=by simp only [DataW.weights,ht]
 rw [hwt] at hz
 have hsz:len * P.bytesOf e<=reachBytes:=by
   have:=hz _ jN
   simp only [au,hel] at this
   exact Nat.le_trans (Nat.mul_le_mul_right _ (by omega)) this
 have hone:∀ i,i < cap->∃ c,w.cells? base (a.add (i * es)) es=some c:=by
   intro i hi
   have:∃ y,(w.cells? base (a.add (i * es)) es).bind (DataW.trod enc P w base (fun _=>true) held n e)=some y:=by
     rcases aY i len with hil | hil
     · rw [he i hil]; exact ⟨_,aj (by omega)⟩
     · have:=hr (i - len) (by omega)
       rw [show len+(i - len)=i by omega] at this
       rw [this]; exact ⟨_,aj (by omega)⟩
   obtain ⟨y,hy⟩:=this
   obtain ⟨c,hc,_⟩:=ae.1 hy
   exact ⟨c,hc⟩
 have rows:∀ m,m<=len->∃ (φ':Env) (L:AH) (rows:List (List AV)),RdW w φ' (G++L)/\φ.le φ'/\rows.length=m/\(∀ r∈rows,r.length=es/\Q (G++L) r)/\∀ (j:Nat) (r:List AV),rows[j]? =some r->∀ (i:Nat) (v:AV),r[i]? =some v->∃ u,w.cell? (a.add (j * es+i))=some u/\VR φ' v u:=by
   intro m
   induction m with
   | zero=>exact fun _=>⟨φ,[],[],by rw [af]; exact hG,Env.le_refl φ,rfl,fun r hr=>by simp at hr,fun j r hr=>by simp at hr⟩
   | succ m ih =>
     intro hm1
     obtain ⟨φ1,L1,rows,h1,h2,h3,h4,h5⟩:=ih (by omega)
     have hy:=he m (by omega)
     rw [aj (by omega:m < elems.length)] at hy
     obtain ⟨c,hc,hy⟩:=ae.1 hy
     obtain ⟨φ2,L2,avs,k1,k2,k3,k4⟩:=hQ w base held n c _ hy (fun z hz'=>hz z (jd _ (bJ.2 (.inl (o9 _ m _ (by rw [aI,aj (by omega:m < elems.length)]; rfl) z hz'))))) hw φ1 (G++L1) h1
     obtain ⟨hcl,hcg⟩:=zp hc
     have hal:avs.length=es:=by rw [<-hcl]; exact k3.length
     refine ⟨φ2,L1++L2,rows++[avs],by rw [<-aE]; exact k1,h2.trans' k2,by simp [h3],fun r hr=>?_,fun j r hj i v hv=>?_⟩
     · rw [<-aE]
       rcases bJ.1 hr with hr | hr
       · exact ⟨(h4 r hr).1,hm _ _ _ (h4 r hr).2⟩
       · simp at hr; subst hr; exact ⟨hal,k4⟩
     · rcases aY j rows.length with hl' | hl'
       · rw [aq hl'] at hj
         obtain ⟨u,hu,r'⟩:=h5 j r hj i v hv
         exact ⟨u,hu,r'.mono k2⟩
       · rw [aw hl'] at hj
         cases hjn:j - rows.length with
         | succ q=>rw [hjn] at hj; simp at hj
         | zero =>
           rw [hjn] at hj
           simp at hj
           subst hj
           obtain rfl:j=m:=by omega
           have hi:i < es:=by have:=aJ hv; omega
           obtain ⟨u,hu,r'⟩:=k3.get i v hv
           exact ⟨u,by rw [<-add_add,hcg i hi]; exact hu,r'⟩
 obtain ⟨φ1,L1,rs,h1,h2,h3,h4,h5⟩:=rows len (ax _)
 subst h3
 rcases Nat.eq_zero_or_pos cap with h0 | hpos
 · subst h0
   obtain rfl:rs=[]:=List.length_eq_zero_iff.1 (by omega)
   obtain ⟨k1,k2⟩:=h1.push (b:=0) (off:=0) (z:=0) (cs:=[]) hw (fun j v hj=>by simp at hj)
   refine ⟨_,L1++[.arg []],[.slice (G++L1).length 0 es 0 0 true],by rw [<-aE]; exact k2,h2.trans' k1,VRs.one ⟨a,0,rfl,ax _,⟨ax _,fun _=>rfl⟩,.inl rfl⟩,_,[],rfl,.inr ⟨_,0,by rw [hes]; rfl,?_⟩,fun r hr=>by simp at hr,by simp⟩
   rw [<-aE]; simp
 · obtain ⟨c0,hc0⟩:=hone 0 hpos
   obtain ⟨hl0,hg0⟩:=zp hc0
   have hsp:=zq (v:=c0[0]'(by omega)) (by
     have:=hg0 0 he0
     rw [Nat.zero_mul,add_add] at this
     rw [this]; exact aj (by omega))
   have ha0:a.add (0+0)=a:=by simp [Addr.add]
   rw [ha0] at hsp
   have hxa:∀ n,a.add n=⟨a.block,a.off+n,none⟩:=fun n=>by
     unfold Addr.add
     split
     · rename_i h; subst h
       obtain ⟨b,o,s⟩:=a
       simp at hsp ⊢; exact hsp.1
     · rfl
   obtain ⟨k1,k2⟩:=h1.push (b:=a.block) (off:=a.off) (z:=a.off+cap * es) (cs:=rs.flatten) hsp.2 (fun j v hj=>by
     obtain ⟨r,hr1,hr2⟩:=BO he0 rs (fun r hr=>(h4 r hr).1) j v hj
     obtain ⟨u,hu,r'⟩:=h5 _ r hr1 _ v hr2
     rw [hxa,show j / es * es+j % es=j by rw [Nat.mul_comm]; exact Nat.div_add_mod j es] at hu
     exact ⟨u,hu,r'⟩)
   refine ⟨_,L1++[.arg rs.flatten],[.slice (G++L1).length 0 es rs.length cap true],by rw [<-aE]; exact k2,h2.trans' k1,VRs.one ⟨a,cap,rfl,hl,⟨ax _,fun _=>rfl⟩,.inr ⟨a.block,a.off,a.off+cap * es,Env.dU _ _ _,?_,by omega⟩⟩,_,rs,rfl,.inr ⟨_,cap,by rw [hes],?_⟩,fun r hr=>?_,hsz⟩
   · have:=hxa 0
     rw [show a.add 0=a by simp [Addr.add]] at this
     exact this
   · rw [<-aE]; simp
   · rw [<-aE,hes]
     exact ⟨(h4 r hr).1,hm _ _ _ (h4 r hr).2⟩
def QL:List (TypeId × (AH->List AV->Prop))->AH->List AV->Prop
 | [],_,avs=>avs=[]
 | p::l,G,avs=>∃ a b,avs=a++b/\p.2 G a/\QL l G b
theorem EC:∀ {l:List (TypeId × (AH->List AV->Prop))},(∀ p∈l,gA p.2)->gA (QL l)
 | [],_=>fun _ _ _ h=>h
 | p::l,h=>fun G L avs ⟨a,b,e,h1,h2⟩=>⟨a,b,e,h p jN G L a h1,EC (fun q hq=>h q (jd _ hq)) G L b h2⟩
def pC (P:Program):Nat->List TypeId->List (TypeId × Nat)
 | _,[]=>[]
 | o,t::ts=>(t,o)::pC P (o+P.cellsOf t) ts
def qf (P:Program):List TypeId->Nat
 | []=>0
 | t::ts=>P.cellsOf t+qf P ts
def fieldsOf:Option TypeDesc->List (TypeId × Nat)
 | some (.struct fs)=>fs.toList.map fun f=>(f.type,f.offset)
 | _=>[]
theorem sM {w:World} {base n:Nat} {held:Bool} {cs:List Value} (hw:0 < w.heap.size):∀ (l:List (TypeId × (AH->List AV->Prop))) (o:Nat),(∀ p∈l,gL enc P p.1 p.2/\gA p.2)->cs.length=o+qf P (l.map (·.1)) ->
   (∀ (i:Nat) (u:TypeId) (off:Nat),(pC P o (l.map (·.1)))[i]? =some (u,off)->∃ y:DataW H × List MemPlace,DataW.trod enc P w base (fun _=>true) held n u ((cs.drop off).take (P.cellsOf u))=some y/\∀ z∈y.1.weights P u,z<=reachBytes) ->
   ∀ φ G,RdW w φ G->∃ φ' L avs,RdW w φ' (G++L)/\φ.le φ'/\VRs φ' avs (cs.drop o)/\QL l (G++L) avs
 | [],o,_,hl,_,φ,G,hG=>⟨φ,[],[],by rw [af]; exact hG,Env.le_refl φ,by
   simp [qf] at hl
   rw [List.drop_eq_nil_of_le (by omega)]; exact .nil _,rfl⟩
 | p::l,o,hp,hl,hf,φ,G,hG=>by
   simp only [List.map_cons,qf] at hl
   obtain ⟨y,hy,hz⟩:=hf 0 p.1 o rfl
   obtain ⟨φ1,L1,a1,h1,h2,h3,h4⟩:=(hp p jN).1 w base held n _ y hy hz hw φ G hG
   obtain ⟨φ2,L2,a2,k1,k2,k3,k4⟩:=sM hw l (o+P.cellsOf p.1) (fun q hq=>hp q (jd _ hq)) (by omega) (fun i u off hi=>hf (i+1) u off (by simpa [pC] using hi)) φ1 (G++L1) h1
   refine ⟨φ2,L1++L2,a1++a2,by rw [<-aE]; exact k1,h2.trans' k2,?_,a1,a2,rfl,?_,?_⟩
   · have e:cs.drop o=(cs.drop o).take (P.cellsOf p.1)++cs.drop (o+P.cellsOf p.1):=by rw [<-List.drop_drop,List.take_append_drop]
     rw [e]
     exact VRs.append (VRs.mono k2 _ _ h3) k3
   · rw [<-aE]; exact (hp p jN).2 _ _ _ h4
   · rw [<-aE]; exact k4
theorem z6 {l:List (TypeId × (AH->List AV->Prop))} (hf:fieldsOf (P.underlying t)=pC P 0 (l.map (·.1))) (hne:l≠[]) (hc:P.cellsOf t=qf P (l.map (·.1))) (hp:∀ p∈l,gL enc P p.1 p.2/\gA p.2):gL enc P t (QL l):=by
 intro w base held fuel cs x h hz hw φ G hG
 unfold fieldsOf at hf
 split at hf
 · rename_i fs ht
   obtain ⟨xs,n,_,rfl,hl,hx,he⟩:=DataW.trod_struct ht h
   have hwt:DataW.weights P t (.agg (xs.map (·.1)))=DataW.weightsEach P (fs.toList.map (·.type)) (xs.map (·.1)):=by simp only [DataW.weights,ht]
   rw [hwt] at hz
   have:=sM (enc:=enc) (base:=base) (n:=n) (held:=held) (cs:=cs) hw l 0 hp (by omega) (fun i u o hi=>by
     rw [<-hf,aI] at hi
     simp only [ah,Prod.mk.injEq] at hi
     obtain ⟨f,hfi,rfl,rfl⟩:=hi
     have hfi':fs[i]? =some f:=by simpa using hfi
     rw [he i f hfi']
     have hi2:i < xs.length:=by rw [hx]; exact (yk.1 hfi').1
     refine ⟨_,aj hi2,fun z hz'=>hz z ?_⟩
     exact DataW.weights_mem_each (j:=i) (by rw [aI,hfi]; rfl) (by rw [aI,aj hi2]; rfl) z hz') φ G hG
   rw [List.drop_zero] at this
   exact this
 · exfalso
   cases l with
   | nil=>exact hne rfl
   | cons p l=>cases hf
end
end Go.Dv
