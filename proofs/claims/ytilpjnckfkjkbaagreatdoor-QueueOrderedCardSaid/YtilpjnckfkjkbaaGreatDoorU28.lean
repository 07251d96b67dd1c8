/- Part 28 of the walks (own work). -/
import Derived.Test.YtilpjnckfkjkbaaGreatDoorU27
open Bool renaming and_eq_true→az,false_or→iC
open Int renaming natCast_zero→O3
open List renaming any_cons→cW,any_nil→dz,any_toArray→cj,any_toArray'→dn,append_assoc→aD,append_nil→af,contains_cons→uB,drop_zero→ib,getElem?_append_left→ar,getElem?_append_right→al,getElem?_eq_getElem→aj,getElem?_set_ne→ay,length_append→ai,length_cons→cR,length_map→ao,length_nil→gH,length_set→aq,length_singleton→eM,map_append→dE,map_cons→fI,nil_append→ig,range→bp,range_succ→jf,replicate_succ→cQ,replicate_zero→cG,size_toArray→dm,take_of_length_le→bt,zip→xm
open Nat renaming add_assoc→bN,add_sub_cancel_left→aN,le_add_right→dI,le_refl→aw,le_trans→bh,lt_of_lt_of_le→bF,mul_one→dM,sub_self→d9,zero_le→aV
open Option renaming bind_some→ax
open Go.Proofs.Tryz renaming prog→aa
set_option maxRecDepth 100000
set_option maxHeartbeats 4000000
set_option linter.unusedSimpArgs false
set_option linter.unusedVariables false
open Go.Proofs.Tryz (f43 f44 f72 f75 func72)
namespace Go.Dv
open Go.Proofs
attribute [local congr] aA bC aT bB bD
def js (c:Cod) (args:List Int) (j:Nat):List Nat:=((bp j).filter fun (i:Nat)=>iS c (i:Int)).map fun (i:Nat)=>(fS args i).toNat
theorem pd (c:Cod) (args:List Int) (j:Nat):js c args (j+1)=if iS c (j:Int) then js c args j++[(fS args j).toNat] else js c args j:=by unfold js;rw [jf,List.filter_append,dE];cases h:iS c (j:Int) <;> simp [h]
theorem Au (c:Cod) (args:List Int) (j:Nat):(js c args j).length<=j:=by unfold js;rw [ao];exact bh (List.length_filter_le _ _) (by rw [List.length_range]; exact aw _)
def fq (cs:List Cod) (x:Itm):List Nat:=
 if x.kind=0 then js (dj cs x.code.toNat) x.args (dj cs x.code.toNat).params.length
 else if x.kind=1 then [x.src.toNat,x.dst.toNat] else if x.kind=2 then [x.dst.toNat] else []
def iR (cs:List Cod) (x:Itm):List Nat:=
 if x.kind=0 then js (dj cs x.code.toNat) x.args (dj cs x.code.toNat).params.length
 else if x.kind=1 then [x.dst.toNat] else if x.kind=2 then [x.dst.toNat] else []
theorem lG {cs:List Cod} {m:List (List Int)} {x:Itm} (h:cC cs m x=true) (k:x.kind=0):(0<=x.code/\x.code.toNat < cs.length)/\x.args.length=(dj cs x.code.toNat).params.length /\
   ∀ j,j < (dj cs x.code.toNat).params.length->iS (dj cs x.code.toNat) (j:Int)=true->0<=fS x.args j/\fS x.args j < 6:=by unfold cC at h;rw [kP k,d7] at h;simp only [az,dC,dB] at h;obtain ⟨⟨⟨h1,h2⟩,h3⟩,_⟩:=h;unfold pq vW pN at h3;simp only [az,cP] at h3;obtain ⟨⟨⟨⟨h4,h5⟩,_⟩,_⟩,_⟩:=h3;refine ⟨⟨h1,by omega⟩,by omega,fun j hj hb=>?_⟩;have:=gz.1 h5 j hj;unfold jK at this;rw [hb,Bool.true_and,Bool.not_eq_true',Bool.or_eq_false_iff,fZ,oh] at this;omega
theorem yV (s:Option Nat) (a:Int) (H:AH):bn aa s 30 1 [(0,I a)] H=(put s H (.cells [I a] 3)).map fun p=>(.slice p.1 0 1 1 1 true,p.2):=by kernel_rfl
theorem On (s:Option Nat) (a b:Int) (H:AH):bn aa s 30 2 [(0,I a),(1,I b)] H=(put s H (.cells [I a,I b] 3)).map fun p=>(.slice p.1 0 1 2 2 true,p.2):=by kernel_rfl
theorem Uk {G:AH} {c:Cod} {vp vs vi va:AV} {x:Itm} {bx:Nat} (h:eW G c vp vs vi) (ha:SlS 32 1 G va (x.args.map dH)) (hbx:G[bx]? =some (.cells (aJ x va) 34)) (hn6:c.params.length<=6) (hal:x.args.length=c.params.length) (hpos:∀ j,j < c.params.length->iS c (j:Int)=true->0<=fS x.args j/\fS x.args j < 6) (hN:c.params.length < 2 ^ 60):∀ (d j:Nat) (tm:List AV) (K:AH) (Z:Option (bk × St)),EvC aa C0 W0 A8 SB (tm,K)=Z->c.params.length - j=d->j<=c.params.length->(tm.length=56/\an G K/\tm.getD 3 uA=.ptr bx 0/\tm.getD 17 uA=vp/\tm.getD 18 uA=I c.params.length/\tm.getD 19 uA=I ((j:Nat):Int)/\∃ v,tm.getD 4 uA=v/\Own G.length K 1 3 v ((js c x.args j).map fun (n:Nat)=>I (n:Int))) ->
   ∃ X K1,Z=some (.exit 1,(X,K1))/\(X.length=56/\an G K1/\X.getD 3 uA=.ptr bx 0/\X.getD 17 uA=vp/\X.getD 18 uA=I c.params.length/\X.getD 19 uA=I ((c.params.length:Nat):Int)/\∃ v,X.getD 4 uA=v/\Own G.length K1 1 3 v ((js c x.args c.params.length).map fun (n:Nat)=>I (n:Int))):=by
 intro d;induction d with
 | zero =>
   intro j tm K Z hZ hd hj hI;subst hZ;have hjl:j=c.params.length:=by omega
   subst hjl;have hI0:=hI;obtain ⟨hlen,hA,h3,h17,h18,h19,v,h4,ho⟩:=hI;have hlt:ltB (((c.params.length:Nat)):Int) (c.params.length:Nat)=false:=cw (by omega);rw [Nd];simp -implicitDefEqProofs only [Du,f75,aP,hlen,h3,h17,h18,h19,h4,hlt,↓zzA,zzB,sevalprocAttr];refine ⟨_,K,rfl,?_⟩;exact ⟨by first | exact hlen | simp only [aq,hlen],hA,Aj4 (by simp only [hlen,h3,h17,h18,h19,gB,and_self,sevalprocAttr]) ⟨v,by simp only [hlen,h4,gB,sevalprocAttr],ho⟩⟩
 | succ d ih =>
   intro j tm K Z hZ hd hj hI;subst hZ;have hI0:=hI;obtain ⟨hlen,hA,h3,h17,h18,h19,v,h4,ho⟩:=hI;have hjN:j < c.params.length:=by omega
   have hlt:ltB (j:Int) (c.params.length:Nat)=true:=cu (by omega);have hw:=b6 (j:=j) (by omega);obtain ⟨i,k,nm,hix,hrd1,hrd2⟩:=xX h hA hjN;obtain ⟨i2,k2,hix2,hra⟩:=zd ha hA (j:=j) (by omega);have hbq:∀ L,ak (K++L) bx 7 1=some [va]:=fun L=>by rw [eU (hA.get hbx) L]; rfl
   rw [Nd];rw [<-af K];cases hb:iS c (j:Int) with
   | true =>
     rw [hb] at hrd1 hrd2;have hn:=hpos j hjN hb;have hwa:IntKind.i64.wrap (fS x.args j)=((fS x.args j).toNat:Int):=by rw [pw (by omega)]; omega
     obtain ⟨v',K',happ,hA',ho',_⟩:=xc (hA.bX [bm.cells [.str nm,.bool true] 74]) (ho.aZ (an.app K [bm.cells [.str nm,.bool true] 74])) (by have:=Au c x.args j; omega) (fS x.args j).toNat;simp only [ai,cR,gH,Nat.zero_add,aD,List.cons_append,ig] at happ;simp -implicitDefEqProofs only [Du,f75,aP,hlen,h3,h17,h18,h19,h4,hlt,hw,hix,hrd1,hrd2,hix2,hra,hbq,hwa,hb,z74,wm,RH,↓bS,happ,↓zzC,zzE,sevalprocAttr];generalize hX:EvC aa C0 W0 _ _ _=Z;refine ih (j+1) _ _ _ hX (by omega) (by omega) ?_;exact ⟨by first | exact hlen | simp only [aq,hlen],hA',Aj4 (by simp only [hlen,h3,h17,h18,h19,gB,and_self,sevalprocAttr]) ⟨v',by simp only [hlen,h4,gB,sevalprocAttr],by rw [pd,hb,if_pos rfl]; exact ho'⟩⟩
   | false =>rw [hb] at hrd1 hrd2;simp -implicitDefEqProofs only [Du,f75,aP,hlen,h3,h17,h18,h19,h4,hlt,hw,hix,hrd1,hrd2,hix2,hra,hbq,hb,z74,wm,↓zzC,zzE,sevalprocAttr];generalize hX:EvC aa C0 W0 _ _ _=Z;refine ih (j+1) _ _ _ hX (by omega) (by omega) ?_;exact ⟨by first | exact hlen | simp only [aq,hlen],hA.bX _,Aj4 (by simp only [hlen,h3,h17,h18,h19,gB,and_self,sevalprocAttr]) ⟨v,by simp only [hlen,h4,gB,sevalprocAttr],by rw [pd,hb]; exact ho.aZ (an.app K _)⟩⟩
theorem AR {H L:AH} {i:Nat} {l:List Nat} (h:L[i]? =some (.cells (l.map fun (n:Nat)=>I (n:Int)) 3)):SlS 30 1 (H++L) (.slice (H.length+i) 0 1 l.length l.length true) (ints l):=by
 have hg:(H++L)[H.length+i]? =some (.cells (l.map fun (n:Nat)=>I (n:Int)) 3):=by rw [al (dI _ _),aN]; exact h
 have:=mI (T:=30) (es:=1) vV (H:=H++L) (i:=H.length+i) (k:=0) (c:=l.length) (e:=true) (rows:=ints l) (ot l) (by unfold okC; rw [hg]) (by unfold ak;rw [hg];simp only;rw [if_pos (by simp [ints]),ib,bt (by simp [ints]),mu]);rwa [show (ints l).length=l.length from by simp [ints]] at this
theorem Un {H:AH} {cs:List Cod} {vc va:AV} {x:Itm} (hac:va.cells=[va]) (hao:va.one=true) (hk:x.kind=1) (hf:0<=x.src/\0<=x.dst):∃ u c K,Ev aa C0 W0 75 [vc,.agg (aJ x va)] H=some (.tuple [u,c],K)/\an H K/\SlS 30 1 K u (ints (fq cs x))/\SlS 30 1 K c (ints (iR cs x)):=by
 obtain ⟨tm,ht,g0,g1,g2⟩:=tm2 vc (.agg (aJ x va)) 56 (by decide);rw [Rc,ht];obtain ⟨kind,code,grid,block,src,dst,ev,args,word⟩:=x;simp only at hk hf;subst hk;have e0:eqB 1 0=false:=rfl;have e1:eqB 1 1=true:=rfl;have e2:eqB 1 2=false:=rfl;obtain ⟨s,rfl⟩:∃ s:Nat,src=s:=⟨src.toNat,by omega⟩;obtain ⟨d,rfl⟩:∃ d:Nat,dst=d:=⟨dst.toNat,by omega⟩;simp -implicitDefEqProofs only [c75,f75,aP,g0,g1,g2,aJ,↓hac,↓hao,e0,e1,e2,↓cD xZ,↓cD xY,yf,yd,dn,cj,cW,dz,bZ,dm,cQ,cG,yV,On,show ∀ o,put none H o=some (H.length,H++[o]) from fun _=>rfl,↓dW,↓dS,↓gK,↓eP,↓dU,↓eR,↓da,↓dX,↓bP,↓bz,↓cg,↓eT,↓de,↓dY,↓bR,↓bQ,↓ch,↓dJ,↓cJ,dg,bH,ai,bN,cd,cI,dh,↓zzC,zzE,sevalprocAttr];refine ⟨_,_,_,rfl,an.app _ _,?_,?_⟩
 · exact AR (i:=5) (l:=[s,d]) rfl
 · exact AR (i:=8) (l:=[d]) rfl
theorem Um {H:AH} {cs:List Cod} {vc va:AV} {x:Itm} (hac:va.cells=[va]) (hao:va.one=true) (hk:x.kind=2) (hf:0<=x.dst):∃ u c K,Ev aa C0 W0 75 [vc,.agg (aJ x va)] H=some (.tuple [u,c],K)/\an H K/\SlS 30 1 K u (ints (fq cs x))/\SlS 30 1 K c (ints (iR cs x)):=by
 obtain ⟨tm,ht,g0,g1,g2⟩:=tm2 vc (.agg (aJ x va)) 56 (by decide);rw [Rc,ht];obtain ⟨kind,code,grid,block,src,dst,ev,args,word⟩:=x;simp only at hk hf;subst hk;have e0:eqB 2 0=false:=rfl;have e1:eqB 2 1=false:=rfl;have e2:eqB 2 2=true:=rfl;obtain ⟨d,rfl⟩:∃ d:Nat,dst=d:=⟨dst.toNat,by omega⟩;simp -implicitDefEqProofs only [c75,f75,aP,g0,g1,g2,aJ,↓hac,↓hao,e0,e1,e2,↓cD xZ,↓cD xY,yf,yd,dn,cj,cW,dz,bZ,dm,cQ,cG,yV,On,show ∀ o,put none H o=some (H.length,H++[o]) from fun _=>rfl,↓dW,↓dS,↓gK,↓eP,↓dU,↓eR,↓da,↓dX,↓bP,↓bz,↓cg,↓eT,↓de,↓dY,↓bR,↓bQ,↓ch,↓dJ,↓cJ,dg,bH,ai,bN,cd,cI,dh,↓zzC,zzE,sevalprocAttr];refine ⟨_,_,_,rfl,an.app _ _,?_,?_⟩
 · exact AR (i:=3) (l:=[d]) rfl
 · exact AR (i:=6) (l:=[d]) rfl
theorem Ul {H:AH} {cs:List Cod} {vc va:AV} {x:Itm} (hac:va.cells=[va]) (hao:va.one=true) (hk:x.kind≠0/\x.kind≠1/\x.kind≠2):∃ u c K,Ev aa C0 W0 75 [vc,.agg (aJ x va)] H=some (.tuple [u,c],K)/\an H K/\SlS 30 1 K u (ints (fq cs x))/\SlS 30 1 K c (ints (iR cs x)):=by
 obtain ⟨tm,ht,g0,g1,g2⟩:=tm2 vc (.agg (aJ x va)) 56 (by decide);rw [Rc,ht];obtain ⟨kind,code,grid,block,src,dst,ev,args,word⟩:=x;simp only at hk;have e0:=fR hk.1;have e1:=fR hk.2.1;have e2:=fR hk.2.2;simp -implicitDefEqProofs only [c75,f75,aP,g0,g1,g2,aJ,↓hac,↓hao,e0,e1,e2,↓cD xZ,↓cD xY,yf,yd,dn,cj,cW,dz,bZ,dm,cQ,cG,yV,On,show ∀ o,put none H o=some (H.length,H++[o]) from fun _=>rfl,↓dW,↓dS,↓gK,↓eP,↓dU,↓eR,↓da,↓dX,↓bP,↓bz,↓cg,↓eT,↓de,↓dY,↓bR,↓bQ,↓ch,↓dJ,↓cJ,dg,bH,ai,bN,cd,cI,dh,↓zzC,zzE,sevalprocAttr];refine ⟨_,_,_,rfl,an.app _ _,?_,?_⟩
 · rw [show fq cs _=[] from by unfold fq; rw [if_neg hk.1,if_neg hk.2.1,if_neg hk.2.2]]; exact k5 vV _
 · rw [show iR cs _=[] from by unfold iR; rw [if_neg hk.1,if_neg hk.2.1,if_neg hk.2.2]]; exact k5 vV _
theorem Uo {H:AH} {cs:List Cod} {m:List (List Int)} {vc va:AV} {x:Itm} (hc:dy H cs vc) (hcp:∀ c∈cs,c.params.length<=6) (ha:SlS 32 1 H va (x.args.map dH)) (hk:x.kind=0) (hr:cC cs m x=true):∃ u c K,Ev aa C0 W0 75 [vc,.agg (aJ x va)] H=some (.tuple [u,c],K)/\an H K/\SlS 30 1 K u (ints (fq cs x))/\SlS 30 1 K c (ints (iR cs x)):=by
 obtain ⟨tm,ht,g0,g1,g2⟩:=tm2 vc (.agg (aJ x va)) 56 (by decide);rw [Rc,ht];have hac:=ha.cells;have hao:=ha.one;obtain ⟨⟨h1,h2⟩,h3,h4⟩:=lG hr hk;obtain ⟨i0,k0,vp,vs,vi,hix,hrd,hcd⟩:=hc.at (an.app H [.cells (aJ x va) 34]) (j:=x.code.toNat) h2;have hcm:dj cs x.code.toNat∈cs:=by unfold dj;exact eF h2 _
 have hu:fq cs x=js (dj cs x.code.toNat) x.args (dj cs x.code.toNat).params.length:=by unfold fq; rw [if_pos hk]
 have hch:iR cs x=js (dj cs x.code.toNat) x.args (dj cs x.code.toNat).params.length:=by unfold iR; rw [if_pos hk]
 rw [hu,hch];have hp6:=hcp _ hcm;have hcode:x.code=(x.code.toNat:Int):=by omega
 have hix':∀ kk,aC aa 22 vc (.int kk x.code)=some (.ptr i0 k0):=fun kk=>by rw [hcode]; exact hix kk
 have hrv:∀ L,ak (H++(.cells (aJ x va) 34::L)) i0 (k0+1) 1=some [vp]:=fun L=>by have:=hrd L;rw [aD] at this;exact ku this (j:=1) rfl
 have hlp:=hcd.lp;have e0:eqB x.kind 0=true:=kP hk;simp only [aJ] at hrv;simp -implicitDefEqProofs only [c75,f75,aP,g0,g1,g2,aJ,↓hac,↓hao,e0,hix',hrv,hlp,show ∀ o,put none H o=some (H.length,H++[o]) from fun _=>rfl,↓zzC,zzE,sevalprocAttr];generalize hX:EvC aa C0 W0 _ (Code.loop _) _=Z;obtain ⟨X,K1,he,i0',iA,i3,i17,i18,i19,v,i4,io⟩:=Uk (G:=H++[.cells (aJ x va) 34]) (bx:=H.length) (hcd.aZ (an.app H _)) (ha.app _) (by rw [al (aw _),d9]; rfl) hp6 h3 h4 (by omega) _ 0 _ _ _ hX rfl (aV _) ⟨by simp only [ls,g0],an.refl _,Aj3 (by simp only [g0,gB,and_self,sevalprocAttr]) ⟨by simp only [g0,gB,sevalprocAttr]; try rfl,.nilSlice,by simp only [g0,gB,sevalprocAttr],.nil⟩⟩;subst he;simp -implicitDefEqProofs only [aP,i0',i4,↓zzA,zzB,sevalprocAttr];exact ⟨_,_,K1,rfl,(an.app H _).trans iA,io.ints,io.ints⟩
theorem aaa {H:AH} {cs:List Cod} {m:List (List Int)} {vc va:AV} {x:Itm} (hc:dy H cs vc) (hcp:∀ c∈cs,c.params.length<=6) (ha:SlS 32 1 H va (x.args.map dH)) (hr:cC cs m x=true):∃ u c K,Ev aa C0 W0 75 [vc,.agg (aJ x va)] H=some (.tuple [u,c],K)/\an H K/\SlS 30 1 K u (ints (fq cs x))/\SlS 30 1 K c (ints (iR cs x)):=by
 by_cases k0:x.kind=0
 · exact Uo hc hcp ha k0 hr
 · have e0:eqB x.kind 0=false:=fR k0;by_cases k1:x.kind=1
   · refine Un ha.cells ha.one k1 ?_;unfold cC at hr;rw [e0,cM,kP k1,d7] at hr;unfold inB at hr;simp only [az,dC,dB,cP] at hr;omega
   · have e1:eqB x.kind 1=false:=fR k1;by_cases k2:x.kind=2
     · refine Um ha.cells ha.one k2 ?_;unfold cC at hr;rw [e0,cM,e1,cM,kP k2,d7] at hr;unfold inB at hr;simp only [az,dC,dB,cP] at hr;omega
     · exact Ul ha.cells ha.one ⟨k0,k1,k2⟩
theorem zJ {cs:List Cod} (hcp:∀ c∈cs,c.params.length<=6) {m:List (List Int)} {x:Itm} (hr:cC cs m x=true):(fq cs x).length<=6/\(iR cs x).length<=6:=by
 have key:x.kind=0->(dj cs x.code.toNat).params.length<=6:=fun k=>by obtain ⟨⟨_,h2⟩,_⟩:=lG hr k;refine hcp _ ?_;unfold dj;exact eF h2 _
 unfold fq iR;split
 · rename_i k;have:=Au (dj cs x.code.toNat) x.args (dj cs x.code.toNat).params.length;have:=key k;omega
 · split
   · simp
   · split <;> simp
def lN (cs:List Cod) (x y:Itm):Bool:=rV (fq cs x) (iR cs y) || rV (iR cs x) (fq cs y)
theorem aeF {H:AH} {cs:List Cod} {m:List (List Int)} {vc va vb:AV} {x y:Itm} (hc:dy H cs vc) (hcp:∀ c∈cs,c.params.length<=6) (ha:SlS 32 1 H va (x.args.map dH)) (hb:SlS 32 1 H vb (y.args.map dH)) (hrx:cC cs m x=true) (hry:cC cs m y=true):Ev aa C0 W0 43 [vc,.agg (aJ x va),.agg (aJ y vb)] H=some (.bool (lN cs x y),H):=by
 obtain ⟨tm,ht,g0,g1,g2,g3⟩:=tm3 vc (.agg (aJ x va)) (.agg (aJ y vb)) 34 (by decide);rw [adb,ht];rw [<-af (ro H)];have hac:=ha.cells;have hao:=ha.one;have hbc:=hb.cells;have hbo:=hb.one;have hA0:=an.app (ro H) [bm.cells (aJ x va) 34,.cells (aJ y vb) 34];obtain ⟨u1,c1,K1,he1,hA1,hu1,hc1⟩:=aaa (hc.ro.aZ hA0) hcp (ha.ro.same hA0) hrx;have hA01:=hA0.trans hA1;obtain ⟨u2,c2,K2,he2,hA2,hu2,hc2⟩:=aaa (hc.ro.aZ hA01) hcp (hb.ro.same hA01) hry;have hu1':=hu1.same hA2;have hc1':=hc1.same hA2;have l1:=zJ hcp hrx;have l2:=zJ hcp hry;have h72a:=aab hu1' hc2 (by omega) (by omega) [];have h72b:=aab hc1' hu2 (by omega) (by omega) [.cells [c2] 30];rw [af,ig] at h72a;have hy1:ak K1 ((ro H).length+1) 0 9=some (aJ y vb):=fJ hA1 (by rw [jE]; rfl);unfold lN;have hF:∀ gl tm,cY gl tm (.func 72)=some (.func (.func 72) [] []):=fun _ _=>rfl;simp only [aJ] at he1 he2 hy1;cases hm:rV (fq cs x) (iR cs y) with
 | true =>rw [hm] at h72a;simp -implicitDefEqProofs only [c43,f43,aP,g0,g1,g2,g3,aJ,↓hac,↓hao,↓hbc,↓hbo,↓ZE,he1,he2,hy1,hF,↓aS,func72,show f72.body.isSome=true from rfl,h72a,↓zzC,zzE,sevalprocAttr]
 | false =>rw [hm] at h72a;simp -implicitDefEqProofs only [c43,f43,aP,g0,g1,g2,g3,aJ,↓hac,↓hao,↓hbc,↓hbo,↓ZE,he1,he2,hy1,hF,↓aS,func72,show f72.body.isSome=true from rfl,h72a,h72b,↓zzC,zzE,sevalprocAttr]
def m5 (l:List Nat):List (AV × AV × Nat):=(xm l (bp l.length)).map fun p=>(I (p.1:Int),.bool true,p.2)
theorem Yb:lE aa 95=some (3,4):=by kernel_rfl
theorem OA (e:Bool) (n:Int):Fu aa 3 e (I n)=some (.int .i64 n,.int .i64):=by cases e <;> kernel_rfl
theorem JN (a b:Int):vQ aa 3 (.int .i64) (.int .i64 a) (.int .i64 b)=some (a == b):=by unfold vQ Instr.sameNow; rfl
theorem yL (n:Nat):∀ (l:List (Nat × Nat)) (i:Nat),iQ aa 3 (.int .i64) (.int .i64 n) (l.map fun p=>(I (p.1:Int),.bool true,p.2)) i=if (l.map (·.1)).contains n then (iQ aa 3 (.int .i64) (.int .i64 n) (l.map fun p=>(I (p.1:Int),.bool true,p.2)) i) else some none
 | [],i=>rfl
 | p::l,i=>by
   have ih:=yL n l (i+1)
   simp only [fI,iQ,toV,ax,JN,uB]
   cases h:((n:Int) == (p.1:Int)) with
   | true =>
     have:(n == p.1)=true:=by rw [beq_iff_eq] at h ⊢; exact Int.ofNat_inj.1 h
     rw [this]; simp
   | false =>
     have:(n == p.1)=false:=by rw [beq_eq_false_iff_ne] at h ⊢; exact fun e=>h (by rw [e])
     rw [this]
     simp only [iC]; exact ih
theorem Ak (n:Nat):∀ (l:List (Nat × Nat)) (i:Nat),(l.map (·.1)).contains n=true->∃ j,iQ aa 3 (.int .i64) (.int .i64 n) (l.map fun p=>(I (p.1:Int),.bool true,p.2)) i=some (some (j,.bool true))
 | [],i,h=>by simp at h
 | p::l,i,h=>by
   simp only [fI,iQ,toV,ax,JN]
   cases h':((n:Int) == (p.1:Int)) with
   | true=>exact ⟨i,rfl⟩
   | false =>
     have:(n == p.1)=false:=by rw [beq_eq_false_iff_ne] at h' ⊢; exact fun e=>h' (by rw [e])
     simp only [fI,uB,this,iC] at h
     exact Ak n l (i+1) h
theorem yi (l:List Nat):(xm l (bp l.length)).map (·.1)=l:=by rw [List.map_fst_zip (by simp)]
theorem Yt {H:AH} {i:Nat} {l:List Nat} {c:Nat} (h:H[i]? =some (.map (m5 l) c)) (n:Nat):iJ aa 95 (.map i) (I (n:Int)) false H=some (.bool (l.contains n)):=by
 simp only [iJ,Yb,jJ,h,ax,OA];cases hc:l.contains n with
 | true =>obtain ⟨j,hj⟩:=Ak n _ 0 (by rw [yi]; exact hc);unfold m5;rw [hj]; rfl
 | false =>unfold m5;rw [yL,yi,hc];simp only [ax,z4]; rfl
theorem Io (l:List Nat) (n:Nat):m5 l++[(I (n:Int),.bool true,l.length)]=m5 (l++[n]):=by unfold m5;rw [ai,eM,jf,List.zip_append (by simp),dE]; rfl
theorem abV {H:AH} {i:Nat} {l:List Nat} (h:H[i]? =some (.map (m5 l) l.length)) {n:Nat} (hc:l.contains n=false):iI aa 95 (.map i) (I (n:Int)) (.bool true) H=some (H.set i (.map (m5 (l++[n])) (l++[n]).length)):=by
 have hf:iQ aa 3 (.int .i64) (.int .i64 n) (m5 l) 0=some none:=by unfold m5;rw [yL,yi,hc]; rfl
 simp only [iI,Yb,h,ax,OA,hf];rw [Io,ai]; rfl
theorem Pp {b:Nat} {K:AH} {v:AV} {x:Nat} {l:List Nat} (h:Own b K 1 3 v ((x::l).map fun (n:Nat)=>I (n:Int))) :
   ∃ v',ko aa 30 K v (some (I 1)) none none=some v'/\Own b K 1 3 v' (l.map fun (n:Nat)=>I (n:Int)):=by
 have hlen:=h.length;rw [ao,cR,dM] at hlen;generalize hxs:(x::l).map (fun (n:Nat)=>I (n:Int))=xs at h;cases h with
 | nil=>simp at hxs
 | «at» i k len cap ex cs xs hb hi hl hc hrd =>
   rw [cp] at hlen;have hu:aa.underlying 30=some (.slice 3):=by kernel_rfl
   have hco:aa.cellsOf 3=1:=by kernel_rfl
   have hin:aa.info? 3=some ((aa.info? 3).getD default):=by kernel_rfl
   refine ⟨.slice i (k+1 * 1) 1 (len - 1) (cap - 1) ex,?_,.at i (k+1 * 1) (len - 1) (cap - 1) ex cs _ hb hi (by omega) (by omega) ?_⟩
   · unfold ko;rw [hu];simp only [iu];rw [hco,hin];show (if 1<=len/\len<=cap/\1=1 then _ else _)=_;rw [if_pos ⟨by omega,hl,rfl⟩];rfl
   · have:=AY hrd 1 (len - 1) (by omega);rw [dM,dM,this,<-hxs];congr 1;rw [fI,List.drop_succ_cons,ib,bt (by rw [ao]; omega)]
theorem VK (i k es len cap:Nat) (ex:Bool) (kk:IntKind) (n:Int):aC aa 91 (.slice i k es len cap ex) (.int kk n)=if 0<=n/\n < len/\1=es then some (.ptr i (k+n.toNat * es)) else none:=by kernel_rfl
theorem abZ (H:AH) (i k es len cap:Nat) (ex:Bool):d4 aa 91 H (.slice i k es len cap ex)=some (.int .i64 len):=by kernel_rfl
theorem Yh (H:AH):d4 aa 91 H .nilSlice=some (.int .i64 0):=by kernel_rfl
theorem YQ:IxT 91 1:=⟨Yh,abZ,VK⟩
theorem EY (H:AH) (i k:Nat):ldA aa 91 H i k=(ak H i k 1).bind (·.head?):=by kernel_rfl
theorem qd (i k:Nat):aL aa 93 (.ptr i k) 0=some (.ptr i k):=by kernel_rfl
theorem vf (i k:Nat):aL aa 93 (.ptr i k) 1=some (.ptr i (k+1)):=by kernel_rfl
structure m8 (H:AH) (A:List (List Nat)) (av:AV):Prop where
 ex:∃ ws:List AV,ws.length=A.length/\SlS 91 1 H av (ws.map fun w=>[w])/\∀ i,i < A.length->SlS 30 1 H (ws.getD i uA) (ints (A.getD i []))
theorem m8.sub {H K:AH} {A:List (List Nat)} {av:AV} (h:m8 H A av) (hA:Sub H K):m8 K A av:=by obtain ⟨ws,h1,h2,h3⟩:=h;exact ⟨ws,h1,h2.sub hA,fun i hi=>(h3 i hi).sub hA⟩
theorem m8.at {H K:AH} {A:List (List Nat)} {av:AV} (h:m8 H A av) (hA:an H K) {j:Nat} (hj:j < A.length):∃ i k w,(∀ kk,aC aa 91 av (.int kk (j:Int))=some (.ptr i k))/\(∀ L,ak (K++L) i k 1=some [w])/\SlS 30 1 H w (ints (A.getD j [])):=by
 obtain ⟨ws,h1,h2,h3⟩:=h;have hw:j < ws.length:=by omega
 obtain ⟨i,k,hi,hr⟩:=h2.ix j [ws.getD j uA] (by rw [List.getElem?_map,aj hw,d6 hw]; rfl);exact ⟨i,k,_,hi,fun L=>iH hr hA L,h3 j hj⟩
theorem Km {H G:AH} {A:List (List Nat)} {w:AV} {N n x pb mb M:Nat} (hH:an H G) (hHm:H.length<=mb) (hmG:mb < G.length) (hrow:SlS 30 1 H w (ints (A.getD x []))) (hA:∀ l∈A,∀ y∈l,y < N) (hNN:N < 2 ^ 20) (hMb:M < 2 ^ 20) (hN:(A.getD x []).length < 2 ^ 60):∀ (d j:Nat) (tm:List AV) (K:AH) (Z:Option (bk × St)),EvC aa C0 W0 plN SN (tm,K)=Z->(A.getD x []).length - j=d->j<=(A.getD x []).length->(tm.length=43/\tm.getD 2 uA=.ptr pb 0/\tm.getD 5 uA=.map mb/\tm.getD 25 uA=w/\tm.getD 26 uA=I (A.getD x []).length/\tm.getD 27 uA=I ((j:Nat):Int)/\AgX G K mb/\∃ seen todo v,tm.getD 6 uA=v/\Qu.RI A N n seen todo x j/\K[mb]? =some (.map (m5 seen) seen.length)/\Own G.length K 1 3 v (todo.map fun (n:Nat)=>I (n:Int))/\(N - seen.length)+todo.length=M) ->
   ∃ X K1,Z=some (.exit 2,(X,K1))/\(X.length=43/\X.getD 2 uA=.ptr pb 0/\X.getD 5 uA=.map mb/\X.getD 25 uA=w/\X.getD 26 uA=I (A.getD x []).length/\X.getD 27 uA=I (((A.getD x []).length:Nat):Int)/\AgX G K1 mb/\∃ seen todo v,X.getD 6 uA=v/\Qu.RI A N n seen todo x (A.getD x []).length/\K1[mb]? =some (.map (m5 seen) seen.length)/\Own G.length K1 1 3 v (todo.map fun (n:Nat)=>I (n:Int))/\(N - seen.length)+todo.length=M):=by
 intro d;induction d with
 | zero =>
   intro j tm K Z hZ hd hj hI;subst hZ;have hjl:j=(A.getD x []).length:=by omega
   subst hjl;have hI0:=hI;obtain ⟨hlen,h2,h5,h25,h26,h27,hGX,seen,todo,v,h6,hI5,hmp,ho,hM⟩:=hI;have hlt:ltB ((((A.getD x []).length:Nat)):Int) ((A.getD x []).length:Nat)=false:=cw (by omega);rw [Nq];simp -implicitDefEqProofs only [DC,f44,aP,hlen,h2,h5,h25,h26,h27,h6,hlt,↓zzA,zzB,sevalprocAttr];refine ⟨_,K,rfl,?_⟩;exact ⟨by first | exact hlen | simp only [aq,hlen],Aj5 (by simp only [hlen,h2,h5,h25,h26,h27,gB,and_self,sevalprocAttr]) ⟨hGX,seen,todo,v,by simp only [hlen,h6,gB,sevalprocAttr],hI5,hmp,ho,hM⟩⟩
 | succ d ih =>
   intro j tm K Z hZ hd hj hI;subst hZ;have hI0:=hI;obtain ⟨hlen,h2,h5,h25,h26,h27,hGX,seen,todo,v,h6,hI5,hmp,ho,hM⟩:=hI;have hjN:j < (A.getD x []).length:=by omega
   have hlt:ltB (j:Int) ((A.getD x []).length:Nat)=true:=cu (by omega);have hwi:=b6 (j:=j) (by omega);have hHK:an H K:=fun i hi=>(hGX.2 i (bF hi hH.len) (by omega)).trans (hH i hi);obtain ⟨i0,k0,hix,hrd⟩:=ints_at hrow hHK hjN;have hy:(A.getD x [])[j]? =some ((A.getD x []).getD j 0):=by rw [aj hjN,d6 hjN]
   obtain ⟨hs1,hs2⟩:=hI5.step hA hy;have hle:=hI5.le;generalize (A.getD x []).getD j 0=y at *;have hmK:(K++[])[mb]? =some (.map (m5 seen) seen.length):=by rw [af]; exact hmp
   have hlk:=Yt hmK y;rw [Nq];rw [<-af K];cases hc:seen.contains y with
   | true =>simp -implicitDefEqProofs only [DC,f44,aP,hlen,h2,h5,h25,h26,h27,h6,hlt,hwi,hix,hrd,hlk,hc,↓zzC,zzE,sevalprocAttr];generalize hX:EvC aa C0 W0 _ _ _=Z;refine ih (j+1) _ _ _ hX (by omega) (by omega) ?_;simp only [af];exact ⟨by first | exact hlen | simp only [aq,hlen],Aj5 (by simp only [hlen,h2,h5,h25,h26,h27,gB,and_self,sevalprocAttr]) ⟨hGX,seen,todo,v,by simp only [hlen,h6,gB,sevalprocAttr],hs1 (by simpa using hc),hmp,ho,hM⟩⟩
   | false =>
     have hmp2:=abV (i:=mb) (l:=seen) (n:=y) hmK hc;have hmK1:=aI hmp;have htl:todo.length<=M:=by omega
     have hlv:=ho.length;rw [ao,dM] at hlv;have hok:Own G.length (K.set mb (.map (m5 (seen++[y])) (seen++[y]).length)) 1 3 v (todo.map fun (n:Nat)=>I (n:Int)):=ho.other fun i k e l c x hv=>ay fun he=>by have:=(gX ho (i:=i) (by rw [hv]; rfl)).1; omega
     obtain ⟨v',K',happ,ho',hll,hsame,_⟩:=tZ I6 (hok.aZ (an.app _ [bm.cells [I (y:Int)] 3])) (by rw [ai,aq]; exact bh hGX.1 (dI _ _)) (x:=.slice (K.set mb (.map (m5 (seen++[y])) (seen++[y]).length)).length 0 1 1 1 true) (new:=[I (y:Int)]) (.at _ _ _ _ _ _ (by rw [gj]; rfl)) rfl (by rw [by3,<-hlv,cp]; unfold gf; rw [az,decide_eq_true_iff,decide_eq_true_iff]; constructor <;> omega);rw [af] at hmp2;have hmp3:iI aa 95 (.map mb) (I (y:Int)) (.bool true) (K++[])=some (K.set mb (.map (m5 (seen++[y])) (seen++[y]).length)):=by rw [af]; exact hmp2
     have hbs:=Oo (y:Int) (K.set mb (.map (m5 (seen++[y])) (seen++[y]).length));generalize hK2:K.set mb (.map (m5 (seen++[y])) (seen++[y]).length)=K2 at hmp3 hbs happ;simp -implicitDefEqProofs only [DC,f44,aP,hlen,h2,h5,h25,h26,h27,h6,hlt,hwi,hix,hrd,hlk,hc,hmp3,hbs,↓bS,happ,↓zzC,zzE,sevalprocAttr];generalize hX:EvC aa C0 W0 _ _ _=Z;refine ih (j+1) _ _ _ hX (by omega) (by omega) ?_;subst hK2;refine ⟨by first | exact hlen | simp only [aq,hlen],Aj5 (by simp only [hlen,h2,h5,h25,h26,h27,gB,and_self,sevalprocAttr]) ⟨⟨?_,?_⟩,seen++[y],todo++[y],v',by simp only [hlen,h6,gB,sevalprocAttr],hs2 (by simpa using hc),?_,?_,?_⟩⟩
     · exact bh hGX.1 (by rw [ai,aq] at hll; omega)
     · intro i hi hne;rw [hsame i (by rw [ai,aq]; have:=hGX.1; omega) (fun e=>by have:=(gX ho e).1; omega),ar (by rw [aq]; have:=hGX.1; omega),ay (Ne.symm hne)];exact hGX.2 i hi hne
     · rw [hsame mb (by rw [ai,aq]; omega) (fun e=>by have:=(gX ho e).1; omega),ar (by rw [aq]; exact hmK1),List.getElem?_set_self hmK1]
     · rw [dE]; exact ho'
     · have h1:(seen++[y]).length<=N:=(hs2 (by simpa using hc)).le;rw [ai,eM] at h1 ⊢;rw [ai,eM];omega
theorem Ie {H G:AH} {A:List (List Nat)} {itv av:AV} {N n pb mb:Nat} (hH:an H G) (hHm:H.length<=mb) (hmG:mb < G.length) (hpm:pb≠mb) (hpb:G[pb]? =some (.cells [itv,av] 93)) (haft:m8 H A av) (hlenA:A.length=N) (hA:∀ l∈A,∀ y∈l,y < N) (hrow:∀ l∈A,l.length < 2 ^ 20) (hn:n < N) (hNN:N < 2 ^ 19) :
   ∀ (M:Nat) (seen todo:List Nat) (v:AV) (K:AH) (tm:List AV),(N - seen.length)+todo.length=M->M<=N+1->Qu.RO A N n seen todo->AgX G K mb->K[mb]? =some (.map (m5 seen) seen.length)->Own G.length K 1 3 v (todo.map fun (n:Nat)=>I (n:Int))->tm.length=43->tm.getD 2 uA=.ptr pb 0->tm.getD 5 uA=.map mb->tm.getD 6 uA=v ->
   ∃ X K' seen',EvC aa C0 W0 plN LM (tm,K)=some (.exit 0,(X,K'))/\X.length=43/\X.getD 5 uA=.map mb/\AgX G K' mb/\K'[mb]? =some (.map (m5 seen') seen'.length)/\Qu.RO A N n seen' []:=by
 intro M;induction M using Nat.strongRecOn with
 | ind M ih =>
   intro seen todo v K tm hM hMN hRO hGX hmp ho hlen h2 h5 h6;have hln:=iZ ho.ints;rw [V7];cases todo with
   | nil =>have l0:ltB 0 0=false:=rfl;simp only [gH,O3] at hln;simp -implicitDefEqProofs only [GQ,f44,aP,hlen,h2,h5,h6,hln,l0,↓zzC,zzE,sevalprocAttr];exact ⟨_,K,seen,rfl,by simp only [ls,hlen],by simp only [hlen,h5,gB,sevalprocAttr],hGX,hmp,hRO⟩
   | cons x rest =>
     have hx:x < N:=by
       rcases hRO.s2 x (List.mem_cons_self ..) with e | e
       · omega
       · exact hRO.sN x e
     have hxA:x < A.length:=by omega
     have hl1:ltB 0 ((rest.length+1:Nat):Int)=true:=cu (by omega);simp only [cR] at hln;have hHK:an H K:=fun i hi=>(hGX.2 i (bF hi hH.len) (by omega)).trans (hH i hi);obtain ⟨i0,k0,hix,hrd⟩:=ints_at ho.ints (an.refl K) (j:=0) (by simp);have hrd0:ak K i0 k0 1=some [I (x:Int)]:=by have:=hrd []; rwa [af] at this
     simp only [O3] at hix;obtain ⟨v1,hsl,ho1⟩:=Pp ho;obtain ⟨i1,k1,w,hix1,hrd1,hw⟩:=haft.at hHK hxA;have hrd1':ak K i1 k1 1=some [w]:=by have:=hrd1 []; rwa [af] at this
     have hpk:ak K pb 1 1=some [av]:=by unfold ak;rw [hGX.2 pb (aI hpb) hpm,hpb]; rfl
     have hlw:=iZ hw;simp -implicitDefEqProofs only [GQ,f44,aP,hlen,h2,h5,h6,hln,hl1,hix,hrd0,hsl,vf,EY,hpk,hix1,hrd1',hlw,↓zzC,zzE,sevalprocAttr];generalize hX:EvC aa C0 W0 _ (Code.loop _) _=Z;have hxm:A.getD x []∈A:=eF hxA [];obtain ⟨X,K1,he,x0,x2,x5,x25,x26,x27,hG1,seen1,todo1,v2,x6,hI1,hm1,ho2,hM1⟩:=Km (H:=H) (G:=G) (A:=A) (w:=w) (N:=N) (n:=n) (x:=x) (pb:=pb) (mb:=mb) (M:=(N - seen.length)+rest.length) hH hHm hmG hw hA (by omega) (by simp at hM; omega) (by have:=hrow _ hxm; omega) _ 0 _ _ _ hX rfl (aV _) ⟨by simp only [ls,hlen],Aj4 (by simp only [hlen,h2,h5,gB,and_self,sevalprocAttr]) ⟨by simp only [hlen,gB,sevalprocAttr]; try rfl,hGX,seen,rest,v1,by simp only [hlen,gB,sevalprocAttr],hRO.pop,hmp,ho1,rfl⟩⟩;subst he;simp -implicitDefEqProofs only [x0,x2,x5,x6,↓zzA,zzB,sevalprocAttr];generalize hX2:EvC aa C0 W0 _ _ _=Z;obtain ⟨X',K',seen',b1,b2⟩:=ih ((N - seen1.length)+todo1.length) (by rw [hM1]; simp at hM; omega) seen1 todo1 v2 K1 X rfl (by rw [hM1]; simp at hM; omega) (hI1.out (aw _)) hG1 hm1 ho2 x0 x2 x5 x6;exact ⟨X',K',seen',hX2.symm.trans b1,b2⟩
theorem Ep {H G:AH} {A:List (List Nat)} {itv av:AV} {N n pb mb:Nat} {tm:List AV} {K:AH} {Z:Option (bk × St)} (hX:EvC aa C0 W0 plN LM (tm,K)=Z) (hH:an H G) (hHm:H.length<=mb) (hmG:mb < G.length) (hpm:pb≠mb) (hpb:G[pb]? =some (.cells [itv,av] 93)) (haft:m8 H A av) (hlenA:A.length=N) (hA:∀ l∈A,∀ y∈l,y < N) (hrow:∀ l∈A,l.length < 2 ^ 20) (hn:n < N) (hNN:N < 2 ^ 19)
   {v:AV} (hGX:AgX G K mb) (hmp:K[mb]? =some (.map [] 0)) (ho:Own G.length K 1 3 v ([n].map fun (n:Nat)=>I (n:Int))) (hlen:tm.length=43) (h2:tm.getD 2 uA=.ptr pb 0) (h5:tm.getD 5 uA=.map mb) (h6:tm.getD 6 uA=v) :
   ∃ X K' seen',Z=some (.exit 0,(X,K'))/\X.length=43/\X.getD 5 uA=.map mb/\AgX G K' mb/\K'[mb]? =some (.map (m5 seen') seen'.length)/\Qu.RO A N n seen' []:=by subst hX;exact Ie hH hHm hmG hpm hpb haft hlenA hA hrow hn hNN _ [] [n] v K tm rfl (by simp) (Qu.RO.init A N n) hGX hmp ho hlen h2 h5 h6
theorem aeE {H:AH} {A:List (List Nat)} {itv av:AV} {N n:Nat} (hac:itv.cells=[itv]/\itv.one=true) (hao:av.cells=[av]/\av.one=true) (haft:m8 H A av) (hlenA:A.length=N) (hA:∀ l∈A,∀ y∈l,y < N) (hrow:∀ l∈A,l.length < 2 ^ 20) (hn:n < N) (hNN:N < 2 ^ 19):∃ mb K seen,Ev aa C0 W0 44 [.agg [itv,av],I n] H=some (.map mb,K)/\an H K/\H.length<=mb/\K[mb]? =some (.map (m5 seen) seen.length)/\∀ y,y∈seen↔Qu.TG (Qu.EA A) n y:=by obtain ⟨tm,ht,g0,g1,g2⟩:=tm2 (.agg [itv,av]) (I n) 43 (by decide);rw [ada,ht];obtain ⟨c1,c2⟩:=hac;obtain ⟨c3,c4⟩:=hao;simp -implicitDefEqProofs only [c44,f44,aP,g0,g1,g2,↓c1,↓c2,↓c3,↓c4,RH,show ofV 6 (Value.map none)=some .nilMap from rfl,show ∀ o,put none H o=some (H.length,H++[o]) from fun _=>rfl,↓zzC,zzE,sevalprocAttr];generalize hX:EvC aa C0 W0 _ (Code.loop _) _=Z;obtain ⟨X,K',seen,he,x0,x5,hG,hm,hR⟩:=Ep (H:=H) (G:=H++[.cells [itv,av] 93,.map [] 0]) (A:=A) (itv:=itv) (av:=av) (N:=N) (n:=n) (pb:=H.length) (mb:=H.length+1) (v:=.slice (H.length+2) 0 1 1 1 true) hX (an.app _ _) (by omega) (by simp) (by omega) (by rw [al (aw _),d9]; rfl) haft hlenA hA hrow hn hNN ⟨by simp,fun i hi _=>by rw [show H++[bm.cells [itv,av] 93,.map [] 0,.cells [I (n:Int)] 3]=(H++[bm.cells [itv,av] 93,.map [] 0])++[.cells [I (n:Int)] 3] from by simp,ar hi]⟩ (by rw [al (by omega),aN]; rfl) (.at _ _ _ _ _ [I (n:Int)] _ (by simp) (by rw [al (by omega),aN]; rfl) (aw _) (by simp) (by rw [jE]; rfl)) (by simp only [ls,g0]) (by simp only [g0,gB,sevalprocAttr]) (by simp only [g0,gB,sevalprocAttr]) (by simp only [g0,gB,sevalprocAttr]);subst he;refine ⟨H.length+1,K',seen,?_,fun i hi=>(hG.2 i (by simp; omega) (by omega)).trans (ar hi),by omega,hm,fun y=>hR.fin y⟩;simp -implicitDefEqProofs only [x0,x5,↓zzA,zzB,sevalprocAttr]
end Go.Dv
