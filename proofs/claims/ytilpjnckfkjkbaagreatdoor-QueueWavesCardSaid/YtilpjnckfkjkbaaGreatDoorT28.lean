/- Part 28 of the walks (own work). -/
import Derived.Test.YtilpjnckfkjkbaaGreatDoorT27
open Bool renaming and_eq_true→aC,false_or→lI
open Int renaming natCast_zero→NK
open List renaming any_cons→dj,any_nil→dG,any_toArray→cm,any_toArray'→dK,append_assoc→aG,append_nil→af,contains_cons→tY,drop_zero→gA,getElem?_append_left→aw,getElem?_append_right→al,getElem?_eq_getElem→aj,getElem?_set_ne→aB,length_append→ai,length_cons→cF,length_map→ar,length_nil→gC,length_set→aq,length_singleton→eI,map_append→eg,map_cons→gI,nil_append→g6,range→bn,range_succ→iT,replicate_succ→dc,replicate_zero→cN,size_toArray→dJ,take_of_length_le→bq,zip→wU
open Nat renaming add_assoc→bJ,add_sub_cancel_left→aS,le_add_right→du,le_refl→ax,le_trans→ba,lt_of_lt_of_le→bu,mul_one→dz,sub_self→dR
open Option renaming bind_some→aA
open Go.Proofs.Tryz renaming prog→aa
set_option maxRecDepth 100000
set_option maxHeartbeats 4000000
set_option linter.unusedSimpArgs false
set_option linter.unusedVariables false
namespace Go.Dv
open Go.Proofs
attribute [local congr] aF bC aY bB bD
def jg (c:Cod) (args:List Int) (j:Nat):List Nat:=((bn j).filter fun (i:Nat)=>iK c (i:Int)).map fun (i:Nat)=>(fI args i).toNat
theorem oX (c:Cod) (args:List Int) (j:Nat):jg c args (j+1)=if iK c (j:Int) then jg c args j++[(fI args j).toNat] else jg c args j:=by
 unfold jg
 rw [iT,List.filter_append,eg]
 cases h:iK c (j:Int) <;> simp [h]
theorem Aj (c:Cod) (args:List Int) (j:Nat):(jg c args j).length<=j:=by
 unfold jg
 rw [ar]
 exact ba (List.length_filter_le _ _) (by rw [List.length_range]; exact ax _)
def fc (cs:List Cod) (x:Itm):List Nat:=
 if x.kind=0 then jg (cT cs x.code.toNat) x.args (cT cs x.code.toNat).params.length
 else if x.kind=1 then [x.src.toNat,x.dst.toNat] else if x.kind=2 then [x.dst.toNat] else []
def iJ (cs:List Cod) (x:Itm):List Nat:=
 if x.kind=0 then jg (cT cs x.code.toNat) x.args (cT cs x.code.toNat).params.length
 else if x.kind=1 then [x.dst.toNat] else if x.kind=2 then [x.dst.toNat] else []
theorem lx {cs:List Cod} {m:List (List Int)} {x:Itm} (h:b6 cs m x=true) (k:x.kind=0):(0<=x.code/\x.code.toNat < cs.length)/\x.args.length=(cT cs x.code.toNat).params.length /\
   ∀ j,j < (cT cs x.code.toNat).params.length->iK (cT cs x.code.toNat) (j:Int)=true->0<=fI x.args j/\fI x.args j < 6:=by
 unfold b6 at h
 rw [kH k,dO] at h
 simp only [aC,dn,dm] at h
 obtain ⟨⟨⟨h1,h2⟩,h3⟩,_⟩:=h
 unfold o8 vE pB at h3
 simp only [aC,cU] at h3
 obtain ⟨⟨⟨⟨h4,h5⟩,_⟩,_⟩,_⟩:=h3
 refine ⟨⟨h1,by omega⟩,by omega,fun j hj hb=>?_⟩
 have:=fC.1 h5 j hj
 unfold jz at this
 rw [hb,Bool.true_and,Bool.not_eq_true',Bool.or_eq_false_iff,fS,mG] at this
 omega
theorem Ak (s:Option Nat) (a:Int) (H:AH):bk aa s 30 1 [(0,I a)] H=(put s H (.cells [I a] 3)).map fun p=>(.slice p.1 0 1 1 1 true,p.2):=by kernel_rfl
theorem M9 (s:Option Nat) (a b:Int) (H:AH):bk aa s 30 2 [(0,I a),(1,I b)] H=(put s H (.cells [I a,I b] 3)).map fun p=>(.slice p.1 0 1 2 2 true,p.2):=by kernel_rfl
theorem S7 {G:AH} {c:Cod} {vp vs vi va:AV} {x:Itm} {bx:Nat} (h:eO G c vp vs vi) (ha:SlS 32 1 G va (x.args.map dw)) (hbx:G[bx]? =some (.cells (aL x va) 34)) (hn6:c.params.length<=6) (hal:x.args.length=c.params.length) (hpos:∀ j,j < c.params.length->iK c (j:Int)=true->0<=fI x.args j/\fI x.args j < 6) (hN:c.params.length < 2 ^ 60):∀ (d j:Nat) (tm:List AV) (K:AH) (Z:Option (bs × St)),EvC aa C0 W0 AP Ro (tm,K)=Z->c.params.length - j=d->j<=c.params.length->(tm.length=56/\au G K/\tm.getD 3 uA=.ptr bx 0/\tm.getD 17 uA=vp/\tm.getD 18 uA=I c.params.length/\tm.getD 19 uA=I ((j:Nat):Int)/\∃ v,tm.getD 4 uA=v/\Own G.length K 1 3 v ((jg c x.args j).map fun (n:Nat)=>I (n:Int))) ->
   ∃ X K1,Z=some (.exit 1,(X,K1))/\(X.length=56/\au G K1/\X.getD 3 uA=.ptr bx 0/\X.getD 17 uA=vp/\X.getD 18 uA=I c.params.length/\X.getD 19 uA=I ((c.params.length:Nat):Int)/\∃ v,X.getD 4 uA=v/\Own G.length K1 1 3 v ((jg c x.args c.params.length).map fun (n:Nat)=>I (n:Int))):=by
 intro d
 induction d with
 | zero =>
   intro j tm K Z hZ hd hj hI
   subst hZ
   have hjl:j=c.params.length:=by omega
   subst hjl
   have hI0:=hI
   obtain ⟨hlen,hA,h3,h17,h18,h19,v,h4,ho⟩:=hI
   have hlt:ltB (((c.params.length:Nat)):Int) (c.params.length:Nat)=false:=cH (by omega)
   rw [L6]
   simp -implicitDefEqProofs only [C3,Tryz.f75,aP,hlen,h3,h17,h18,h19,h4,hlt,↓cbT,↓cbF,↓ao,an,eu,sevalprocAttr]
   refine ⟨_,K,rfl,?_⟩
   exact ⟨by first | exact hlen | simp only [aq,hlen],hA,Aj4 (by simp only [hlen,h3,h17,h18,h19,gB,and_self,sevalprocAttr]) ⟨v,by simp only [hlen,h4,gB,sevalprocAttr],ho⟩⟩
 | succ d ih =>
   intro j tm K Z hZ hd hj hI
   subst hZ
   have hI0:=hI
   obtain ⟨hlen,hA,h3,h17,h18,h19,v,h4,ho⟩:=hI
   have hjN:j < c.params.length:=by omega
   have hlt:ltB (j:Int) (c.params.length:Nat)=true:=cD (by omega)
   have hw:=cp (j:=j) (by omega)
   obtain ⟨i,k,nm,hix,hrd1,hrd2⟩:=xG h hA hjN
   obtain ⟨i2,k2,hix2,hra⟩:=yR ha hA (j:=j) (by omega)
   have hbq:∀ L,ak (K++L) bx 7 1=some [va]:=fun L=>by rw [eL (hA.get hbx) L]; rfl
   rw [L6]
   rw [<-af K]
   cases hb:iK c (j:Int) with
   | true =>
     rw [hb] at hrd1 hrd2
     have hn:=hpos j hjN hb
     have hwa:IntKind.i64.wrap (fI x.args j)=((fI x.args j).toNat:Int):=by rw [qZ (by omega)]; omega
     obtain ⟨v',K',happ,hA',ho',_⟩:=Bv (hA.bS [bl.cells [.str nm,.bool true] 74]) (ho.bg (au.app K [bl.cells [.str nm,.bool true] 74])) (by have:=Aj c x.args j; omega) (fI x.args j).toNat
     simp only [ai,cF,gC,Nat.zero_add,aG,List.cons_append,g6] at happ
     simp -implicitDefEqProofs only [C3,Tryz.f75,aP,hlen,h3,h17,h18,h19,h4,hlt,hw,hix,hrd1,hrd2,hix2,hra,hbq,hwa,hb,z74,vQ,Qx,↓ck,happ,r5,↓az,nck,↓cbT,↓cbF,↓ao,an,eu,sevalprocAttr]
     generalize hX:EvC aa C0 W0 _ _ _=Z
     refine ih (j+1) _ _ _ hX (by omega) (by omega) ?_
     exact ⟨by first | exact hlen | simp only [aq,hlen],hA',Aj4 (by simp only [hlen,h3,h17,h18,h19,gB,and_self,sevalprocAttr]) ⟨v',by simp only [hlen,h4,gB,sevalprocAttr],by rw [oX,hb,if_pos rfl]; exact ho'⟩⟩
   | false =>
     rw [hb] at hrd1 hrd2
     simp -implicitDefEqProofs only [C3,Tryz.f75,aP,hlen,h3,h17,h18,h19,h4,hlt,hw,hix,hrd1,hrd2,hix2,hra,hbq,hb,z74,vQ,r5,↓az,nck,↓cbT,↓cbF,↓ao,an,eu,sevalprocAttr]
     generalize hX:EvC aa C0 W0 _ _ _=Z
     refine ih (j+1) _ _ _ hX (by omega) (by omega) ?_
     exact ⟨by first | exact hlen | simp only [aq,hlen],hA.bS _,Aj4 (by simp only [hlen,h3,h17,h18,h19,gB,and_self,sevalprocAttr]) ⟨v,by simp only [hlen,h4,gB,sevalprocAttr],by rw [oX,hb]; exact ho.bg (au.app K _)⟩⟩
theorem AE {H L:AH} {i:Nat} {l:List Nat} (h:L[i]? =some (.cells (l.map fun (n:Nat)=>I (n:Int)) 3)):SlS 30 1 (H++L) (.slice (H.length+i) 0 1 l.length l.length true) (ints l):=by
 have hg:(H++L)[H.length+i]? =some (.cells (l.map fun (n:Nat)=>I (n:Int)) 3):=by rw [al (du _ _),aS]; exact h
 have:=nA (T:=30) (es:=1) yh (H:=H++L) (i:=H.length+i) (k:=0) (c:=l.length) (e:=true) (rows:=ints l) (pP l) (by unfold okC; rw [hg]) (by
   unfold ak
   rw [hg]
   simp only
   rw [if_pos (by simp [ints]),gA,bq (by simp [ints]),nY])
 rwa [show (ints l).length=l.length from by simp [ints]] at this
theorem Ta {H:AH} {cs:List Cod} {vc va:AV} {x:Itm} (hac:va.cells=[va]) (hao:va.one=true) (hk:x.kind=1) (hf:0<=x.src/\0<=x.dst):∃ u c K,Ev aa C0 W0 75 [vc,.agg (aL x va)] H=some (.tuple [u,c],K)/\au H K/\SlS 30 1 K u (ints (fc cs x))/\SlS 30 1 K c (ints (iJ cs x)):=by
 obtain ⟨tm,ht,g0,g1,g2⟩:=tm2 vc (.agg (aL x va)) 56 (by decide)
 rw [P0,ht]
 obtain ⟨kind,code,grid,block,src,dst,ev,args,word⟩:=x
 simp only at hk hf
 subst hk
 have e0:eqB 1 0=false:=rfl
 have e1:eqB 1 1=true:=rfl
 have e2:eqB 1 2=false:=rfl
 obtain ⟨s,rfl⟩:∃ s:Nat,src=s:=⟨src.toNat,by omega⟩
 obtain ⟨d,rfl⟩:∃ d:Nat,dst=d:=⟨dst.toNat,by omega⟩
 simp -implicitDefEqProofs only [c75,Tryz.f75,aP,g0,g1,g2,aL,↓hac,↓hao,e0,e1,e2,↓cK xJ,↓cK xH,xP,xO,dK,cm,dj,dG,ch,dJ,dc,cN,Ak,M9,r5,↓az,nck,show ∀ o,put none H o=some (H.length,H++[o]) from fun _=>rfl,↓cbT,↓cbF,↓ao,an,eu,sevalprocAttr,↓ep,↓eh,↓il,↓fO,↓eo,↓fQ,↓dC,↓er,↓bV,↓bG,↓cB,↓fR,↓dD,↓ew,↓bX,↓bW,↓cC,↓d6,↓cW,dE,bK,ai,bJ,cA,cV,dF]
 refine ⟨_,_,_,rfl,au.app _ _,?_,?_⟩
 · exact AE (i:=5) (l:=[s,d]) rfl
 · exact AE (i:=8) (l:=[d]) rfl
theorem S9 {H:AH} {cs:List Cod} {vc va:AV} {x:Itm} (hac:va.cells=[va]) (hao:va.one=true) (hk:x.kind=2) (hf:0<=x.dst):∃ u c K,Ev aa C0 W0 75 [vc,.agg (aL x va)] H=some (.tuple [u,c],K)/\au H K/\SlS 30 1 K u (ints (fc cs x))/\SlS 30 1 K c (ints (iJ cs x)):=by
 obtain ⟨tm,ht,g0,g1,g2⟩:=tm2 vc (.agg (aL x va)) 56 (by decide)
 rw [P0,ht]
 obtain ⟨kind,code,grid,block,src,dst,ev,args,word⟩:=x
 simp only at hk hf
 subst hk
 have e0:eqB 2 0=false:=rfl
 have e1:eqB 2 1=false:=rfl
 have e2:eqB 2 2=true:=rfl
 obtain ⟨d,rfl⟩:∃ d:Nat,dst=d:=⟨dst.toNat,by omega⟩
 simp -implicitDefEqProofs only [c75,Tryz.f75,aP,g0,g1,g2,aL,↓hac,↓hao,e0,e1,e2,↓cK xJ,↓cK xH,xP,xO,dK,cm,dj,dG,ch,dJ,dc,cN,Ak,M9,r5,↓az,nck,show ∀ o,put none H o=some (H.length,H++[o]) from fun _=>rfl,↓cbT,↓cbF,↓ao,an,eu,sevalprocAttr,↓ep,↓eh,↓il,↓fO,↓eo,↓fQ,↓dC,↓er,↓bV,↓bG,↓cB,↓fR,↓dD,↓ew,↓bX,↓bW,↓cC,↓d6,↓cW,dE,bK,ai,bJ,cA,cV,dF]
 refine ⟨_,_,_,rfl,au.app _ _,?_,?_⟩
 · exact AE (i:=3) (l:=[d]) rfl
 · exact AE (i:=6) (l:=[d]) rfl
theorem S8 {H:AH} {cs:List Cod} {vc va:AV} {x:Itm} (hac:va.cells=[va]) (hao:va.one=true) (hk:x.kind≠0/\x.kind≠1/\x.kind≠2):∃ u c K,Ev aa C0 W0 75 [vc,.agg (aL x va)] H=some (.tuple [u,c],K)/\au H K/\SlS 30 1 K u (ints (fc cs x))/\SlS 30 1 K c (ints (iJ cs x)):=by
 obtain ⟨tm,ht,g0,g1,g2⟩:=tm2 vc (.agg (aL x va)) 56 (by decide)
 rw [P0,ht]
 obtain ⟨kind,code,grid,block,src,dst,ev,args,word⟩:=x
 simp only at hk
 have e0:=fU hk.1
 have e1:=fU hk.2.1
 have e2:=fU hk.2.2
 simp -implicitDefEqProofs only [c75,Tryz.f75,aP,g0,g1,g2,aL,↓hac,↓hao,e0,e1,e2,↓cK xJ,↓cK xH,xP,xO,dK,cm,dj,dG,ch,dJ,dc,cN,Ak,M9,r5,↓az,nck,show ∀ o,put none H o=some (H.length,H++[o]) from fun _=>rfl,↓cbT,↓cbF,↓ao,an,eu,sevalprocAttr,↓ep,↓eh,↓il,↓fO,↓eo,↓fQ,↓dC,↓er,↓bV,↓bG,↓cB,↓fR,↓dD,↓ew,↓bX,↓bW,↓cC,↓d6,↓cW,dE,bK,ai,bJ,cA,cV,dF]
 refine ⟨_,_,_,rfl,au.app _ _,?_,?_⟩
 · rw [show fc cs _=[] from by unfold fc; rw [if_neg hk.1,if_neg hk.2.1,if_neg hk.2.2]]; exact kS yh _
 · rw [show iJ cs _=[] from by unfold iJ; rw [if_neg hk.1,if_neg hk.2.1,if_neg hk.2.2]]; exact kS yh _
theorem Tb {H:AH} {cs:List Cod} {m:List (List Int)} {vc va:AV} {x:Itm} (hc:dk H cs vc) (hcp:∀ c∈cs,c.params.length<=6) (ha:SlS 32 1 H va (x.args.map dw)) (hk:x.kind=0) (hr:b6 cs m x=true):∃ u c K,Ev aa C0 W0 75 [vc,.agg (aL x va)] H=some (.tuple [u,c],K)/\au H K/\SlS 30 1 K u (ints (fc cs x))/\SlS 30 1 K c (ints (iJ cs x)):=by
 obtain ⟨tm,ht,g0,g1,g2⟩:=tm2 vc (.agg (aL x va)) 56 (by decide)
 rw [P0,ht]
 have hac:=ha.cells
 have hao:=ha.one
 obtain ⟨⟨h1,h2⟩,h3,h4⟩:=lx hr hk
 obtain ⟨i0,k0,vp,vs,vi,hix,hrd,hcd⟩:=hc.at (au.app H [.cells (aL x va) 34]) (j:=x.code.toNat) h2
 have hcm:cT cs x.code.toNat∈cs:=by
   unfold cT
   exact eQ h2 _
 have hu:fc cs x=jg (cT cs x.code.toNat) x.args (cT cs x.code.toNat).params.length:=by unfold fc; rw [if_pos hk]
 have hch:iJ cs x=jg (cT cs x.code.toNat) x.args (cT cs x.code.toNat).params.length:=by unfold iJ; rw [if_pos hk]
 rw [hu,hch]
 have hp6:=hcp _ hcm
 have hcode:x.code=(x.code.toNat:Int):=by omega
 have hix':∀ kk,aD aa 22 vc (.int kk x.code)=some (.ptr i0 k0):=fun kk=>by rw [hcode]; exact hix kk
 have hrv:∀ L,ak (H++(.cells (aL x va) 34::L)) i0 (k0+1) 1=some [vp]:=fun L=>by
   have:=hrd L
   rw [aG] at this
   exact kU this (j:=1) rfl
 have hlp:=hcd.lp
 have e0:eqB x.kind 0=true:=kH hk
 simp only [aL] at hrv
 simp -implicitDefEqProofs only [c75,Tryz.f75,aP,g0,g1,g2,aL,↓hac,↓hao,e0,hix',hrv,hlp,r5,↓az,nck,show ∀ o,put none H o=some (H.length,H++[o]) from fun _=>rfl,↓cbT,↓cbF,↓ao,an,eu,sevalprocAttr]
 generalize hX:EvC aa C0 W0 _ (Code.loop _) _=Z
 obtain ⟨X,K1,he,i0',iA,i3,i17,i18,i19,v,i4,io⟩:=S7 (G:=H++[.cells (aL x va) 34]) (bx:=H.length) (hcd.bg (au.app H _)) (ha.app _) (by rw [al (ax _),dR]; rfl) hp6 h3 h4 (by omega) _ 0 _ _ _ hX rfl (Nat.zero_le _) ⟨by simp only [ls,g0],au.refl _,Aj3 (by simp only [g0,gB,and_self,sevalprocAttr]) ⟨by simp only [g0,gB,sevalprocAttr]; try rfl,.nilSlice,by simp only [g0,gB,sevalprocAttr],.nil⟩⟩
 subst he
 simp -implicitDefEqProofs only [aP,i0',i4,↓cbT,↓cbF,↓ao,an,eu,sevalprocAttr]
 exact ⟨_,_,K1,rfl,(au.app H _).trans iA,io.ints,io.ints⟩
theorem YP {H:AH} {cs:List Cod} {m:List (List Int)} {vc va:AV} {x:Itm} (hc:dk H cs vc) (hcp:∀ c∈cs,c.params.length<=6) (ha:SlS 32 1 H va (x.args.map dw)) (hr:b6 cs m x=true):∃ u c K,Ev aa C0 W0 75 [vc,.agg (aL x va)] H=some (.tuple [u,c],K)/\au H K/\SlS 30 1 K u (ints (fc cs x))/\SlS 30 1 K c (ints (iJ cs x)):=by
 by_cases k0:x.kind=0
 · exact Tb hc hcp ha k0 hr
 · have e0:eqB x.kind 0=false:=fU k0
   by_cases k1:x.kind=1
   · refine Ta ha.cells ha.one k1 ?_
     unfold b6 at hr
     rw [e0,ct,kH k1,dO] at hr
     unfold inB at hr
     simp only [aC,dn,dm,cU] at hr
     omega
   · have e1:eqB x.kind 1=false:=fU k1
     by_cases k2:x.kind=2
     · refine S9 ha.cells ha.one k2 ?_
       unfold b6 at hr
       rw [e0,ct,e1,ct,kH k2,dO] at hr
       unfold inB at hr
       simp only [aC,dn,dm,cU] at hr
       omega
     · exact S8 ha.cells ha.one ⟨k0,k1,k2⟩
theorem zt {cs:List Cod} (hcp:∀ c∈cs,c.params.length<=6) {m:List (List Int)} {x:Itm} (hr:b6 cs m x=true):(fc cs x).length<=6/\(iJ cs x).length<=6:=by
 have key:x.kind=0->(cT cs x.code.toNat).params.length<=6:=fun k=>by
   obtain ⟨⟨_,h2⟩,_⟩:=lx hr k
   refine hcp _ ?_
   unfold cT
   exact eQ h2 _
 unfold fc iJ
 split
 · rename_i k
   have:=Aj (cT cs x.code.toNat) x.args (cT cs x.code.toNat).params.length
   have:=key k
   omega
 · split
   · simp
   · split <;> simp
def iV (cs:List Cod) (x y:Itm):Bool:=rL (fc cs x) (iJ cs y) || rL (iJ cs x) (fc cs y)
theorem acX {H:AH} {cs:List Cod} {m:List (List Int)} {vc va vb:AV} {x y:Itm} (hc:dk H cs vc) (hcp:∀ c∈cs,c.params.length<=6) (ha:SlS 32 1 H va (x.args.map dw)) (hb:SlS 32 1 H vb (y.args.map dw)) (hrx:b6 cs m x=true) (hry:b6 cs m y=true):Ev aa C0 W0 43 [vc,.agg (aL x va),.agg (aL y vb)] H=some (.bool (iV cs x y),H):=by
 obtain ⟨tm,ht,g0,g1,g2,g3⟩:=tm3 vc (.agg (aL x va)) (.agg (aL y vb)) 34 (by decide)
 rw [abG,ht]
 rw [<-af (ro H)]
 have hac:=ha.cells
 have hao:=ha.one
 have hbc:=hb.cells
 have hbo:=hb.one
 have hA0:=au.app (ro H) [bl.cells (aL x va) 34,.cells (aL y vb) 34]
 obtain ⟨u1,c1,K1,he1,hA1,hu1,hc1⟩:=YP (hc.ro.bg hA0) hcp (ha.ro.same hA0) hrx
 have hA01:=hA0.trans hA1
 obtain ⟨u2,c2,K2,he2,hA2,hu2,hc2⟩:=YP (hc.ro.bg hA01) hcp (hb.ro.same hA01) hry
 have hu1':=hu1.same hA2
 have hc1':=hc1.same hA2
 have l1:=zt hcp hrx
 have l2:=zt hcp hry
 have h72a:=YQ hu1' hc2 (by omega) (by omega) []
 have h72b:=YQ hc1' hu2 (by omega) (by omega) [.cells [c2] 30]
 rw [af,g6] at h72a
 have hy1:ak K1 ((ro H).length+1) 0 9=some (aL y vb):=jE hA1 (by rw [jN]; rfl)
 unfold iV
 have hF:∀ gl tm,cP gl tm (.func 72)=some (.func (.func 72) [] []):=fun _ _=>rfl
 simp only [aL] at he1 he2 hy1
 cases hm:rL (fc cs x) (iJ cs y) with
 | true =>
   rw [hm] at h72a
   simp -implicitDefEqProofs only [c43,Tryz.f43,aP,g0,g1,g2,g3,aL,↓hac,↓hao,↓hbc,↓hbo,↓Yo,he1,he2,hy1,hF,↓aR,Tryz.func72,show Tryz.f72.body.isSome=true from rfl,h72a,r5,↓az,nck,↓cbT,↓cbF,↓ao,an,eu,sevalprocAttr]
 | false =>
   rw [hm] at h72a
   simp -implicitDefEqProofs only [c43,Tryz.f43,aP,g0,g1,g2,g3,aL,↓hac,↓hao,↓hbc,↓hbo,↓Yo,he1,he2,hy1,hF,↓aR,Tryz.func72,show Tryz.f72.body.isSome=true from rfl,h72a,h72b,r5,↓az,nck,↓cbT,↓cbF,↓ao,an,eu,sevalprocAttr]
def mR (l:List Nat):List (AV × AV × Nat):=(wU l (bn l.length)).map fun p=>(I (p.1:Int),.bool true,p.2)
theorem WK:ll aa 95=some (3,4):=by kernel_rfl
theorem Nh (e:Bool) (n:Int):EW aa 3 e (I n)=some (.int .i64 n,.int .i64):=by cases e <;> kernel_rfl
theorem I0 (a b:Int):vt aa 3 (.int .i64) (.int .i64 a) (.int .i64 b)=some (a == b):=by
 unfold vt Instr.sameNow; rfl
theorem yy (n:Nat):∀ (l:List (Nat × Nat)) (i:Nat),iI aa 3 (.int .i64) (.int .i64 n) (l.map fun p=>(I (p.1:Int),.bool true,p.2)) i=if (l.map (·.1)).contains n then (iI aa 3 (.int .i64) (.int .i64 n) (l.map fun p=>(I (p.1:Int),.bool true,p.2)) i) else some none
 | [],i=>rfl
 | p::l,i=>by
   have ih:=yy n l (i+1)
   simp only [gI,iI,toV,aA,I0,tY]
   cases h:((n:Int) == (p.1:Int)) with
   | true =>
     have:(n == p.1)=true:=by rw [beq_iff_eq] at h ⊢; exact Int.ofNat_inj.1 h
     rw [this]; simp
   | false =>
     have:(n == p.1)=false:=by rw [beq_eq_false_iff_ne] at h ⊢; exact fun e=>h (by rw [e])
     rw [this]
     simp only [lI]; exact ih
theorem z8 (n:Nat):∀ (l:List (Nat × Nat)) (i:Nat),(l.map (·.1)).contains n=true->∃ j,iI aa 3 (.int .i64) (.int .i64 n) (l.map fun p=>(I (p.1:Int),.bool true,p.2)) i=some (some (j,.bool true))
 | [],i,h=>by simp at h
 | p::l,i,h=>by
   simp only [gI,iI,toV,aA,I0]
   cases h':((n:Int) == (p.1:Int)) with
   | true=>exact ⟨i,rfl⟩
   | false =>
     have:(n == p.1)=false:=by rw [beq_eq_false_iff_ne] at h' ⊢; exact fun e=>h' (by rw [e])
     simp only [gI,tY,this,lI] at h
     exact z8 n l (i+1) h
theorem xU (l:List Nat):(wU l (bn l.length)).map (·.1)=l:=by rw [List.map_fst_zip (by simp)]
theorem W7 {H:AH} {i:Nat} {l:List Nat} {c:Nat} (h:H[i]? =some (.map (mR l) c)) (n:Nat):iB aa 95 (.map i) (I (n:Int)) false H=some (.bool (l.contains n)):=by
 simp only [iB,WK,jy,h,aA,Nh]
 cases hc:l.contains n with
 | true =>
   obtain ⟨j,hj⟩:=z8 n _ 0 (by rw [xU]; exact hc)
   unfold mR
   rw [hj]; rfl
 | false =>
   unfold mR
   rw [yy,xU,hc]
   simp only [aA,z4]; rfl
theorem Hw (l:List Nat) (n:Nat):mR l++[(I (n:Int),.bool true,l.length)]=mR (l++[n]):=by
 unfold mR
 rw [ai,eI,iT,List.zip_append (by simp),eg]; rfl
theorem aaC {H:AH} {i:Nat} {l:List Nat} (h:H[i]? =some (.map (mR l) l.length)) {n:Nat} (hc:l.contains n=false):iz aa 95 (.map i) (I (n:Int)) (.bool true) H=some (H.set i (.map (mR (l++[n])) (l++[n]).length)):=by
 have hf:iI aa 3 (.int .i64) (.int .i64 n) (mR l) 0=some none:=by
   unfold mR
   rw [yy,xU,hc]; rfl
 simp only [iz,WK,h,aA,Nh,hf]
 rw [Hw,ai]; rfl
theorem N5 {b:Nat} {K:AH} {v:AV} {x:Nat} {l:List Nat} (h:Own b K 1 3 v ((x::l).map fun (n:Nat)=>I (n:Int))) :
   ∃ v',kf aa 30 K v (some (I 1)) none none=some v'/\Own b K 1 3 v' (l.map fun (n:Nat)=>I (n:Int)):=by
 have hlen:=h.length
 rw [ar,cF,dz] at hlen
 generalize hxs:(x::l).map (fun (n:Nat)=>I (n:Int))=xs at h
 cases h with
 | nil=>simp at hxs
 | «at» i k len cap ex cs xs hb hi hl hc hrd =>
   rw [cj] at hlen
   have hu:aa.underlying 30=some (.slice 3):=by kernel_rfl
   have hco:aa.cellsOf 3=1:=by kernel_rfl
   have hin:aa.info? 3=some ((aa.info? 3).getD default):=by kernel_rfl
   refine ⟨.slice i (k+1 * 1) 1 (len - 1) (cap - 1) ex,?_,.at i (k+1 * 1) (len - 1) (cap - 1) ex cs _ hb hi (by omega) (by omega) ?_⟩
   · unfold kf
     rw [hu]
     simp only [ie]
     rw [hco,hin]
     show (if 1<=len/\len<=cap/\1=1 then _ else _)=_
     rw [if_pos ⟨by omega,hl,rfl⟩]
     rfl
   · have:=AL hrd 1 (len - 1) (by omega)
     rw [dz,dz,this,<-hxs]
     congr 1
     rw [gI,List.drop_succ_cons,gA,bq (by rw [ar]; omega)]
theorem UA (i k es len cap:Nat) (ex:Bool) (kk:IntKind) (n:Int):aD aa 91 (.slice i k es len cap ex) (.int kk n)=if 0<=n/\n < len/\1=es then some (.ptr i (k+n.toNat * es)) else none:=by kernel_rfl
theorem aaF (H:AH) (i k es len cap:Nat) (ex:Bool):dQ aa 91 H (.slice i k es len cap ex)=some (.int .i64 len):=by kernel_rfl
theorem WS (H:AH):dQ aa 91 H .nilSlice=some (.int .i64 0):=by kernel_rfl
theorem Xx:IxT 91 1:=⟨WS,aaF,UA⟩
theorem Er (H:AH) (i k:Nat):ldA aa 91 H i k=(ak H i k 1).bind (·.head?):=by kernel_rfl
theorem pS (i k:Nat):aN aa 93 (.ptr i k) 0=some (.ptr i k):=by kernel_rfl
theorem uP (i k:Nat):aN aa 93 (.ptr i k) 1=some (.ptr i (k+1)):=by kernel_rfl
structure mT (H:AH) (A:List (List Nat)) (av:AV):Prop where
 ex:∃ ws:List AV,ws.length=A.length/\SlS 91 1 H av (ws.map fun w=>[w])/\∀ i,i < A.length->SlS 30 1 H (ws.getD i uA) (ints (A.getD i []))
theorem mT.sub {H K:AH} {A:List (List Nat)} {av:AV} (h:mT H A av) (hA:Sub H K):mT K A av:=by
 obtain ⟨ws,h1,h2,h3⟩:=h
 exact ⟨ws,h1,h2.sub hA,fun i hi=>(h3 i hi).sub hA⟩
theorem mT.at {H K:AH} {A:List (List Nat)} {av:AV} (h:mT H A av) (hA:au H K) {j:Nat} (hj:j < A.length):∃ i k w,(∀ kk,aD aa 91 av (.int kk (j:Int))=some (.ptr i k))/\(∀ L,ak (K++L) i k 1=some [w])/\SlS 30 1 H w (ints (A.getD j [])):=by
 obtain ⟨ws,h1,h2,h3⟩:=h
 have hw:j < ws.length:=by omega
 obtain ⟨i,k,hi,hr⟩:=h2.ix j [ws.getD j uA] (by rw [List.getElem?_map,aj hw,dU hw]; rfl)
 exact ⟨i,k,_,hi,fun L=>iZ hr hA L,h3 j hj⟩
theorem Jv {H G:AH} {A:List (List Nat)} {w:AV} {N n x pb mb M:Nat} (hH:au H G) (hHm:H.length<=mb) (hmG:mb < G.length) (hrow:SlS 30 1 H w (ints (A.getD x []))) (hA:∀ l∈A,∀ y∈l,y < N) (hNN:N < 2 ^ 20) (hMb:M < 2 ^ 20) (hN:(A.getD x []).length < 2 ^ 60):∀ (d j:Nat) (tm:List AV) (K:AH) (Z:Option (bs × St)),EvC aa C0 W0 plN Rz (tm,K)=Z->(A.getD x []).length - j=d->j<=(A.getD x []).length->(tm.length=43/\tm.getD 2 uA=.ptr pb 0/\tm.getD 5 uA=.map mb/\tm.getD 25 uA=w/\tm.getD 26 uA=I (A.getD x []).length/\tm.getD 27 uA=I ((j:Nat):Int)/\AgX G K mb/\∃ seen todo v,tm.getD 6 uA=v/\Qu.RI A N n seen todo x j/\K[mb]? =some (.map (mR seen) seen.length)/\Own G.length K 1 3 v (todo.map fun (n:Nat)=>I (n:Int))/\(N - seen.length)+todo.length=M) ->
   ∃ X K1,Z=some (.exit 2,(X,K1))/\(X.length=43/\X.getD 2 uA=.ptr pb 0/\X.getD 5 uA=.map mb/\X.getD 25 uA=w/\X.getD 26 uA=I (A.getD x []).length/\X.getD 27 uA=I (((A.getD x []).length:Nat):Int)/\AgX G K1 mb/\∃ seen todo v,X.getD 6 uA=v/\Qu.RI A N n seen todo x (A.getD x []).length/\K1[mb]? =some (.map (mR seen) seen.length)/\Own G.length K1 1 3 v (todo.map fun (n:Nat)=>I (n:Int))/\(N - seen.length)+todo.length=M):=by
 intro d
 induction d with
 | zero =>
   intro j tm K Z hZ hd hj hI
   subst hZ
   have hjl:j=(A.getD x []).length:=by omega
   subst hjl
   have hI0:=hI
   obtain ⟨hlen,h2,h5,h25,h26,h27,hGX,seen,todo,v,h6,hI5,hmp,ho,hM⟩:=hI
   have hlt:ltB ((((A.getD x []).length:Nat)):Int) ((A.getD x []).length:Nat)=false:=cH (by omega)
   rw [Mi]
   simp -implicitDefEqProofs only [Da,Tryz.f44,aP,hlen,h2,h5,h25,h26,h27,h6,hlt,↓cbT,↓cbF,↓ao,an,eu,sevalprocAttr]
   refine ⟨_,K,rfl,?_⟩
   exact ⟨by first | exact hlen | simp only [aq,hlen],Aj5 (by simp only [hlen,h2,h5,h25,h26,h27,gB,and_self,sevalprocAttr]) ⟨hGX,seen,todo,v,by simp only [hlen,h6,gB,sevalprocAttr],hI5,hmp,ho,hM⟩⟩
 | succ d ih =>
   intro j tm K Z hZ hd hj hI
   subst hZ
   have hI0:=hI
   obtain ⟨hlen,h2,h5,h25,h26,h27,hGX,seen,todo,v,h6,hI5,hmp,ho,hM⟩:=hI
   have hjN:j < (A.getD x []).length:=by omega
   have hlt:ltB (j:Int) ((A.getD x []).length:Nat)=true:=cD (by omega)
   have hwi:=cp (j:=j) (by omega)
   have hHK:au H K:=fun i hi=>(hGX.2 i (bu hi hH.len) (by omega)).trans (hH i hi)
   obtain ⟨i0,k0,hix,hrd⟩:=ints_at hrow hHK hjN
   have hy:(A.getD x [])[j]? =some ((A.getD x []).getD j 0):=by rw [aj hjN,dU hjN]
   obtain ⟨hs1,hs2⟩:=hI5.step hA hy
   have hle:=hI5.le
   generalize (A.getD x []).getD j 0=y at *
   have hmK:(K++[])[mb]? =some (.map (mR seen) seen.length):=by rw [af]; exact hmp
   have hlk:=W7 hmK y
   rw [Mi]
   rw [<-af K]
   cases hc:seen.contains y with
   | true =>
     simp -implicitDefEqProofs only [Da,Tryz.f44,aP,hlen,h2,h5,h25,h26,h27,h6,hlt,hwi,hix,hrd,hlk,hc,r5,↓az,nck,↓cbT,↓cbF,↓ao,an,eu,sevalprocAttr]
     generalize hX:EvC aa C0 W0 _ _ _=Z
     refine ih (j+1) _ _ _ hX (by omega) (by omega) ?_
     simp only [af]
     exact ⟨by first | exact hlen | simp only [aq,hlen],Aj5 (by simp only [hlen,h2,h5,h25,h26,h27,gB,and_self,sevalprocAttr]) ⟨hGX,seen,todo,v,by simp only [hlen,h6,gB,sevalprocAttr],hs1 (by simpa using hc),hmp,ho,hM⟩⟩
   | false =>
     have hmp2:=aaC (i:=mb) (l:=seen) (n:=y) hmK hc
     have hmK1:=aJ hmp
     have htl:todo.length<=M:=by omega
     have hlv:=ho.length
     rw [ar,dz] at hlv
     have hok:Own G.length (K.set mb (.map (mR (seen++[y])) (seen++[y]).length)) 1 3 v (todo.map fun (n:Nat)=>I (n:Int)):=ho.other fun i k e l c x hv=>aB fun he=>by have:=(gT ho (i:=i) (by rw [hv]; rfl)).1; omega
     obtain ⟨v',K',happ,ho',hll,hsame,_⟩:=wQ Ng (hok.bg (au.app _ [bl.cells [I (y:Int)] 3])) (by rw [ai,aq]; exact ba hGX.1 (du _ _)) (x:=.slice (K.set mb (.map (mR (seen++[y])) (seen++[y]).length)).length 0 1 1 1 true) (new:=[I (y:Int)]) (.at _ _ _ _ _ _ (by rw [gu]; rfl)) rfl (by rw [by3,<-hlv,cj]; unfold fT; rw [aC,decide_eq_true_iff,decide_eq_true_iff]; constructor <;> omega)
     rw [af] at hmp2
     have hmp3:iz aa 95 (.map mb) (I (y:Int)) (.bool true) (K++[])=some (K.set mb (.map (mR (seen++[y])) (seen++[y]).length)):=by rw [af]; exact hmp2
     have hbs:=Sr (y:Int) (K.set mb (.map (mR (seen++[y])) (seen++[y]).length))
     generalize hK2:K.set mb (.map (mR (seen++[y])) (seen++[y]).length)=K2 at hmp3 hbs happ
     simp -implicitDefEqProofs only [Da,Tryz.f44,aP,hlen,h2,h5,h25,h26,h27,h6,hlt,hwi,hix,hrd,hlk,hc,hmp3,hbs,↓ck,happ,r5,↓az,nck,↓cbT,↓cbF,↓ao,an,eu,sevalprocAttr]
     generalize hX:EvC aa C0 W0 _ _ _=Z
     refine ih (j+1) _ _ _ hX (by omega) (by omega) ?_
     subst hK2
     refine ⟨by first | exact hlen | simp only [aq,hlen],Aj5 (by simp only [hlen,h2,h5,h25,h26,h27,gB,and_self,sevalprocAttr]) ⟨⟨?_,?_⟩,seen++[y],todo++[y],v',by simp only [hlen,h6,gB,sevalprocAttr],hs2 (by simpa using hc),?_,?_,?_⟩⟩
     · exact ba hGX.1 (by rw [ai,aq] at hll; omega)
     · intro i hi hne
       rw [hsame i (by rw [ai,aq]; have:=hGX.1; omega) (fun e=>by have:=(gT ho e).1; omega),aw (by rw [aq]; have:=hGX.1; omega),aB (Ne.symm hne)]
       exact hGX.2 i hi hne
     · rw [hsame mb (by rw [ai,aq]; omega) (fun e=>by have:=(gT ho e).1; omega),aw (by rw [aq]; exact hmK1),List.getElem?_set_self hmK1]
     · rw [eg]; exact ho'
     · have h1:(seen++[y]).length<=N:=(hs2 (by simpa using hc)).le
       rw [ai,eI] at h1 ⊢
       rw [ai,eI]
       omega
theorem Hp {H G:AH} {A:List (List Nat)} {itv av:AV} {N n pb mb:Nat} (hH:au H G) (hHm:H.length<=mb) (hmG:mb < G.length) (hpm:pb≠mb) (hpb:G[pb]? =some (.cells [itv,av] 93)) (haft:mT H A av) (hlenA:A.length=N) (hA:∀ l∈A,∀ y∈l,y < N) (hrow:∀ l∈A,l.length < 2 ^ 20) (hn:n < N) (hNN:N < 2 ^ 19) :
   ∀ (M:Nat) (seen todo:List Nat) (v:AV) (K:AH) (tm:List AV),(N - seen.length)+todo.length=M->M<=N+1->Qu.RO A N n seen todo->AgX G K mb->K[mb]? =some (.map (mR seen) seen.length)->Own G.length K 1 3 v (todo.map fun (n:Nat)=>I (n:Int))->tm.length=43->tm.getD 2 uA=.ptr pb 0->tm.getD 5 uA=.map mb->tm.getD 6 uA=v ->
   ∃ X K' seen',EvC aa C0 W0 plN KA (tm,K)=some (.exit 0,(X,K'))/\X.length=43/\X.getD 5 uA=.map mb/\AgX G K' mb/\K'[mb]? =some (.map (mR seen') seen'.length)/\Qu.RO A N n seen' []:=by
 intro M
 induction M using Nat.strongRecOn with
 | ind M ih =>
   intro seen todo v K tm hM hMN hRO hGX hmp ho hlen h2 h5 h6
   have hln:=m8 ho.ints
   rw [US]
   cases todo with
   | nil =>
     have l0:ltB 0 0=false:=rfl
     simp only [gC,NK] at hln
     simp -implicitDefEqProofs only [Ge,Tryz.f44,aP,hlen,h2,h5,h6,hln,l0,r5,↓az,nck,↓cbT,↓cbF,↓ao,an,eu,sevalprocAttr]
     exact ⟨_,K,seen,rfl,by simp only [ls,hlen],by simp only [hlen,h5,gB,sevalprocAttr],hGX,hmp,hRO⟩
   | cons x rest =>
     have hx:x < N:=by
       rcases hRO.s2 x (List.mem_cons_self ..) with e | e
       · omega
       · exact hRO.sN x e
     have hxA:x < A.length:=by omega
     have hl1:ltB 0 ((rest.length+1:Nat):Int)=true:=cD (by omega)
     simp only [cF] at hln
     have hHK:au H K:=fun i hi=>(hGX.2 i (bu hi hH.len) (by omega)).trans (hH i hi)
     obtain ⟨i0,k0,hix,hrd⟩:=ints_at ho.ints (au.refl K) (j:=0) (by simp)
     have hrd0:ak K i0 k0 1=some [I (x:Int)]:=by have:=hrd []; rwa [af] at this
     simp only [NK] at hix
     obtain ⟨v1,hsl,ho1⟩:=N5 ho
     obtain ⟨i1,k1,w,hix1,hrd1,hw⟩:=haft.at hHK hxA
     have hrd1':ak K i1 k1 1=some [w]:=by have:=hrd1 []; rwa [af] at this
     have hpk:ak K pb 1 1=some [av]:=by
       unfold ak
       rw [hGX.2 pb (aJ hpb) hpm,hpb]; rfl
     have hlw:=m8 hw
     simp -implicitDefEqProofs only [Ge,Tryz.f44,aP,hlen,h2,h5,h6,hln,hl1,hix,hrd0,hsl,uP,Er,hpk,hix1,hrd1',hlw,r5,↓az,nck,↓cbT,↓cbF,↓ao,an,eu,sevalprocAttr]
     generalize hX:EvC aa C0 W0 _ (Code.loop _) _=Z
     have hxm:A.getD x []∈A:=eQ hxA []
     obtain ⟨X,K1,he,x0,x2,x5,x25,x26,x27,hG1,seen1,todo1,v2,x6,hI1,hm1,ho2,hM1⟩:=Jv (H:=H) (G:=G) (A:=A) (w:=w) (N:=N) (n:=n) (x:=x) (pb:=pb) (mb:=mb) (M:=(N - seen.length)+rest.length) hH hHm hmG hw hA (by omega) (by simp at hM; omega) (by have:=hrow _ hxm; omega) _ 0 _ _ _ hX rfl (Nat.zero_le _) ⟨by simp only [ls,hlen],Aj4 (by simp only [hlen,h2,h5,gB,and_self,sevalprocAttr]) ⟨by simp only [hlen,gB,sevalprocAttr]; try rfl,hGX,seen,rest,v1,by simp only [hlen,gB,sevalprocAttr],hRO.pop,hmp,ho1,rfl⟩⟩
     subst he
     simp -implicitDefEqProofs only [x0,x2,x5,x6,↓cbT,↓cbF,↓ao,an,eu,sevalprocAttr]
     generalize hX2:EvC aa C0 W0 _ _ _=Z
     obtain ⟨X',K',seen',b1,b2⟩:=ih ((N - seen1.length)+todo1.length) (by rw [hM1]; simp at hM; omega) seen1 todo1 v2 K1 X rfl (by rw [hM1]; simp at hM; omega) (hI1.out (ax _)) hG1 hm1 ho2 x0 x2 x5 x6
     exact ⟨X',K',seen',hX2.symm.trans b1,b2⟩
theorem DZ {H G:AH} {A:List (List Nat)} {itv av:AV} {N n pb mb:Nat} {tm:List AV} {K:AH} {Z:Option (bs × St)} (hX:EvC aa C0 W0 plN KA (tm,K)=Z) (hH:au H G) (hHm:H.length<=mb) (hmG:mb < G.length) (hpm:pb≠mb) (hpb:G[pb]? =some (.cells [itv,av] 93)) (haft:mT H A av) (hlenA:A.length=N) (hA:∀ l∈A,∀ y∈l,y < N) (hrow:∀ l∈A,l.length < 2 ^ 20) (hn:n < N) (hNN:N < 2 ^ 19)
   {v:AV} (hGX:AgX G K mb) (hmp:K[mb]? =some (.map [] 0)) (ho:Own G.length K 1 3 v ([n].map fun (n:Nat)=>I (n:Int))) (hlen:tm.length=43) (h2:tm.getD 2 uA=.ptr pb 0) (h5:tm.getD 5 uA=.map mb) (h6:tm.getD 6 uA=v) :
   ∃ X K' seen',Z=some (.exit 0,(X,K'))/\X.length=43/\X.getD 5 uA=.map mb/\AgX G K' mb/\K'[mb]? =some (.map (mR seen') seen'.length)/\Qu.RO A N n seen' []:=by
 subst hX
 exact Hp hH hHm hmG hpm hpb haft hlenA hA hrow hn hNN _ [] [n] v K tm rfl (by simp) (Qu.RO.init A N n) hGX hmp ho hlen h2 h5 h6
theorem acW {H:AH} {A:List (List Nat)} {itv av:AV} {N n:Nat} (hac:itv.cells=[itv]/\itv.one=true) (hao:av.cells=[av]/\av.one=true) (haft:mT H A av) (hlenA:A.length=N) (hA:∀ l∈A,∀ y∈l,y < N) (hrow:∀ l∈A,l.length < 2 ^ 20) (hn:n < N) (hNN:N < 2 ^ 19):∃ mb K seen,Ev aa C0 W0 44 [.agg [itv,av],I n] H=some (.map mb,K)/\au H K/\H.length<=mb/\K[mb]? =some (.map (mR seen) seen.length)/\∀ y,y∈seen↔Qu.TG (Qu.EA A) n y:=by
 obtain ⟨tm,ht,g0,g1,g2⟩:=tm2 (.agg [itv,av]) (I n) 43 (by decide)
 rw [abF,ht]
 obtain ⟨c1,c2⟩:=hac
 obtain ⟨c3,c4⟩:=hao
 simp -implicitDefEqProofs only [c44,Tryz.f44,aP,g0,g1,g2,↓c1,↓c2,↓c3,↓c4,Qx,r5,↓az,nck,show ofV 6 (Value.map none)=some .nilMap from rfl,show ∀ o,put none H o=some (H.length,H++[o]) from fun _=>rfl,↓cbT,↓cbF,↓ao,an,eu,sevalprocAttr]
 generalize hX:EvC aa C0 W0 _ (Code.loop _) _=Z
 obtain ⟨X,K',seen,he,x0,x5,hG,hm,hR⟩:=DZ (H:=H) (G:=H++[.cells [itv,av] 93,.map [] 0]) (A:=A) (itv:=itv) (av:=av) (N:=N) (n:=n) (pb:=H.length) (mb:=H.length+1) (v:=.slice (H.length+2) 0 1 1 1 true) hX (au.app _ _) (by omega) (by simp) (by omega) (by rw [al (ax _),dR]; rfl) haft hlenA hA hrow hn hNN ⟨by simp,fun i hi _=>by
     rw [show H++[bl.cells [itv,av] 93,.map [] 0,.cells [I (n:Int)] 3]=(H++[bl.cells [itv,av] 93,.map [] 0])++[.cells [I (n:Int)] 3] from by simp,aw hi]⟩ (by rw [al (by omega),aS]; rfl) (.at _ _ _ _ _ [I (n:Int)] _ (by simp) (by rw [al (by omega),aS]; rfl) (ax _) (by simp) (by rw [jN]; rfl)) (by simp only [ls,g0]) (by simp only [g0,gB,sevalprocAttr]) (by simp only [g0,gB,sevalprocAttr]) (by simp only [g0,gB,sevalprocAttr])
 subst he
 refine ⟨H.length+1,K',seen,?_,fun i hi=>(hG.2 i (by simp; omega) (by omega)).trans (aw hi),by omega,hm,fun y=>hR.fin y⟩
 simp -implicitDefEqProofs only [x0,x5,↓cbT,↓cbF,↓ao,an,eu,sevalprocAttr]
end Go.Dv
