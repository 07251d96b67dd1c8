/- Part 33 of the walks (own work). -/
import Derived.Test.YtilpjnckfkjkbaaGreatDoorS32
open Bool renaming and_eq_true→aD,eq_iff_iff→fA,not_eq_true→oT,not_eq_true'→ba
open Int renaming toNat_natCast→cw
open List renaming any_cons→eE,any_nil→fi,any_toArray→dz,any_toArray'→d6,append_assoc→aE,append_nil→af,getElem?_append_left→aq,getElem?_append_right→aw,getElem?_eq_getElem→aj,getElem?_map→aI,getElem?_set_ne→aB,getElem?_set_self→bI,getElem?_zip_eq_some→nv,length_append→ai,length_drop→Hr,length_map→au,length_set→ar,length_singleton→eo,length_take→eW,mem_cons→bH,mem_filter→gf,mem_flatten→vG,mem_iff_getElem?→pY,mem_map→bY,mem_range→fT,not_mem_nil→bW,replicate_succ→dH,replicate_zero→du,size_toArray→d5
open Nat renaming add_assoc→bV,add_mul→d3,le_refl→ax,le_trans→bc,mul_one→dS,one_mul→jk,sub_self→dI,zero_le→fy
open Option renaming bind_some→ay,getD_some→e7,map_some→cE
open Go.Proofs.Tryz renaming prog→aa
set_option maxRecDepth 100000
set_option maxHeartbeats 4000000
set_option linter.unusedSimpArgs false
set_option linter.unusedVariables false
namespace Go.Dv
open Go.Proofs
attribute [local congr] aH bP bj bO bQ
open Qu (off cr lq nD nxt aft lF bef)
def w6 (cs:List Cod) (ss:List (List Itm)):Bool:=bA (fun i=>bA (fun j=>jY cs ss i j) i 0) ss.flatten.length 0
theorem Om {G:AH} {cs:List Cod} {m:List (List Int)} {ss:List (List Itm)} {vc iv av:AV} {a:Nat} (hc:cO G cs vc) (hcp:∀ c∈cs,c.params.length<=6) (hI:dA G ss.flatten iv) (hrt:∀ x∈ss.flatten,cK cs m x=true) (haf:lx G (aft (qS ss)) av) (hic:iv.cells=[iv]/\iv.one=true) (hac:av.cells=[av]/\av.one=true) (hfew:ss.flatten.length<=1000) (hpa:G[a]? =some (.cells [iv,av] 93)) {i c:Nat} {w va:AV} (hiN:i < ss.flatten.length) (hcx:G[c]? =some (.cells (aU (bB ss.flatten i) va) 34)) (hsx:SlS 32 1 G va ((bB ss.flatten i).args.map dh)) (hw:∀ j kk,j < i->aG aa 31 w (.int kk (j:Nat))=aG aa 31 iv (.int kk (j:Nat))) {tm:List AV} {K:AH} {Z:Option (bu × St)} (hX:EvC aa C0 W0 plN xr (tm,K)=Z) (hA:al G K) (hlen:tm.length=64) (h0:tm.getD 0 uA=vc) (h9:tm.getD 9 uA=.ptr a 0) (h10:tm.getD 10 uA=I (i:Nat)) (h11:tm.getD 11 uA=.ptr c 0) (h25:tm.getD 25 uA=iv) (h26:tm.getD 26 uA=I (ss.flatten.length:Nat)) (h27:tm.getD 27 uA=I (i:Nat)) (h35:tm.getD 35 uA=w) (h36:tm.getD 36 uA=I (i:Nat)) (h37:tm.getD 37 uA=I ((0:Nat):Int)) :
   (bA (fun j=>jY cs ss i j) i 0=true->∃ X K1,Z=some (.exit 2,(X,K1))/\X.length=64/\al G K1/\X.getD 0 uA=vc/\X.getD 9 uA=.ptr a 0/\X.getD 10 uA=I (i:Nat)/\X.getD 11 uA=.ptr c 0/\X.getD 25 uA=iv/\X.getD 26 uA=I (ss.flatten.length:Nat)/\X.getD 27 uA=I (i:Nat)/\X.getD 35 uA=w/\X.getD 36 uA=I (i:Nat))/\(bA (fun j=>jY cs ss i j) i 0=false->∃ Y K1,Z=some (.ret,(Y,K1))/\Y.getD 6 uA=.bool false/\Y.getD 7 uA=I 0):=by
 subst hX
 exact RJ hc hcp hI hrt haf hic hac hfew hpa hiN hcx hsx hw i 0 tm K rfl (fy _) hA hlen h0 h9 h10 h11 h25 h26 h27 h35 h36 h37
theorem Ol {G:AH} {cs:List Cod} {m:List (List Int)} {ss:List (List Itm)} {vc iv av:AV} {a:Nat} (hc:cO G cs vc) (hcp:∀ c∈cs,c.params.length<=6) (hI:dA G ss.flatten iv) (hrt:∀ x∈ss.flatten,cK cs m x=true) (haf:lx G (aft (qS ss)) av) (hic:iv.cells=[iv]/\iv.one=true) (hac:av.cells=[av]/\av.one=true) (hfew:ss.flatten.length<=1000) (hpa:G[a]? =some (.cells [iv,av] 93)) (hiv:(iv=.nilSlice/\ss.flatten.length=0)∨∃ b,iv=.slice b 0 9 ss.flatten.length ss.flatten.length false):∀ (d i:Nat) (tm:List AV) (K:AH),ss.flatten.length - i=d->i<=ss.flatten.length->al G K->tm.length=64->tm.getD 0 uA=vc->tm.getD 9 uA=.ptr a 0->tm.getD 25 uA=iv->tm.getD 26 uA=I (ss.flatten.length:Nat)->tm.getD 27 uA=I ((i:Nat):Int) ->
   (bA (fun i=>bA (fun j=>jY cs ss i j) i 0) ss.flatten.length i=true->∃ X K1,EvC aa C0 W0 plN Bu (tm,K)=some (.exit 0,(X,K1))/\X.length=64)/\(bA (fun i=>bA (fun j=>jY cs ss i j) i 0) ss.flatten.length i=false->∃ Y K1,EvC aa C0 W0 plN Bu (tm,K)=some (.ret,(Y,K1))/\Y.getD 6 uA=.bool false/\Y.getD 7 uA=I 0):=by
 intro d
 induction d with
 | zero =>
   intro i tm K hd hi hA hlen h0 h9 h25 h26 h27
   have hil:i=ss.flatten.length:=by omega
   subst hil
   have hlt:ltB (ss.flatten.length:Nat) (ss.flatten.length:Nat)=false:=db (by omega)
   rw [cN (ax _),LD]
   refine ⟨fun _=>?_,fun h=>(by cases h)⟩
   simp -implicitDefEqProofs only [zD,Tryz.f18,aP,hlen,h0,h9,h25,h26,h27,hlt,↓cbT,↓cbF,↓ao,an,eu,sevalprocAttr]
   exact ⟨_,K,rfl,by simp only [ls,hlen]⟩
 | succ d ih =>
   intro i tm K hd hi hA hlen h0 h9 h25 h26 h27
   have hiN:i < ss.flatten.length:=by omega
   have hlt:ltB (i:Int) (ss.flatten.length:Nat)=true:=cQ (by omega)
   have hwi:=cD (j:=i) (by omega)
   obtain ⟨i0,k0,va,hix,hrd,hsx⟩:=hI.at hA hiN
   have hall:=ch (p:=(fun i=>bA (fun j=>jY cs ss i j) i 0)) hiN
   obtain ⟨b,hb⟩:∃ b,iv=.slice b 0 9 ss.flatten.length ss.flatten.length false:=by
     rcases hiv with ⟨_,e⟩ | h
     · omega
     · exact h
   have hsl:=fun H=>Ej H (i:=b) (k:=0) (l:=ss.flatten.length) (c:=ss.flatten.length) (n:=i) (e:=false) (by omega)
   have hln:=fun H=>UN H b 0 9 i ss.flatten.length false
   rw [<-hb] at hsl
   have hxc:=hsx.cells
   have hxo:=hsx.one
   have hpr:∀ L,ak (K++L) a 0 1=some [iv]:=fun L=>(hA.bS L).sub.rd (by unfold ak; rw [hpa]; rfl)
   have hput:∀ o,put none K o=some (K.length,K++[o]):=fun _=>rfl
   have hw:∀ j kk,j < i->aG aa 31 (.slice b 0 9 i ss.flatten.length false) (.int kk (j:Nat))=aG aa 31 iv (.int kk (j:Nat)):=fun j kk hj=>by
     rw [hb,mL.ia,mL.ia,if_pos ⟨by omega,by omega,rfl⟩,if_pos ⟨by omega,by omega,rfl⟩]
   have hA1:al G (K++[.cells (aU (bB ss.flatten i) va) 34]):=hA.bS _
   have hin:=@Om (K++[.cells (aU (bB ss.flatten i) va) 34]) cs m ss vc iv av a (hc.aX hA1) hcp (hI.aX hA1) hrt (haf.sub hA1.sub) hic hac hfew (hA1.get hpa) i K.length (.slice b 0 9 i ss.flatten.length false) va hiN (by rw [aw (ax _),dI]; rfl) (hsx.sub hA1.sub) hw
   have hii:(fun j=>jY cs ss i j)=(fun j=>jY cs ss i j):=rfl
   rw [LD]
   rw [<-af K]
   generalize hxe:bB ss.flatten i=x at *
   simp only [aU] at hrd
   simp -implicitDefEqProofs only [zD,Tryz.f18,aP,hlen,h0,h9,h25,h26,h27,hlt,hix,hrd,se,d7,↓hxc,↓hxo,hput,hpr,pI,hsl,hln,r5,↓az,nck,↓cbT,↓cbF,↓ao,an,eu,sevalprocAttr]
   generalize hX:EvC aa C0 W0 plN _ _=Z
   obtain ⟨hT,hF⟩:=hin hX (al.refl _) (by simp only [ls,hlen]) (by simp only [hlen,h0,gB,sevalprocAttr]; try rfl) (by simp only [hlen,h9,gB,sevalprocAttr]; try rfl) (by simp only [hlen,gB,sevalprocAttr]; try rfl) (by simp only [hlen,gB,sevalprocAttr]; try rfl) (by simp only [hlen,h25,gB,sevalprocAttr]; try rfl) (by simp only [hlen,h26,gB,sevalprocAttr]; try rfl) (by simp only [hlen,h27,gB,sevalprocAttr]; try rfl) (by simp only [hlen,gB,sevalprocAttr]; try rfl) (by simp only [hlen,gB,sevalprocAttr]; try rfl) (by simp only [hlen,gB,sevalprocAttr]; try rfl)
   cases hc1:bA (fun j=>jY cs ss i j) i 0 with
   | false =>
     obtain ⟨Y,K1,e,y6,y7⟩:=hF hc1
     subst e
     rw [hall,hc1,Bool.false_and]
     refine ⟨fun h=>(by cases h),fun _=>?_⟩
     simp -implicitDefEqProofs only [zD,Tryz.f18,aP,hlen,h0,h9,h25,h26,h27,hlt,r5,↓az,nck,↓cbT,↓cbF,↓ao,an,eu,sevalprocAttr]
     exact ⟨Y,K1,rfl,y6,y7⟩
   | true =>
     obtain ⟨X,K1,e,hXl,hA2,x0,x9,x10,x11,x25,x26,x27,x35,x36⟩:=hT hc1
     subst e
     rw [hall,hc1,Bool.true_and]
     simp -implicitDefEqProofs only [zD,Tryz.f18,aP,hlen,h0,h9,h25,h26,h27,hlt,hXl,x0,x9,x25,x26,x27,hwi,r5,↓az,nck,↓cbT,↓cbF,↓ao,an,eu,sevalprocAttr]
     generalize hY:EvC aa C0 W0 plN _ _=Z
     have key:∀ (tm1:List AV) (K1:AH),EvC aa C0 W0 plN Bu (tm1,K1)=Z->al G K1->tm1.length=64->tm1.getD 0 uA=vc->tm1.getD 9 uA=.ptr a 0->tm1.getD 25 uA=iv->tm1.getD 26 uA=I (ss.flatten.length:Nat)->tm1.getD 27 uA=I ((i+1:Nat):Int)->(bA (fun i=>bA (fun j=>jY cs ss i j) i 0) ss.flatten.length (i+1)=true->∃ X K1,Z=some (.exit 0,(X,K1))/\X.length=64)/\(bA (fun i=>bA (fun j=>jY cs ss i j) i 0) ss.flatten.length (i+1)=false->∃ Y K1,Z=some (.ret,(Y,K1))/\Y.getD 6 uA=.bool false/\Y.getD 7 uA=I 0):=by
       intro tm1 K1 h hA1 hl1 h0 h9 h25 h26 h27
       rw [<-h]
       exact ih (i+1) tm1 K1 (by omega) (by omega) hA1 hl1 h0 h9 h25 h26 h27
     exact key _ _ hY (hA1.trans hA2) (by simp only [ls,hXl]) (by simp only [hXl,x0,gB,sevalprocAttr]) (by simp only [hXl,x9,gB,sevalprocAttr]) (by simp only [hXl,x25,gB,sevalprocAttr]) (by simp only [hXl,x26,gB,sevalprocAttr]) (by simp only [hXl,gB,sevalprocAttr])
theorem I2 {G:AH} {cs:List Cod} {m:List (List Int)} {ss:List (List Itm)} {vc iv av:AV} {a:Nat} (hc:cO G cs vc) (hcp:∀ c∈cs,c.params.length<=6) (hI:dA G ss.flatten iv) (hrt:∀ x∈ss.flatten,cK cs m x=true) (haf:lx G (aft (qS ss)) av) (hic:iv.cells=[iv]/\iv.one=true) (hac:av.cells=[av]/\av.one=true) (hfew:ss.flatten.length<=1000) (hpa:G[a]? =some (.cells [iv,av] 93)) (hiv:(iv=.nilSlice/\ss.flatten.length=0)∨∃ b,iv=.slice b 0 9 ss.flatten.length ss.flatten.length false) {tm:List AV} {K:AH} {Z:Option (bu × St)} (hX:EvC aa C0 W0 plN Bu (tm,K)=Z) (hA:al G K) (hlen:tm.length=64) (h0:tm.getD 0 uA=vc) (h9:tm.getD 9 uA=.ptr a 0) (h25:tm.getD 25 uA=iv) (h26:tm.getD 26 uA=I (ss.flatten.length:Nat)) (h27:tm.getD 27 uA=I ((0:Nat):Int)) :
   (bA (fun i=>bA (fun j=>jY cs ss i j) i 0) ss.flatten.length 0=true->∃ X K1,Z=some (.exit 0,(X,K1))/\X.length=64)/\(bA (fun i=>bA (fun j=>jY cs ss i j) i 0) ss.flatten.length 0=false->∃ Y K1,Z=some (.ret,(Y,K1))/\Y.getD 6 uA=.bool false/\Y.getD 7 uA=I 0):=by
 subst hX
 exact Ol hc hcp hI hrt haf hic hac hfew hpa hiv ss.flatten.length 0 tm K rfl (fy _) hA hlen h0 h9 h25 h26 h27
theorem SH {H:AH} {cs:List Cod} {m:List (List Int)} {ss:List (List Itm)} {vc vm vs:AV} (hc:cO H cs vc) (hm:dc H m vm) (hs:da H ss vs) (hk:fG cs m ss fm=0) (hg:Good cs m ss fm):Ev aa C0 W0 18 [vc,vm,vs] H=some (.tuple [.bool (w6 cs ss),I 0],H):=by
 obtain ⟨tm,ht,g0,g1,g2,g3⟩:=tm3 vc vm vs 64 (by decide)
 rw [Zn,ht]
 rw [<-af (ro H)]
 have hH0:=al.app (ro H) [bo.cells (d8 fm) 27]
 have h26:=SG (hc.ro.aX hH0) (hm.ro.aX hH0) (hs.ro.aX hH0) fm
 have h41:=SE
 rw [hk] at h26
 have hq0:eqB 0 0=true:=rfl
 have hfew:ss.flatten.length<=1000:=by rw [List.length_flatten]; have:=hg.few; omega
 have hcp:∀ c∈cs,c.params.length<=6:=fun c hc=>(hg.cod c hc).1
 have hrt:∀ x∈ss.flatten,cK cs m x=true:=fun x hx=>by
   obtain ⟨l,h1,h2⟩:=vG.1 hx
   exact hg.it l h1 x h2
 obtain ⟨iv,av,K,h42,hS,hlK,hI,haf,hic,hac,hiv⟩:=Wv (hs.ro.aX hH0) hfew (fun l hl x hx hkx=>(hg.ev l hl x hx hkx).1)
 have hS0:Sub (ro H) K:=(hH0.sub).trans hS
 have hput:∀ o,put none K o=some (K.length,K++[o]):=fun _=>rfl
 have hic1:=hic.1
 have hac1:=hac.1
 have hic2:=hic.2
 have hac2:=hac.2
 have hA:=al.app K [bo.cells [iv,av] 93]
 have hln:=hI.len
 have hout:=@I2 (K++[.cells [iv,av] 93]) cs m ss vc iv av K.length (hc.ro.sub (hS0.trans hA.sub)) hcp (hI.aX hA) hrt (haf.sub hA.sub) hic hac hfew (by rw [aw (ax _),dI]; rfl) hiv
 simp only [d8,fm] at h26 h41 h42
 rw [<-af K] at h42
 simp -implicitDefEqProofs only [c18,Tryz.f18,aP,g0,g1,g2,g3,↓O8,h41,↓SC,h26,hq0,↓V7,h42,z93,Dx,Q7,↓hic1,↓hac1,↓hic2,↓hac2,hput,pI,hln,r5,↓az,nck,↓cbT,↓cbF,↓ao,an,eu,sevalprocAttr]
 generalize hX:EvC aa C0 W0 plN _ _=Z
 obtain ⟨hT,hF⟩:=hout hX (al.refl _) (by simp only [ls,g0]) (by simp only [g0,g1,gB,sevalprocAttr]) (by simp only [g0,gB,sevalprocAttr]) (by simp only [g0,gB,sevalprocAttr]) (by simp only [g0,gB,sevalprocAttr]) (by simp only [g0,gB,sevalprocAttr]; try rfl)
 cases hB:w6 cs ss with
 | true =>
   obtain ⟨X,K1,e,hXl⟩:=hT hB
   subst e
   simp -implicitDefEqProofs only [c18,Tryz.f18,aP,hXl,r5,↓az,nck,↓cbT,↓cbF,↓ao,an,eu,sevalprocAttr]
 | false =>
   obtain ⟨Y,K1,e,y6,y7⟩:=hF hB
   subst e
   simp -implicitDefEqProofs only [c18,Tryz.f18,aP,y6,y7,r5,↓az,nck,↓cbT,↓cbF,↓ao,an,eu,sevalprocAttr]
end Go.Dv
namespace Go.Dv
open Go.Proofs
def pG (cs:List Cod):List (List Bool):=cs.map fun c=>c.params.map (·.buf)
theorem Gx {a b:List Nat}:q9 a b=true↔∃ n,n∈a/\n∈b:=by
 unfold q9
 rw [ba,<-oT,dy]
 constructor
 · intro h
   by_cases e:∃ n,n∈a/\n∈b
   · exact e
   · exfalso
     refine h fun j hj=>?_
     rw [ba,<-oT,xF]
     exact fun hb=>e ⟨_,eX hj 0,hb⟩
 · rintro ⟨n,h1,h2⟩ h
   obtain ⟨j,hj,e⟩:=List.mem_iff_getElem.1 h1
   have:=h j hj
   rw [ba,<-oT,xF] at this
   refine this ?_
   rw [gde,aj hj,e7,e]
   exact h2
theorem Ji {fs:List Bool} {ys:List Int} {i:Int}:i∈(fs.zip ys).filterMap (fun p=>if p.1 then some p.2 else none)↔∃ j:Nat,fs[j]? =some true/\ys[j]? =some i:=by
 rw [List.mem_filterMap]
 constructor
 · rintro ⟨p,hp,h⟩
   obtain ⟨j,hj⟩:=pY.1 hp
   obtain ⟨h1,h2⟩:=nv.1 hj
   split at h
   · rename_i e
     cases h
     exact ⟨j,by rw [h1,e],h2⟩
   · cases h
 · rintro ⟨j,h1,h2⟩
   exact ⟨(true,i),pY.2 ⟨j,nv.2 ⟨h1,h2⟩⟩,rfl⟩
theorem xp {cs:List Cod} {m:List (List Int)} {x:Itm} (hr:cK cs m x=true) (k:x.kind=0) (i:Int):i∈(((pG cs).getD x.code.toNat []).zip x.args).filterMap (fun p=>if p.1 then some p.2 else none)↔∃ n∈ke (cY cs x.code.toNat) x.args (cY cs x.code.toNat).params.length,i=((n:Nat):Int):=by
 obtain ⟨⟨_,hc⟩,hl,ha⟩:=pD hr k
 have hf:(pG cs).getD x.code.toNat []=(cY cs x.code.toNat).params.map (·.buf):=by
   unfold pG cY
   rw [gde,aI,gde,aj hc]; rfl
 rw [hf,Ji]
 have hb:∀ j,j < (cY cs x.code.toNat).params.length->iU (cY cs x.code.toNat) (j:Int)=((cY cs x.code.toNat).params.map (·.buf)).getD j false:=fun j hj=>by
   unfold iU
   simp only [cw]
   rw [gde,aI,aj hj]; rfl
 have hg:∀ j,gg x.args j=x.args.getD j 0:=fun j=>by unfold gg; rfl
 constructor
 · rintro ⟨j,h1,h2⟩
   have hj:j < (cY cs x.code.toNat).params.length:=by have:=aJ h1; rwa [au] at this
   have hbj:iU (cY cs x.code.toNat) (j:Int)=true:=by
     rw [hb j hj,gde,h1]; rfl
   have e:gg x.args j=i:=by rw [hg,gde,h2]; rfl
   obtain ⟨p0,_⟩:=ha j hj hbj
   refine ⟨i.toNat,?_,by rw [e] at p0; omega⟩
   unfold ke
   rw [bY]
   exact ⟨j,gf.2 ⟨fT.2 hj,hbj⟩,by rw [e]⟩
 · rintro ⟨n,hn,rfl⟩
   unfold ke at hn
   obtain ⟨j,hj,rfl⟩:=bY.1 hn
   obtain ⟨h1,h2⟩:=gf.1 hj
   have h1:=fT.1 h1
   obtain ⟨p0,_⟩:=ha j h1 h2
   refine ⟨j,?_,?_⟩
   · have:=hb j h1
     rw [h2,gde,aj (by rw [au]; exact h1)] at this
     rw [aj (by rw [au]; exact h1)]
     exact congrArg some this.symm
   · rw [aj (by omega),Int.toNat_of_nonneg p0,hg,gde,aj (by omega)]; rfl
theorem tO {cs:List Cod} {m:List (List Int)} {x:Itm} (hr:cK cs m x=true):(x.kind=1->0<=x.src/\0<=x.dst)/\(x.kind=2->0<=x.dst):=by
 constructor
 · intro k
   unfold cK at hr
   rw [jh (by omega),cZ,ve k,eh] at hr
   simp only [aD,inB,dp,dC] at hr
   exact ⟨hr.1.1.1.1.1,hr.1.1.1.2.1⟩
 · intro k
   unfold cK at hr
   rw [jh (by omega),cZ,jh (by omega),cZ,ve k,eh] at hr
   simp only [aD,inB,dp,dC] at hr
   exact hr.1.1.1.1.1.1.1
theorem AT {cs:List Cod} {m:List (List Int)} {x:Itm} (hr:cK cs m x=true) (i:Int):i∈Qu.jf (pG cs) (qi x)↔∃ n∈lz cs x,i=((n:Nat):Int):=by
 obtain ⟨s1,s2⟩:=tO hr
 unfold Qu.jf lz
 by_cases k0:x.kind=0
 · rw [if_pos (show (qi x).kind=0 from k0),if_pos k0]; exact xp hr k0 i
 · rw [if_neg (show ¬ (qi x).kind=0 from k0),if_neg k0]
   by_cases k1:x.kind=1
   · rw [if_pos (show (qi x).kind=1 from k1),if_pos k1]
     have:=s1 k1
     show i∈[x.src,x.dst]↔_
     simp only [bH,bW,or_false,exists_eq_or_imp,exists_eq_left]
     omega
   · rw [if_neg (show ¬ (qi x).kind=1 from k1),if_neg k1]
     by_cases k2:x.kind=2
     · rw [if_pos (show (qi x).kind=2 from k2),if_pos k2]
       have:=s2 k2
       show i∈[x.dst]↔_
       simp only [bH,bW,or_false,exists_eq_left]
       omega
     · rw [if_neg (show ¬ (qi x).kind=2 from k2),if_neg k2]; simp
theorem Fj {cs:List Cod} {m:List (List Int)} {x:Itm} (hr:cK cs m x=true) (i:Int):i∈Qu.mw (pG cs) (qi x)↔∃ n∈qT cs x,i=((n:Nat):Int):=by
 obtain ⟨s1,s2⟩:=tO hr
 unfold Qu.mw qT
 by_cases k0:x.kind=0
 · rw [if_pos (show (qi x).kind=0 from k0),if_pos k0]; exact xp hr k0 i
 · rw [if_neg (show ¬ (qi x).kind=0 from k0),if_neg k0]
   by_cases k1:x.kind=1
   · rw [if_pos (show (qi x).kind=1 from k1),if_pos k1]
     have:=s1 k1
     show i∈[x.dst]↔_
     simp only [bH,bW,or_false,exists_eq_left]
     omega
   · rw [if_neg (show ¬ (qi x).kind=1 from k1),if_neg k1]
     by_cases k2:x.kind=2
     · rw [if_pos (show (qi x).kind=2 from k2),if_pos k2]
       have:=s2 k2
       show i∈[x.dst]↔_
       simp only [bH,bW,or_false,exists_eq_left]
       omega
     · rw [if_neg (show ¬ (qi x).kind=2 from k2),if_neg k2]; simp
theorem ED {a b:List Int} {c d:List Nat} (h1:∀ i,i∈a↔∃ n∈c,i=((n:Nat):Int)) (h2:∀ i,i∈b↔∃ n∈d,i=((n:Nat):Int)):q9 c d=Qu.Bo a b:=by
 rw [fA,Gx,Qu.tW]
 constructor
 · rintro ⟨n,x,y⟩
   exact ⟨(n:Int),(h1 _).2 ⟨n,x,rfl⟩,(h2 _).2 ⟨n,y,rfl⟩⟩
 · rintro ⟨i,x,y⟩
   obtain ⟨n,hn,rfl⟩:=(h1 _).1 x
   obtain ⟨k,hk,e⟩:=(h2 _).1 y
   have:n=k:=by omega
   subst this
   exact ⟨n,hn,hk⟩
theorem HE {cs:List Cod} {m:List (List Int)} {x y:Itm} (hx:cK cs m x=true) (hy:cK cs m y=true):rI cs x y=Qu.jy (pG cs) (qi x) (qi y):=by
 unfold rI Qu.jy
 rw [ED (AT hx) (Fj hy),ED (Fj hx) (AT hy)]
theorem uK {n:Nat} {p:Nat->Bool}:(List.range n).all p=bA p n 0:=by
 rw [fA,List.all_eq_true,dy]
 exact ⟨fun h j hj=>h j (fT.2 hj),fun h j hj=>h j (fT.1 hj)⟩
theorem z5 {cs:List Cod} {m:List (List Int)} {ss:List (List Itm)} {f:Con} (hg:Good cs m ss f):w6 cs ss=Qu.jX (pG cs) (qS ss):=by
 have hr:∀ x∈ss.flatten,cK cs m x=true:=fun x hx=>by
   obtain ⟨l,h1,h2⟩:=vG.1 hx
   exact hg.it l h1 x h2
 have hN:(qS ss).flatten.length=ss.flatten.length:=by rw [jv,au]
 unfold w6 Qu.jX
 rw [hN,uK,fA,dy,dy]
 have hi:∀ i,i < ss.flatten.length->(qS ss).flatten.getD i default=qi (bB ss.flatten i):=fun i hi=>by
   rw [jv,gde,aI,aj hi]
   unfold bB
   rw [dr hi]; rfl
 have key:∀ i j,i < ss.flatten.length->j < i->jY cs ss i j=(!Qu.jy (pG cs) ((qS ss).flatten.getD i default) ((qS ss).flatten.getD j default) || Qu.bef (qS ss) i j || Qu.bef (qS ss) j i):=fun i j h1 h2=>by
   unfold jY
   rw [hi i h1,hi j (by omega),HE (hr _ (fu h1)) (hr _ (fu (by omega)))]
 constructor
 · intro h i h1
   rw [uK,dy]
   intro j h2
   have:=h i h1
   rw [dy] at this
   rw [<-key i j h1 h2]; exact this j h2
 · intro h i h1
   rw [dy]
   intro j h2
   have:=h i h1
   rw [uK,dy] at this
   rw [key i j h1 h2]; exact this j h2
theorem IP {cs:List Cod} {m:List (List Int)} {ss:List (List Itm)} {f:Con} (hg:Good cs m ss f) (hnl:∀ l∈ss,∀ x∈l,x.kind≠0):∀ p x,Qu.at? (qS ss) p=some x->Qu.Plain x:=by
 intro p x hx
 obtain ⟨h1,rfl⟩:=BD.1 hx
 have hs:p.1 < ss.length:=by
   rcases Nat.lt_or_ge p.1 ss.length with c | c
   · exact c
   · rw [sq c] at h1; simp at h1
 have hl:=gO hs
 have hm:=fu h1
 obtain ⟨s1,s2⟩:=tO (hg.it _ hl _ hm)
 exact ⟨hnl _ hl _ hm,s1,s2⟩
end Go.Dv
namespace Go.Dv
open Go.Proofs
attribute [local congr] aH bP bj bO bQ
theorem JV (i k es len cap:Nat) (ex:Bool) (kk:IntKind) (n:Int):aG aa 101 (.slice i k es len cap ex) (.int kk n)=if 0<=n/\n < len/\1=es then some (.ptr i (k+n.toNat * es)) else none:=by kernel_rfl
theorem US (H:AH) (i k es len cap:Nat) (ex:Bool):dR aa 101 H (.slice i k es len cap ex)=some (.int .i64 len):=by kernel_rfl
theorem Sg (H:AH):dR aa 101 H .nilSlice=some (.int .i64 0):=by kernel_rfl
theorem JR:IxT 101 1:=⟨Sg,US,JV⟩
theorem XB:pW aa 101 (some 101) 3 1:=⟨by kernel_rfl,⟨I 0,by kernel_rfl,by kernel_rfl,by simp [AV.cells]⟩,by kernel_rfl,by kernel_rfl⟩
theorem mJ (H:AH) (i k:Nat):ldA aa 101 H i k=(ak H i k 1).bind (·.head?):=by kernel_rfl
theorem PM (H:AH) (i k:Nat) (x:AV):stA aa 101 H i k x=if x.cells.length=1 then bp H i k x.cells else none:=by kernel_rfl
theorem Th (s:Option Nat) (a:Int) (H:AH):bf aa s 101 1 [(0,I a)] H=(put s H (.cells [I a] 3)).map fun p=>(.slice p.1 0 1 1 1 true,p.2):=by kernel_rfl
theorem HR (H:AH) {i k l c n:Nat} {e:Bool} (h:n<=c):jR aa 101 H (.slice i k 1 l c e) none (some (I n)) none=some (.slice i k 1 n c e):=by
 have hu:aa.underlying 101=some (.slice 3):=by kernel_rfl
 have h9:aa.cellsOf 3=1:=by kernel_rfl
 have hin:aa.info? 3=some ((aa.info? 3).getD default):=by kernel_rfl
 unfold jR
 rw [hu]
 simp only [gX,Int.natCast_nonneg,if_true,cw]
 rw [if_pos ⟨fy _,h,h9⟩,hin]
 simp only [cE,Nat.zero_mul,Nat.add_zero,Nat.sub_zero]
theorem fC {P:Program} {C:Cfg P} {slot:Option Nat} {ev:Operand->Option AV} {H:AH} (o:Oper) (r:Operand) (name:String) (xs:Array Operand) (ats:Array TypeId):fN P C slot ev o ⟨.invoke r name,xs,ats⟩ H=(ev r).bind fun rv=>(evL ev xs.toList).bind fun ys =>
   match rv with
   | .iface t v=>(uZ P C t v name H).bind fun m=>(P.funcs[m.1]?).bind fun fn=>if fn.body.isSome then some (.enter m.1 (m.2::ys),H) else none
   | _=>none:=rfl
theorem u3:aa.underlying 3=some (.int .i64):=by kernel_rfl
theorem AL {C:Cfg aa} (slot:Option Nat) (ev:Operand->Option AV) (dst:Option Tmp) (ty:TypeId) (pos:String) (after:Array Edge) (g:Option (Nat × Bool)) (H:AH) (x:Operand):aop aa C slot ev ⟨dst,.makeInterface 3 x,ty,pos,after,g⟩ H=(ev x).bind fun v=>some (.val (.iface 3 v),H):=by
 unfold aop
 simp only [u3]
theorem uJ {C:Cfg aa} (slot:Option Nat) (ev:Operand->Option AV) (dst:Option Tmp) (ty:TypeId) (pos:String) (after:Array Edge) (g:Option (Nat × Bool)) (H:AH) (x:Operand):aop aa C slot ev ⟨dst,.makeInterface 100 x,ty,pos,after,g⟩ H=(ev x).bind fun v=>some (.val (.iface 100 v),H):=by
 have h:aa.underlying 100=some (.pointer 101):=by kernel_rfl
 unfold aop
 simp only [h]
def ta:AV->Option Int
 | .iface t (.int k n)=>if t=3/\k=.i64 then some n else none
 | _=>none
theorem Ud (n:Int):ta (.iface 3 (I n))=some n:=rfl
theorem Q3 {v:AV} {n:Int} (h:ta v=some n):v=.iface 3 (I n):=by
 unfold ta at h
 split at h
 · split at h
   · rename_i c; obtain ⟨rfl,rfl⟩:=c; cases h; rfl
   · cases h
 · cases h
theorem Mo {C:Cfg aa} (slot:Option Nat) (ev:Operand->Option AV) (dst:Option Tmp) (ty:TypeId) (pos:String) (after:Array Edge) (g:Option (Nat × Bool)) (H:AH) (x:Operand) :
   aop aa C slot ev ⟨dst,.typeAssert x 20 3 false,ty,pos,after,g⟩ H=(ev x).bind fun xv=>match ta xv with
     | some n=>some (.val (I n),H)
     | none=>(cM aa ev ⟨dst,.typeAssert x 20 3 false,ty,pos,after,g⟩).map fun n=>(n,H):=by
 have hd:aop aa C slot ev ⟨dst,.typeAssert x 20 3 false,ty,pos,after,g⟩ H=(cM aa ev ⟨dst,.typeAssert x 20 3 false,ty,pos,after,g⟩).map fun n=>(n,H):=rfl
 rw [hd]
 cases hx:ev x with
 | none=>rw [iP (x:=x) (by simp [Op.operands]) hx]; rfl
 | some xv =>
   simp only [ay]
   cases ht:ta xv with
   | none=>rfl
   | some n =>
     have:=Q3 ht
     subst this
     have hp:cM aa ev ⟨dst,.typeAssert x 20 3 false,ty,pos,after,g⟩=some (.val (I n)):=by
       simp [cM,notSelect,Op.operands,hx,toV,execOp,jT,fY,Instr.typeAssert,underlying,program,u3,mG,bind,Sem.bind,pure]
     rw [hp]; rfl
structure HpR (K:AH) (hb:Nat) (v:AV) (T:List Nat):Prop where
 cell:K[hb]? =some (.cells [v] 101)
 own:Own 0 K 1 3 v (iv1 T)
 ne:bZ v≠some hb
def Fr (hb:Nat) (v v':AV) (K K':AH):Prop:=K.length<=K'.length/\(∀ c,c < K.length->c≠hb->bZ v≠some c->K'[c]? =K[c]?)/\∀ i,bZ v'=some i->bZ v=some i∨K.length<=i
theorem Fr.trans {hb:Nat} {v v' v2:AV} {K K' K2:AH} (h:Fr hb v v' K K') (k:Fr hb v' v2 K' K2):Fr hb v v2 K K2:=
 ⟨bc h.1 k.1,fun c hc h1 h2=>by
   rw [k.2.1 c (Nat.lt_of_lt_of_le hc h.1) h1 fun e=>by
     rcases h.2.2 c e with e2 | e2
     · exact h2 e2
     · omega]
   exact h.2.1 c hc h1 h2,fun i hi=>by
   rcases k.2.2 i hi with e | e
   · exact h.2.2 i e
   · exact .inr (bc h.1 e)⟩
theorem HpR.sl {K:AH} {hb:Nat} {v:AV} {T:List Nat} (h:HpR K hb v T):SlS 101 1 K v (ints T):=Own.nz JR (by decide) (by rw [nN]; exact h.own) (pE T)
theorem HpR.rd {K:AH} {hb:Nat} {v:AV} {T:List Nat} (h:HpR K hb v T):ak K hb 0 1=some [v]:=by unfold ak; rw [h.cell]; rfl
theorem HpR.rdL {K:AH} {hb:Nat} {v:AV} {T:List Nat} (h:HpR K hb v T) (L:AH):ak (K++L) hb 0 1=some [v]:=(al.app K L).sub.rd h.rd
theorem w9 {K:AH} {v:AV} {T:List Nat} (hs:SlS 101 1 K v (ints T)) {j:Nat} (hj:j < T.length):∃ i k,(∀ kk,aG aa 101 v (.int kk (j:Int))=some (.ptr i k))/\ak K i k 1=some [I ((T.getD j 0:Nat):Int)]:=
 hs.ix j [I ((T.getD j 0:Nat):Int)] (by
   unfold ints
   rw [aI,aj hj,dr hj]; rfl)
theorem Ew {K:AH} {v:AV} {T:List Nat} (hs:SlS 101 1 K v (ints T)) (G:AH):dR aa 101 G v=some (I (T.length:Nat)):=by
 have:=hs.len G
 rwa [show (ints T).length=T.length from by simp [ints]] at this
theorem SD {H:AH} {v:AV} {T:List Nat} (hs:SlS 101 1 H v (ints T)):Ev aa C0 W0 49 [v] H=some (I (T.length:Nat),H):=by
 obtain ⟨tm,ht,g0,g1⟩:=tm1 v 5 (by decide)
 rw [Y5,ht]
 rw [<-af (ro H)]
 have hl:=Ew hs
 simp -implicitDefEqProofs only [c49,Tryz.f49,aP,g0,g1,hl,r5,↓az,nck,↓cbT,↓cbF,↓ao,an,eu,sevalprocAttr]
theorem BT {H:AH} {v:AV} {T:List Nat} (hs:SlS 101 1 H v (ints T)) {i j:Nat} (hi:i < T.length) (hj:j < T.length):Ev aa C0 W0 350 [v,I (i:Nat),I (j:Nat)] H=some (.bool (ltB (T.getD i 0:Nat) (T.getD j 0:Nat)),H):=by
 obtain ⟨tm,ht,g0,g1,g2,g3⟩:=tm3 v (I (i:Nat)) (I (j:Nat)) 16 (by decide)
 rw [Vu,ht]
 rw [<-af (ro H)]
 obtain ⟨i0,k0,a1,b1⟩:=w9 hs.ro hi
 obtain ⟨i1,k1,a2,b2⟩:=w9 hs.ro hj
 have b1:=fun L=>(al.app (ro H) L).sub.rd b1
 have b2:=fun L=>(al.app (ro H) L).sub.rd b2
 simp -implicitDefEqProofs only [W1,Tryz.f350,aP,g0,g1,g2,g3,IH,a1,a2,b1,b2,r5,↓az,nck,↓cbT,↓cbF,↓ao,an,eu,sevalprocAttr]
def so (T:List Nat) (i j:Nat):List Nat:=(T.set i (T.getD j 0)).set j (T.getD i 0)
theorem l7 (T:List Nat) (i j:Nat):(so T i j).length=T.length:=by unfold so; simp
theorem me {T:List Nat} {i j:Nat} (hi:i < T.length) (hj:j < T.length):(so T i j).Perm T:=by
 have h:=Array.swap_perm (xs:=T.toArray) (i:=i) (j:=j) (by simpa using hi) (by simpa using hj)
 have h2:=Array.perm_iff_toList_perm.1 h
 rw [Array.toList_swap] at h2
 unfold so
 rw [dr hi,dr hj]
 simpa using h2
theorem Ac (T:List Nat) (i x:Nat):iv1 (T.set i x)=(iv1 T).set i (I (x:Int)):=by unfold iv1; rw [List.map_set]
theorem BS {b:Nat} {K:AH} {v:AV} {T:List Nat} (ho:Own b K 1 3 v (iv1 T)) {i j:Nat} (hi:i < T.length) (hj:j < T.length):∃ K',Ev aa C0 W0 353 [v,I (i:Nat),I (j:Nat)] K=some (.tuple [],K')/\Own b K' 1 3 v (iv1 (so T i j))/\K'.length=K.length/\∀ c,bZ v≠some c->K'[c]? =K[c]?:=by
 obtain ⟨tm,ht,g0,g1,g2,g3⟩:=tm3 v (I (i:Nat)) (I (j:Nat)) 20 (by decide)
 rw [Vr,ht]
 have hs:SlS 101 1 K v (ints T):=Own.nz JR (by decide) (by rw [nN]; exact ho) (pE T)
 obtain ⟨i0,k0,a1,b1⟩:=w9 hs hi
 obtain ⟨i1,k1,a2,b2⟩:=w9 hs hj
 obtain ⟨q,k,len,cap,ex,K1,hv,w1,o1,l1,f1⟩:=ho.zI (o:=i) (new:=[I ((T.getD j 0:Nat):Int)]) (by rw [iX]; simp; omega) (by simp) rfl
 obtain ⟨q',k',len',cap',ex',K2,hv',w2,o2,l2,f2⟩:=o1.zI (o:=j) (new:=[I ((T.getD i 0:Nat):Int)]) (by rw [fP,iX]; simp; omega) (by simp) rfl
 rw [hv] at hv'
 cases hv'
 have hlen:=ho.length
 rw [hv,cg,iX] at hlen
 have a1':∀ kk,aG aa 101 v (.int kk (i:Int))=some (.ptr q (k+i)):=fun kk=>by
   rw [hv,JV,if_pos ⟨by omega,by omega,rfl⟩,cw,dS]
 have a2':∀ kk,aG aa 101 v (.int kk (j:Int))=some (.ptr q (k+j)):=fun kk=>by
   rw [hv,JV,if_pos ⟨by omega,by omega,rfl⟩,cw,dS]
 have e1:=(a1 .i64).symm.trans (a1' .i64)
 have e2:=(a2 .i64).symm.trans (a2' .i64)
 cases e1
 cases e2
 have w1:=w1 []
 have w2:=w2 []
 rw [af,af] at w1 w2
 simp -implicitDefEqProofs only [WX,Tryz.f353,aP,g0,g1,g2,g3,↓dn ID,Dk,d6,dz,eE,fi,cJ,d5,dH,du,a1',a2',b1,b2,w1,w2,st3,r5,↓az,nck,↓cbT,↓cbF,↓ao,an,eu,sevalprocAttr,↓fK,↓fI,↓jG,↓gP,↓fJ,↓gQ,↓ez,↓fL,↓cF,↓bX,↓dj,↓gR,↓eA,↓fM,↓cH,↓cG,↓dk,↓e9,↓dK,eB,cd,ai,bV,di,dJ,eC]
 refine ⟨K2,rfl,?_,by rw [l2,l1],fun c hc=>?_⟩
 · have e:iv1 (so T i j)=spl (spl (iv1 T) i [I ((T.getD j 0:Nat):Int)]) j [I ((T.getD i 0:Nat):Int)]:=by
     unfold so
     rw [Ac,Ac]; rfl
   rw [e]; exact o2
 · rw [f2 c fun e=>hc (by rw [hv,e]; rfl),f1 c fun e=>hc (by rw [hv,e]; rfl)]
theorem Mm {sT elem:TypeId} {xT:Option TypeId} {es B:Nat} (T:pW aa sT xT elem es) (hes:0 < es) {b:Nat} {K:AH} (hB:K.length=B) (hbB:b<=B) {v:AV} {xs:List AV} (h:Own b K es elem v xs) {new:List AV} (hn:new.length=es) (hone:new.all AV.one=true) (hg:fR (aa.bytesOf elem) (bz v+1)=true)
   (s q:Nat) (L:AH) (hs:L[s]? =some .fresh) (hq:L[q]? =some (.cells new elem)) :
   ∃ v' K',gv aa (some (B+s)) sT xT v (.slice (B+q) 0 es 1 1 true) (K++L)=some (v',K')/\Own b K' es elem v' (xs++new)/\K'.length=K.length+L.length/\(∀ c,c < K.length->bZ v≠some c->K'[c]? =K[c]?)/\∀ i,bZ v'=some i->bZ v=some i∨i=B+s:=by
 obtain ⟨z,hz,hzl,hzn⟩:=T.z
 have hgq:(K++L)[B+q]? =some (.cells new elem):=by rw [aw (by omega),<-hB,Nat.add_sub_cancel_left]; exact hq
 have hrd:ak (K++L) (B+q) 0 (1 * es)=some new:=Ex.rd hgq (by omega)
 unfold gv
 rw [if_neg (by rw [T.x]; simp),T.el,ay,hz,ay,T.sz]
 simp only [pf,if_true,ay,ax,hrd]
 rw [if_pos ⟨by rw [hzl,T.sz],hzn⟩]
 have hsl:=aJ hs
 have hput:∀ (K1:AH) o,K1.length=B->put (some (B+s)) (K1++L) o=some (B+s,K1++L.set s o):=fun K1 o hl=>by
   unfold put
   simp only
   rw [aw (by omega),show B+s - K1.length=s by omega,hs]
   simp only
   rw [List.set_append_right _ _ (by omega),show B+s - K1.length=s by omega]
 have hnew:∀ (K1:AH) (m:Nat) (ys:List AV),K1.length=B->ys.length=m * es->Own b (K1++L.set s (.cells ys elem)) es elem (.slice (B+s) 0 es m m false) ys:=fun K1 m ys hl hm=>by
   have hg:(K1++L.set s (.cells ys elem))[B+s]? =some (.cells ys elem):=by
     rw [aw (by omega),show B+s - K1.length=s by omega,bI hsl]
   exact .at (B+s) 0 m m false ys ys (by omega) hg (ax _) (by omega) (Ex.rd hg hm)
 cases h with
 | nil =>
   simp only [Nat.one_ne_zero,if_false,oC,Nat.zero_add] at hg ⊢
   rw [if_pos hg,hput K _ hB]
   exact ⟨_,_,rfl,hnew K 1 new hB (by omega),by simp,fun c hc _=>aq hc,fun i hi=>by cases hi; exact .inr rfl⟩
 | «at» i k len cap ex cs xs hbi hi hl hc hx =>
   have hiK:=aJ hi
   simp only [cg] at hg ⊢
   rw [if_pos trivial,if_neg (by omega)]
   have hxl:=pq hx
   have hold:xs=(cs.drop k).take (len * es)/\k+len * es<=cs.length:=by
     simp only [ak,hi] at hx
     split at hx
     · rename_i hle; cases hx; exact ⟨rfl,hle⟩
     · cases hx
   have hrk:ak (K++L) i k (len * es)=some xs:=(al.app K L).sub.rd hx
   have hsz:(xs++new).length=(len+1) * es:=by rw [ai,hxl,hn,d3,jk]
   by_cases hroom:len+1<=cap
   · rw [if_pos hroom,if_pos hone]
     have hmul:(len+1) * es<=cap * es:=Nat.mul_le_mul_right _ hroom
     rw [d3,jk] at hmul
     have hfit:k+len * es+new.length<=cs.length:=by omega
     rw [gN hi hfit hone L]
     refine ⟨_,_,rfl,.at i k (len+1) cap ex (spl cs (k+len * es) new) (xs++new) hbi (by rw [aq (by rw [ar]; exact hiK),bI hiK]) hroom (by rw [fP]; exact hc) ?_,by rw [ai,ar],fun c hcl hne=>?_,fun j hj=>by cases hj; exact .inl rfl⟩
     · simp only [ak]
       rw [aq (by rw [ar]; exact hiK),bI hiK]
       simp only
       rw [if_pos (by rw [fP,d3,jk]; omega),ib cs new _ hfit,hold.1]
       congr 1
       rw [aE,List.drop_append_of_le_length (by simp; omega),List.drop_take]
       have e:k+len * es - k=len * es:=by omega
       rw [e,<-aE,List.take_append_of_le_length (by rw [ai,eW,Hr,hn,d3,jk]; omega)]
       apply List.take_of_length_le
       rw [ai,eW,Hr,hn,d3,jk]; omega
     · rw [aq (by rw [ar]; exact hcl),aB fun e=>hne (by rw [<-e]; rfl)]
   · rw [if_neg hroom]
     cases ex with
     | true =>
       rw [if_pos rfl,if_pos hg,hrk,ay,hput K _ hB]
       exact ⟨_,_,rfl,hnew K _ _ hB hsz,by simp,fun c hc _=>aq hc,fun j hj=>by cases hj; exact .inr rfl⟩
     | false =>
       rw [if_neg (by simp),aq hiK,hi]
       simp only
       rw [if_pos ⟨trivial,hone,hg⟩,hrk,ay,List.set_append_left _ _ hiK,hput _ _ (by rw [ar]; exact hB)]
       exact ⟨_,_,rfl,hnew _ _ _ (by rw [ar]; exact hB) hsz,by rw [ai,ar,ar],fun c hc hne=>by
         rw [aq (by rw [ar]; exact hc),aB fun e=>hne (by rw [<-e]; rfl)],fun j hj=>by cases hj; exact .inr rfl⟩
theorem Wx {K:AH} {hb:Nat} {v:AV} {T:List Nat} {x:Nat} (h:HpR K hb v (T++[x])) (hN:T.length < 2 ^ 50):∃ v' K',Ev aa C0 W0 351 [.ptr hb 0] K=some (.iface 3 (I (x:Nat)),K')/\HpR K' hb v' T/\Fr hb v v' K K':=by
 obtain ⟨tm,ht,g0,g1⟩:=tm1 (.ptr hb 0) 27 (by decide)
 rw [Vt,ht]
 have hrd:=h.rd
 have hln:=Ew h.sl
 obtain ⟨i0,k0,a1,b1⟩:=w9 h.sl (j:=T.length) (by simp)
 have hx:(T++[x]).getD T.length 0=x:=by simp [gde]
 rw [hx] at b1
 rw [ai,eo] at hln
 have hdec:IntKind.i64.wrap (((T.length+1:Nat):Int) - 1)=(T.length:Int):=by rw [show (((T.length+1:Nat):Int) - 1)=(T.length:Int) by omega]; exact IntWalk.i64_in _ (by omega)
 obtain ⟨i,k,len,cap,ex,hv,hcap⟩:=h.own.shN (by simp [iv1])
 have hol:=h.own.length
 rw [hv,cg,iX,ai,eo] at hol
 have hsl:=fun H=>HR H (i:=i) (k:=k) (l:=len) (c:=cap) (n:=T.length) (e:=ex) (by omega)
 rw [<-hv] at hsl
 have hbl:=aJ h.cell
 have hwr:bp K hb 0 [.slice i k 1 T.length cap ex]=some (K.set hb (.cells [.slice i k 1 T.length cap ex] 101)):=by
   have:=gN h.cell (k:=0) (xs:=[.slice i k 1 T.length cap ex]) (by simp) rfl []
   rw [af,af] at this
   rw [this]; rfl
 simp -implicitDefEqProofs only [WZ,Tryz.f351,aP,g0,g1,IG,↓dn IF,Dm,d6,dz,eE,fi,cJ,d5,dH,du,hrd,hln,hdec,a1,b1,hsl,hwr,mJ,PM,↓AL,show ofV 6 Value.nilIface=some .nilIface from rfl,r5,↓az,nck,↓cbT,↓cbF,↓ao,an,eu,sevalprocAttr,↓fK,↓fI,↓jG,↓gP,↓fJ,↓gQ,↓ez,↓fL,↓cF,↓bX,↓dj,↓gR,↓eA,↓fM,↓cH,↓cG,↓dk,↓e9,↓dK,eB,cd,ai,bV,di,dJ,eC]
 have hne:i≠hb:=fun e=>h.ne (by rw [hv,e]; rfl)
 refine ⟨.slice i k 1 T.length cap ex,_,rfl,⟨bI hbl,?_,fun e=>by cases e; exact hne rfl⟩,by rw [ar]; exact ax _,fun c _ hc _=>aB (Ne.symm hc),fun j hj=>by cases hj; exact .inl (by rw [hv]; rfl)⟩
 have ho:=h.own
 rw [hv] at ho
 have:=ho.shorter (m:=T.length) (by omega)
 rw [dS,sZ,List.take_left' (iX T)] at this
 cases this with
 | «at» i k len cap ex cs xs hbi hi hl hc hx=>exact .at i k _ cap ex cs _ hbi (by rw [aB (Ne.symm hne)]; exact hi) hl hc (by unfold ak; rw [aB (Ne.symm hne)]; exact hx)
theorem Ww {K:AH} {hb:Nat} {v:AV} {T:List Nat} (h:HpR K hb v T) (hN:T.length<=1000) (x:Nat):∃ v' K',Ev aa C0 W0 352 [.ptr hb 0,.iface 3 (I (x:Nat))] K=some (.tuple [],K')/\HpR K' hb v' (T++[x])/\Fr hb v v' K K':=by
 obtain ⟨tm,ht,g0,g1,g2⟩:=tm2 (.ptr hb 0) (.iface 3 (I (x:Nat))) 13 (by decide)
 rw [Vs,ht]
 have hrd:=fun L=>h.rdL L
 have hbl:=aJ h.cell
 have hol:=h.own.length
 rw [iX,dS] at hol
 obtain ⟨v',K',happ,ho',hl',hfr,hbk⟩:=Mm XB (by decide) rfl (fy _) h.own (new:=[I (x:Nat)]) rfl rfl (il b3' (by omega)) 7 6 [.fresh,.fresh,.fresh,.fresh,.fresh,.fresh,.cells [I (x:Nat)] 3,.fresh,.fresh,.fresh] rfl rfl
 have hc':K'[hb]? =some (.cells [v] 101):=by rw [hfr hb hbl h.ne]; exact h.cell
 have hvo:=ho'.cells
 have hwr:bp K' hb 0 [v']=some (K'.set hb (.cells [v'] 101)):=by
   have:=gN hc' (k:=0) (xs:=[v']) (by simp) (by simp [hvo.2]) []
   rw [af,af] at this
   rw [this]; rfl
 have hv1:=hvo.1
 simp -implicitDefEqProofs only [WY,Tryz.f352,aP,g0,g1,g2,↓dn IE,Dl,d6,dz,eE,fi,cJ,d5,dH,du,hrd,Th,happ,hwr,↓hv1,↓Mo,Ud,mJ,PM,r5,↓az,nck,↓cbT,↓cbF,↓ao,an,eu,sevalprocAttr,↓fK,↓fI,↓jG,↓gP,↓fJ,↓gQ,↓ez,↓fL,↓cF,↓bX,↓dj,↓gR,↓eA,↓fM,↓cH,↓cG,↓dk,↓e9,↓dK,eB,cd,ai,bV,di,dJ,eC]
 have hbv:bZ v'≠some hb:=fun e=>by
   rcases hbk hb e with e2 | e2
   · exact h.ne e2
   · omega
 have hbl':=aJ hc'
 refine ⟨v',_,rfl,⟨bI hbl',?_,hbv⟩,?_,fun c hc h1 h2=>?_,fun i hi=>?_⟩
 · rw [sZ]
   exact ho'.other fun i k e len cap ex hv=>aB fun e2=>hbv (by rw [hv,e2]; rfl)
 · rw [ar,hl']; omega
 · rw [aB (Ne.symm h1),hfr c hc h2]
 · rcases hbk i hi with e | e
   · exact .inl e
   · exact .inr (by omega)
end Go.Dv
