/- Part 24 of the walks (own work). -/
import Derived.Test.YtilpjnckfkjkbaaGreatDoorT23
open Bool renaming and_eq_true→aC,and_true→fx,false_and→bc,true_and→bd
open Int renaming toNat_natCast→cw
open List renaming append_nil→af
open Option renaming bind_some→aA,getD_some→fq
open Go.Proofs.Tryz renaming prog→aa
set_option maxRecDepth 100000
set_option maxHeartbeats 4000000
set_option linter.unusedSimpArgs false
set_option linter.unusedVariables false
namespace Go.Dv
open Go.Proofs
attribute [local congr] aF bC aY bB bD
noncomputable def Nu:Code:=aI [false] (Tryz.f62.body.getD .skip)
noncomputable def Nt:Code:=aI [true,false] (Tryz.f62.body.getD .skip)
noncomputable def Ns:Code:=aI [true,true,false] (Tryz.f62.body.getD .skip)
noncomputable def Nr:Code:=aI [true,true,true,false] (Tryz.f62.body.getD .skip)
noncomputable def Nq:Code:=aI [true,true,true,true,false] (Tryz.f62.body.getD .skip)
noncomputable def T62:Code:=aI [true,true,true,true,true] (Tryz.f62.body.getD .skip)
theorem M3:c62=.seq Nu (.seq Nt (.seq Ns (.seq Nr (.seq Nq T62)))):=by kernel_rfl
theorem Tf {tm:List AV} {G:AH} {vm va:AV} (hac:va.cells=[va]) (hao:va.one=true) {k c g b s d e w c2 g2 b2 s2 d2 e2 w2:Int} {ok:Bool} (hlen:tm.length=181) (h5:tm.getD 5 uA=.ptr (G.length+1) 0) (h8:tm.getD 8 uA=.ptr (G.length+2) 0) (h9:tm.getD 9 uA=.bool ok) :
   ∃ tm' K',EvC aa C0 W0 pe T62 (tm,G++[.cells [vm] 24,.cells [I k,I c,I g,I b,I s,I d,I e,va,.int .i32 w] 34,.cells [I k,I c2,I g2,I b2,I s2,I d2,I e2,.nilSlice,.int .i32 w2] 34])=some (.ret,(tm',K'))/\tm'.length=181/\tm'.getD 6 uA=.bool (ok && eqB c c2 && eqB g g2 && eqB b b2 && eqB s s2 && eqB d d2 && eqB e e2 && eqB w w2):=by
 cases ok with
 | false =>
   simp (maxSteps:=4000000) -implicitDefEqProofs only [T62,Tryz.f62,aP,hlen,h5,h8,h9,fJ,fN,↓hac,↓hao,r5,↓az,↓ao,an,eu,sevalprocAttr]
   exact ⟨_,_,rfl,by simp only [ls,hlen],by simp only [hlen,gB,sevalprocAttr]⟩
 | true =>
   cases q0:eqB c c2 with
   | false =>
     simp (maxSteps:=4000000) -implicitDefEqProofs only [T62,Tryz.f62,aP,hlen,h5,h8,h9,fJ,fN,↓hac,↓hao,r5,↓az,q0,↓ao,an,eu,sevalprocAttr]
     exact ⟨_,_,rfl,by simp only [ls,hlen],by simp only [hlen,gB,sevalprocAttr]⟩
   | true =>
     cases q1:eqB g g2 with
     | false =>
       simp (maxSteps:=4000000) -implicitDefEqProofs only [T62,Tryz.f62,aP,hlen,h5,h8,h9,fJ,fN,↓hac,↓hao,r5,↓az,q0,q1,↓ao,an,eu,sevalprocAttr]
       exact ⟨_,_,rfl,by simp only [ls,hlen],by simp only [hlen,gB,sevalprocAttr]⟩
     | true =>
       cases q2:eqB b b2 with
       | false =>
         simp (maxSteps:=4000000) -implicitDefEqProofs only [T62,Tryz.f62,aP,hlen,h5,h8,h9,fJ,fN,↓hac,↓hao,r5,↓az,q0,q1,q2,↓ao,an,eu,sevalprocAttr]
         exact ⟨_,_,rfl,by simp only [ls,hlen],by simp only [hlen,gB,sevalprocAttr]⟩
       | true =>
         cases q3:eqB s s2 with
         | false =>
           simp (maxSteps:=4000000) -implicitDefEqProofs only [T62,Tryz.f62,aP,hlen,h5,h8,h9,fJ,fN,↓hac,↓hao,r5,↓az,q0,q1,q2,q3,↓ao,an,eu,sevalprocAttr]
           exact ⟨_,_,rfl,by simp only [ls,hlen],by simp only [hlen,gB,sevalprocAttr]⟩
         | true =>
           cases q4:eqB d d2 with
           | false =>
             simp (maxSteps:=4000000) -implicitDefEqProofs only [T62,Tryz.f62,aP,hlen,h5,h8,h9,fJ,fN,↓hac,↓hao,r5,↓az,q0,q1,q2,q3,q4,↓ao,an,eu,sevalprocAttr]
             exact ⟨_,_,rfl,by simp only [ls,hlen],by simp only [hlen,gB,sevalprocAttr]⟩
           | true =>
             cases q5:eqB e e2 with
             | false =>
               simp (maxSteps:=4000000) -implicitDefEqProofs only [T62,Tryz.f62,aP,hlen,h5,h8,h9,fJ,fN,↓hac,↓hao,r5,↓az,q0,q1,q2,q3,q4,q5,↓ao,an,eu,sevalprocAttr]
               exact ⟨_,_,rfl,by simp only [ls,hlen],by simp only [hlen,gB,sevalprocAttr]⟩
             | true =>
               cases q6:eqB w w2 with
               | false =>
                 simp (maxSteps:=4000000) -implicitDefEqProofs only [T62,Tryz.f62,aP,hlen,h5,h8,h9,fJ,fN,↓hac,↓hao,r5,↓az,q0,q1,q2,q3,q4,q5,q6,↓ao,an,eu,sevalprocAttr]
                 exact ⟨_,_,rfl,by simp only [ls,hlen],by simp only [hlen,gB,sevalprocAttr]⟩
               | true =>
                 simp (maxSteps:=4000000) -implicitDefEqProofs only [T62,Tryz.f62,aP,hlen,h5,h8,h9,fJ,fN,↓hac,↓hao,r5,↓az,q0,q1,q2,q3,q4,q5,q6,↓ao,an,eu,sevalprocAttr]
                 exact ⟨_,_,rfl,by simp only [ls,hlen],by simp only [hlen,gB,sevalprocAttr]⟩
theorem lU {tm:List AV} {G:AH} {vm va:AV} (hac:va.cells=[va]) (hao:va.one=true) {k c g b s d e w c2 g2 b2 s2 d2 e2 w2:Int} {ok:Bool} {Z:Option (bs × St)} (hZ:EvC aa C0 W0 pe T62 (tm,G++[.cells [vm] 24,.cells [I k,I c,I g,I b,I s,I d,I e,va,.int .i32 w] 34,.cells [I k,I c2,I g2,I b2,I s2,I d2,I e2,.nilSlice,.int .i32 w2] 34])=Z) (hlen:tm.length=181) (h5:tm.getD 5 uA=.ptr (G.length+1) 0) (h8:tm.getD 8 uA=.ptr (G.length+2) 0) (h9:tm.getD 9 uA=.bool ok) :
   ∃ tm' K',Z=some (.ret,(tm',K'))/\tm'.length=181/\tm'.getD 6 uA=.bool (ok && eqB c c2 && eqB g g2 && eqB b b2 && eqB s s2 && eqB d d2 && eqB e e2 && eqB w w2):=by
 subst hZ
 exact Tf hac hao hlen h5 h8 h9
theorem DW {H:AH} {m:List (List Int)} {vc vm:AV} (hm:dZ H m vm) {x:Itm} {va:AV} (ha:SlS 32 1 H va (x.args.map dw)) (hk:x.kind=1):Ev aa C0 W0 62 [vc,vm,.agg (aL x va)] H=some (.bool (inB m x.src && inB m x.dst && eqB (ya m x.src) (ya m x.dst) && eqB x.args.length 0 && (eqB x.code 0 && eqB x.grid 0 && eqB x.block 0 && eqB x.ev 0 && eqB x.word 0)),H):=by
 obtain ⟨tm,ht,g0,g1,g2,g3⟩:=tm3 vc vm (.agg (aL x va)) 181 (by decide)
 rw [HM,ht]
 rw [<-af (ro H)]
 rw [M3]
 obtain ⟨kind,code,grid,block,src,dst,ev,args,word⟩:=x
 simp only at ha hk ⊢
 subst hk
 have hla:=kI ha.ro
 have hlm:=hm.ro.len
 obtain ⟨hvc,hvo⟩:=hm.vc
 have hac:=ha.cells
 have hao:=ha.one
 have h90:∀ L n,Ev aa C0 W0 90 [I n,.ptr (ro H).length 0] (ro H++(bl.cells [vm] 24::L))=some (.bool (inB m n),ro H++(bl.cells [vm] 24::L)):=fun L n=>HW (hm.ro.bg (au.app _ _)) (by rw [gu]; rfl) n
 have e0:eqB 1 0=false:=rfl
 have e1:eqB 1 1=true:=rfl
 have e2:eqB 1 2=false:=rfl
 have e3:eqB 1 3=false:=rfl
 have e4:eqB 1 4=false:=rfl
 simp (maxSteps:=4000000) -implicitDefEqProofs only [Nu,Nt,Ns,Nr,Nq,Tryz.f62,aP,g0,g1,g2,g3,aL,st3,fJ,fN,↓hvc,↓hvo,↓hac,↓hao,ig,fV,ed,hla,hlm,h90,bw,cG,bT,↓aR,Tryz.func90,show Tryz.f90.body.isSome=true from rfl,↓hU,↓g9,r5,↓az,e0,e1,e2,e3,e4,↓cbT,↓cbF,↓ao,an,eu,sevalprocAttr]
 generalize hR:EvC aa C0 W0 _ (Code.region _ _ _) _=R
 obtain ⟨t,he,hlen,t0,t1,t4,t5,t7,t8,t9⟩:=I9 hR (by simp only [ls,g0]) (by simp only [g0,gB,sevalprocAttr]) (by simp only [g0,gB,sevalprocAttr])
 subst he
 simp only [g0,g1,g2,g3,gB,sevalprocAttr] at t0 t1 t4 t5 t7 t8 t9
 cases h0:inB m src with
 | false =>
   simp (maxSteps:=4000000) -implicitDefEqProofs only [aP,hlen,t0,t1,t4,t5,t7,t8,t9,aL,st3,fJ,fN,↓hvc,↓hvo,↓hac,↓hao,ig,fV,ed,hla,hlm,h90,bw,cG,bT,↓aR,Tryz.func90,show Tryz.f90.body.isSome=true from rfl,↓hU,↓g9,r5,↓az,BR,h0,↓cbT,↓cbF,↓ao,an,eu,sevalprocAttr]
   generalize hZ:EvC aa C0 W0 _ T62 _=Z
   obtain ⟨tm',K',rfl,l6,r6⟩:=lU hac hao hZ (by simp only [ls,hlen]) (by simp only [hlen,t5,gB,sevalprocAttr]) (by simp only [hlen,t8,gB,sevalprocAttr]) (by simp only [hlen,gB,sevalprocAttr]; try rfl)
   simp only [aA,r6]
   simp only [bc,bd,fx,bw,g8]
 | true =>
   cases h1:inB m dst with
   | false =>
     simp (maxSteps:=4000000) -implicitDefEqProofs only [aP,hlen,t0,t1,t4,t5,t7,t8,t9,aL,st3,fJ,fN,↓hvc,↓hvo,↓hac,↓hao,ig,fV,ed,hla,hlm,h90,bw,cG,bT,↓aR,Tryz.func90,show Tryz.f90.body.isSome=true from rfl,↓hU,↓g9,r5,↓az,BR,h0,h1,↓cbT,↓cbF,↓ao,an,eu,sevalprocAttr]
     generalize hZ:EvC aa C0 W0 _ T62 _=Z
     obtain ⟨tm',K',rfl,l6,r6⟩:=lU hac hao hZ (by simp only [ls,hlen]) (by simp only [hlen,t5,gB,sevalprocAttr]) (by simp only [hlen,t8,gB,sevalprocAttr]) (by simp only [hlen,gB,sevalprocAttr]; try rfl)
     simp only [aA,r6]
     simp only [bc,bd,fx,bw,g8]
   | true =>
     have b0:=h0
     have b1:=h1
     unfold inB at b0 b1
     rw [aC,dn,dm] at b0 b1
     obtain ⟨j0,rfl⟩:∃ j:Nat,src=j:=⟨src.toNat,by omega⟩
     obtain ⟨j1,rfl⟩:∃ j:Nat,dst=j:=⟨dst.toNat,by omega⟩
     obtain ⟨i0,k0,w0,hix0,hrd0,hw0⟩:=hm.ro.at (au.refl _) (j:=j0) (by omega)
     obtain ⟨i1,k1,w1,hix1,hrd1,hw1⟩:=hm.ro.at (au.refl _) (j:=j1) (by omega)
     have hl0:=kI hw0
     have hl1:=kI hw1
     have hn0:ya m (j0:Int)=((bN m j0).length:Int):=rfl
     have hn1:ya m (j1:Int)=((bN m j1).length:Int):=rfl
     rw [hn0,hn1]
     cases h2:eqB ((bN m j0).length:Int) ((bN m j1).length:Int) with
     | false =>
       simp (maxSteps:=4000000) -implicitDefEqProofs only [aP,hlen,t0,t1,t4,t5,t7,t8,t9,aL,st3,fJ,fN,↓hvc,↓hvo,↓hac,↓hao,ig,fV,ed,hla,hlm,h90,bw,cG,bT,↓aR,Tryz.func90,show Tryz.f90.body.isSome=true from rfl,↓hU,↓g9,r5,↓az,BR,h0,h1,hix0,hix1,hrd0,hrd1,hl0,hl1,h2,↓cbT,↓cbF,↓ao,an,eu,sevalprocAttr]
       generalize hZ:EvC aa C0 W0 _ T62 _=Z
       obtain ⟨tm',K',rfl,l6,r6⟩:=lU hac hao hZ (by simp only [ls,hlen]) (by simp only [hlen,t5,gB,sevalprocAttr]) (by simp only [hlen,t8,gB,sevalprocAttr]) (by simp only [hlen,gB,sevalprocAttr]; try rfl)
       simp only [aA,r6]
       simp only [bc,bd,fx,bw,g8]
     | true =>
       cases h3:eqB (args.length:Int) 0 with
       | false =>
         simp (maxSteps:=4000000) -implicitDefEqProofs only [aP,hlen,t0,t1,t4,t5,t7,t8,t9,aL,st3,fJ,fN,↓hvc,↓hvo,↓hac,↓hao,ig,fV,ed,hla,hlm,h90,bw,cG,bT,↓aR,Tryz.func90,show Tryz.f90.body.isSome=true from rfl,↓hU,↓g9,r5,↓az,BR,h0,h1,hix0,hix1,hrd0,hrd1,hl0,hl1,h2,h3,↓cbT,↓cbF,↓ao,an,eu,sevalprocAttr]
         generalize hZ:EvC aa C0 W0 _ T62 _=Z
         obtain ⟨tm',K',rfl,l6,r6⟩:=lU hac hao hZ (by simp only [ls,hlen]) (by simp only [hlen,t5,gB,sevalprocAttr]) (by simp only [hlen,t8,gB,sevalprocAttr]) (by simp only [hlen,gB,sevalprocAttr]; try rfl)
         simp only [aA,r6]
         simp only [bc,bd,fx,bw,g8]
       | true =>
         simp (maxSteps:=4000000) -implicitDefEqProofs only [aP,hlen,t0,t1,t4,t5,t7,t8,t9,aL,st3,fJ,fN,↓hvc,↓hvo,↓hac,↓hao,ig,fV,ed,hla,hlm,h90,bw,cG,bT,↓aR,Tryz.func90,show Tryz.f90.body.isSome=true from rfl,↓hU,↓g9,r5,↓az,BR,h0,h1,hix0,hix1,hrd0,hrd1,hl0,hl1,h2,h3,↓cbT,↓cbF,↓ao,an,eu,sevalprocAttr]
         generalize hZ:EvC aa C0 W0 _ T62 _=Z
         obtain ⟨tm',K',rfl,l6,r6⟩:=lU hac hao hZ (by simp only [ls,hlen]) (by simp only [hlen,t5,gB,sevalprocAttr]) (by simp only [hlen,t8,gB,sevalprocAttr]) (by simp only [hlen,gB,sevalprocAttr]; try rfl)
         simp only [aA,r6]
         simp only [bc,bd,fx,bw,g8]
theorem AK {H:AH} {cs:List Cod} {m:List (List Int)} {vc vm:AV} (hc:dk H cs vc) (hm:dZ H m vm) {x:Itm} {va:AV} (ha:SlS 32 1 H va (x.args.map dw)) (hi32:∀ a∈x.args,e9 a) (hk:x.kind=0):Ev aa C0 W0 62 [vc,vm,.agg (aL x va)] H=some (.bool (leB 0 x.code && ltB x.code cs.length && o8 (cT cs x.code.toNat) (cT cs x.code.toNat).name x m && (eqB x.src 0 && eqB x.dst 0 && eqB x.ev 0 && eqB x.word 0)),H):=by
 obtain ⟨tm,ht,g0,g1,g2,g3⟩:=tm3 vc vm (.agg (aL x va)) 181 (by decide)
 rw [HM,ht]
 rw [<-af (ro H)]
 rw [M3]
 obtain ⟨kind,code,grid,block,src,dst,ev,args,word⟩:=x
 simp only at ha hk hi32 ⊢
 subst hk
 have hlc:=hc.ro.len
 have hla:=kI ha.ro
 have hlm:=hm.ro.len
 obtain ⟨hvc,hvo⟩:=hm.vc
 have hac:=ha.cells
 have hao:=ha.one
 have h90:∀ L n,Ev aa C0 W0 90 [I n,.ptr (ro H).length 0] (ro H++(bl.cells [vm] 24::L))=some (.bool (inB m n),ro H++(bl.cells [vm] 24::L)):=fun L n=>HW (hm.ro.bg (au.app _ _)) (by rw [gu]; rfl) n
 have e0:eqB 0 0=true:=rfl
 have e1:eqB 0 1=false:=rfl
 have e2:eqB 0 2=false:=rfl
 have e3:eqB 0 3=false:=rfl
 have e4:eqB 0 4=false:=rfl
 simp (maxSteps:=4000000) -implicitDefEqProofs only [Nu,Nt,Ns,Nr,Nq,Tryz.f62,aP,g0,g1,g2,g3,aL,st3,fJ,fN,↓hvc,↓hvo,↓hac,↓hao,ig,fV,ed,hla,hlm,h90,bw,cG,bT,↓aR,Tryz.func90,show Tryz.f90.body.isSome=true from rfl,↓hU,↓g9,r5,↓az,e0,e1,e2,e3,e4,↓cbT,↓cbF,↓ao,an,eu,sevalprocAttr]
 generalize hR:EvC aa C0 W0 _ (Code.region _ _ _) _=R
 obtain ⟨t,he,hlen,t0,t1,t4,t5,t7,t8,t9⟩:=Ja hR (by simp only [ls,g0]) (by simp only [g0,gB,sevalprocAttr]) (by simp only [g0,gB,sevalprocAttr])
 subst he
 simp only [g0,g1,g2,g3,gB,sevalprocAttr] at t0 t1 t4 t5 t7 t8 t9
 cases h0:leB 0 code with
 | false =>
   simp (maxSteps:=4000000) -implicitDefEqProofs only [aP,hlen,t0,t1,t4,t5,t7,t8,t9,aL,st3,fJ,fN,↓hvc,↓hvo,↓hac,↓hao,ig,fV,ed,hla,hlm,h90,bw,cG,bT,↓aR,Tryz.func90,show Tryz.f90.body.isSome=true from rfl,↓hU,↓g9,r5,↓az,Fo,Fm,hlc,h0,↓cbT,↓cbF,↓ao,an,eu,sevalprocAttr]
   generalize hZ:EvC aa C0 W0 _ T62 _=Z
   obtain ⟨tm',K',rfl,l6,r6⟩:=lU hac hao hZ (by simp only [ls,hlen]) (by simp only [hlen,t5,gB,sevalprocAttr]) (by simp only [hlen,t8,gB,sevalprocAttr]) (by simp only [hlen,gB,sevalprocAttr]; try rfl)
   simp only [aA,r6]
   simp only [bc,bd,fx,bw,g8]
 | true =>
   cases h1:ltB code (cs.length:Int) with
   | false =>
     simp (maxSteps:=4000000) -implicitDefEqProofs only [aP,hlen,t0,t1,t4,t5,t7,t8,t9,aL,st3,fJ,fN,↓hvc,↓hvo,↓hac,↓hao,ig,fV,ed,hla,hlm,h90,bw,cG,bT,↓aR,Tryz.func90,show Tryz.f90.body.isSome=true from rfl,↓hU,↓g9,r5,↓az,Fo,Fm,hlc,h0,h1,↓cbT,↓cbF,↓ao,an,eu,sevalprocAttr]
     generalize hZ:EvC aa C0 W0 _ T62 _=Z
     obtain ⟨tm',K',rfl,l6,r6⟩:=lU hac hao hZ (by simp only [ls,hlen]) (by simp only [hlen,t5,gB,sevalprocAttr]) (by simp only [hlen,t8,gB,sevalprocAttr]) (by simp only [hlen,gB,sevalprocAttr]; try rfl)
     simp only [aA,r6]
     simp only [bc,bd,fx,bw,g8]
   | true =>
     have b0:=h0
     have b1:=h1
     rw [dn] at b0
     rw [dm] at b1
     obtain ⟨j,rfl⟩:∃ j:Nat,code=j:=⟨code.toNat,by omega⟩
     obtain ⟨i0,k0,vp,vs,vi,hix,hrd,hcd⟩:=hc.ro.at (au.refl _) (j:=j) (by omega)
     have h65:=fun L=>acK (x:=⟨0,j,grid,block,src,dst,ev,args,word⟩) (hcd.bg (au.app (ro H) L)) (ha.ro.app L)
     have h91:=fun L=>acv (x:=⟨0,j,grid,block,src,dst,ev,args,word⟩) (nm:=(cT cs j).name) (hcd.bg (au.app (ro H) L)) (ha.ro.app L) hi32 (hm.ro.bg (au.app (ro H) L))
     simp only [bI,dq,aL] at h65 h91 hrd
     rw [show ((j:Int)).toNat=j from cw j]
     cases h2:o8 (cT cs j) (cT cs j).name ⟨0,j,grid,block,src,dst,ev,args,word⟩ m with
     | false =>
       simp (maxSteps:=4000000) -implicitDefEqProofs only [aP,hlen,t0,t1,t4,t5,t7,t8,t9,aL,st3,fJ,fN,↓hvc,↓hvo,↓hac,↓hao,ig,fV,ed,hla,hlm,h90,bw,cG,bT,↓aR,Tryz.func90,show Tryz.f90.body.isSome=true from rfl,↓hU,↓g9,r5,↓az,Fo,Fm,hlc,h0,h1,hix,hrd,h65,h91,h2,↓cbT,↓cbF,↓ao,an,eu,sevalprocAttr]
       generalize hZ:EvC aa C0 W0 _ T62 _=Z
       obtain ⟨tm',K',rfl,l6,r6⟩:=lU hac hao hZ (by simp only [ls,hlen]) (by simp only [hlen,t5,gB,sevalprocAttr]) (by simp only [hlen,t8,gB,sevalprocAttr]) (by simp only [hlen,gB,sevalprocAttr]; try rfl)
       simp only [aA,r6]
       simp only [bc,bd,fx,bw,g8]
     | true =>
       simp (maxSteps:=4000000) -implicitDefEqProofs only [aP,hlen,t0,t1,t4,t5,t7,t8,t9,aL,st3,fJ,fN,↓hvc,↓hvo,↓hac,↓hao,ig,fV,ed,hla,hlm,h90,bw,cG,bT,↓aR,Tryz.func90,show Tryz.f90.body.isSome=true from rfl,↓hU,↓g9,r5,↓az,Fo,Fm,hlc,h0,h1,hix,hrd,h65,h91,h2,↓cbT,↓cbF,↓ao,an,eu,sevalprocAttr]
       generalize hZ:EvC aa C0 W0 _ T62 _=Z
       obtain ⟨tm',K',rfl,l6,r6⟩:=lU hac hao hZ (by simp only [ls,hlen]) (by simp only [hlen,t5,gB,sevalprocAttr]) (by simp only [hlen,t8,gB,sevalprocAttr]) (by simp only [hlen,gB,sevalprocAttr]; try rfl)
       simp only [aA,r6]
       simp only [bc,bd,fx,bw,g8]
def b6 (cs:List Cod) (m:List (List Int)) (x:Itm):Bool:=
 br (eqB x.kind 0) (leB 0 x.code && ltB x.code cs.length && o8 (cT cs x.code.toNat) (cT cs x.code.toNat).name x m && (eqB x.src 0 && eqB x.dst 0 && eqB x.ev 0 && eqB x.word 0))
   (br (eqB x.kind 1) (inB m x.src && inB m x.dst && eqB (ya m x.src) (ya m x.dst) && eqB x.args.length 0 && (eqB x.code 0 && eqB x.grid 0 && eqB x.block 0 && eqB x.ev 0 && eqB x.word 0))
     (br (eqB x.kind 2) (inB m x.dst && eqB x.args.length 0 && eqB x.code 0 && eqB x.grid 0 && eqB x.block 0 && eqB x.src 0 && eqB x.ev 0)
       (br (eqB x.kind 3 || eqB x.kind 4) (leB 0 x.ev && ltB x.ev 16 && eqB x.args.length 0 && eqB x.code 0 && eqB x.grid 0 && eqB x.block 0 && eqB x.src 0 && eqB x.dst 0 && eqB x.word 0) false)))
theorem acL {H:AH} {cs:List Cod} {m:List (List Int)} {vc vm:AV} (hc:dk H cs vc) (hm:dZ H m vm) {x:Itm} {va:AV} (ha:SlS 32 1 H va (x.args.map dw)) (hi32:∀ a∈x.args,e9 a):Ev aa C0 W0 62 [vc,vm,.agg (aL x va)] H=some (.bool (b6 cs m x),H):=by
 have hvc:vc.cells=[vc]:=by
   obtain ⟨⟨l,e,hs,hc'⟩,n⟩:=hc
   exact hs.cells
 unfold b6
 cases k0:eqB x.kind 0 with
 | true=>exact AK hc hm ha hi32 ((cU _ _).1 k0)
 | false =>
   cases k1:eqB x.kind 1 with
   | true=>exact DW hm ha ((cU _ _).1 k1)
   | false =>
     cases k2:eqB x.kind 2 with
     | true=>exact DV hm ha ((cU _ _).1 k2)
     | false =>
       cases k3:eqB x.kind 3 with
       | true=>exact Hd hm ha ((cU _ _).1 k3)
       | false =>
         cases k4:eqB x.kind 4 with
         | true=>exact Hc hm ha ((cU _ _).1 k4)
         | false=>exact DU hm ha k0 k1 k2 k3 k4
theorem Ol {tm:List AV} {G:AH} {m:List (List Int)} {va:AV} (hac:va.cells=[va]) (hao:va.one=true) (k c g b s d e w:Int) (hlen:tm.length=162) (h5:tm.getD 5 uA=.ptr G.length 0) (h7:tm.getD 7 uA=I m.length) :
   ∃ tm',EvC aa C0 W0 zg (aI [true,true,false] (Tryz.f39.body.getD .skip)) (tm,G++[.cells [I k,I c,I g,I b,I s,I d,I e,va,.int .i32 w] 34])=some (.normal,(tm',G++[.cells [I k,I c,I g,I b,I s,I d,I e,va,.int .i32 w] 34]))/\tm'.length=162/\tm'.getD 8 uA=.bool (inB m s)/\tm'.getD 9 uA=.bool (inB m d)/\tm'.getD 0 uA=tm.getD 0 uA/\tm'.getD 1 uA=tm.getD 1 uA/\tm'.getD 5 uA=tm.getD 5 uA:=by
 unfold inB
 cases q0:leB 0 s <;> cases q1:ltB s (m.length:Int) <;> cases q2:leB 0 d <;> cases q3:ltB d (m.length:Int) <;>
   (simp (maxSteps:=4000000) -implicitDefEqProofs only [aI,Tryz.f39,fq,hlen,h5,h7,OI,r5,↓az,q0,q1,q2,q3,↓hac,↓hao,↓cbT,↓cbF,↓ao,an,eu,sevalprocAttr]
    exact ⟨_,rfl,by simp only [ls,hlen],by simp only [hlen,h5,h7,gB,and_self,sevalprocAttr]⟩)
theorem nP {tm:List AV} {G:AH} {m:List (List Int)} {va:AV} (hac:va.cells=[va]) (hao:va.one=true) {k c g b s d e w:Int} {R:Option (bs × St)} (hR:EvC aa C0 W0 zg (aI [true,true,false] c39) (tm,G++[.cells [I k,I c,I g,I b,I s,I d,I e,va,.int .i32 w] 34])=R) (hlen:tm.length=162) (h5:tm.getD 5 uA=.ptr G.length 0) (h7:tm.getD 7 uA=I m.length) :
   ∃ tm',R=some (.normal,(tm',G++[.cells [I k,I c,I g,I b,I s,I d,I e,va,.int .i32 w] 34]))/\tm'.length=162/\tm'.getD 8 uA=.bool (inB m s)/\tm'.getD 9 uA=.bool (inB m d)/\tm'.getD 0 uA=tm.getD 0 uA/\tm'.getD 1 uA=tm.getD 1 uA/\tm'.getD 5 uA=tm.getD 5 uA:=by
 subst hR
 exact Ol hac hao k c g b s d e w hlen h5 h7
theorem Tz {H:AH} {cs:List Cod} {m:List (List Int)} {vc vm:AV} (hc:dk H cs vc) (hm:dZ H m vm) {x:Itm} {va:AV} (ha:SlS 32 1 H va (x.args.map dw)) (hi32:∀ a∈x.args,e9 a) (hk:x.kind=0):Ev aa C0 W0 39 [vc,vm,.agg (aL x va)] H=some (.bool (eqB x.src 0 && eqB x.dst 0 && eqB x.ev 0 && eqB x.word 0 && leB 0 x.code && ltB x.code cs.length && o8 (cT cs x.code.toNat) (cT cs x.code.toNat).name x m),H):=by
 obtain ⟨tm,ht,g0,g1,g2,g3⟩:=tm3 vc vm (.agg (aL x va)) 162 (by decide)
 rw [HN,ht]
 rw [<-af (ro H)]
 obtain ⟨kind,code,grid,block,src,dst,ev,args,word⟩:=x
 simp only at ha hk hi32 ⊢
 have hla:=kI ha.ro
 have hlc:=hc.ro.len
 have hlm:=hm.ro.len
 have hac:=ha.cells
 have hao:=ha.one
 have h71:=fun L=>HY (x:=⟨kind,code,grid,block,src,dst,ev,args,word⟩) (ha.ro.app L)
 simp only [aL] at h71
 simp (maxSteps:=4000000) -implicitDefEqProofs only [c39,Tryz.f39,aP,g0,g1,g2,g3,aL,r5,↓az,ed,fV,st3,hlm,↓hac,↓hao,↓cbT,↓cbF,↓ao,an,eu,sevalprocAttr]
 generalize hR:EvC aa C0 W0 _ (Code.region _ _ _) _=R
 obtain ⟨t,he,hlen,t8,t9,t0,t1,t5⟩:=nP (m:=m) hac hao hR (by simp only [ls,g0]) (by simp only [g0,gB,sevalprocAttr]) (by simp only [g0,gB,sevalprocAttr])
 subst he
 simp only [g0,g1,g2,g3,gB,sevalprocAttr] at t0 t1 t5
 subst hk
 have e0:eqB 0 0=true:=rfl
 have e1:eqB 0 1=false:=rfl
 have e2:eqB 0 2=false:=rfl
 have e3:eqB 0 3=false:=rfl
 have e4:eqB 0 4=false:=rfl
 cases h0:eqB src 0 with
 | false=>simp (maxSteps:=4000000) -implicitDefEqProofs only [aP,hlen,t0,t1,t5,t8,t9,aL,r5,↓az,hla,hlc,dh,dg,↓je,fP,h71,↓hac,↓hao,e0,e1,e2,e3,e4,h0,↓cbT,↓cbF,↓ao,an,eu,sevalprocAttr]
 | true =>
   cases h1:eqB dst 0 with
   | false=>simp (maxSteps:=4000000) -implicitDefEqProofs only [aP,hlen,t0,t1,t5,t8,t9,aL,r5,↓az,hla,hlc,dh,dg,↓je,fP,h71,↓hac,↓hao,e0,e1,e2,e3,e4,h0,h1,↓cbT,↓cbF,↓ao,an,eu,sevalprocAttr]
   | true =>
     cases h2:eqB ev 0 with
     | false=>simp (maxSteps:=4000000) -implicitDefEqProofs only [aP,hlen,t0,t1,t5,t8,t9,aL,r5,↓az,hla,hlc,dh,dg,↓je,fP,h71,↓hac,↓hao,e0,e1,e2,e3,e4,h0,h1,h2,↓cbT,↓cbF,↓ao,an,eu,sevalprocAttr]
     | true =>
       cases h3:eqB word 0 with
       | false=>simp (maxSteps:=4000000) -implicitDefEqProofs only [aP,hlen,t0,t1,t5,t8,t9,aL,r5,↓az,hla,hlc,dh,dg,↓je,fP,h71,↓hac,↓hao,e0,e1,e2,e3,e4,h0,h1,h2,h3,↓cbT,↓cbF,↓ao,an,eu,sevalprocAttr]
       | true =>
         cases h4:leB 0 code with
         | false=>simp (maxSteps:=4000000) -implicitDefEqProofs only [aP,hlen,t0,t1,t5,t8,t9,aL,r5,↓az,hla,hlc,dh,dg,↓je,fP,h71,↓hac,↓hao,e0,e1,e2,e3,e4,h0,h1,h2,h3,h4,↓cbT,↓cbF,↓ao,an,eu,sevalprocAttr]
         | true =>
           cases h5:ltB code (cs.length:Int) with
           | false=>simp (maxSteps:=4000000) -implicitDefEqProofs only [aP,hlen,t0,t1,t5,t8,t9,aL,r5,↓az,hla,hlc,dh,dg,↓je,fP,h71,↓hac,↓hao,e0,e1,e2,e3,e4,h0,h1,h2,h3,h4,h5,↓cbT,↓cbF,↓ao,an,eu,sevalprocAttr]
           | true =>
             have b0:=h4
             have b1:=h5
             rw [dn] at b0
             rw [dm] at b1
             obtain ⟨j,rfl⟩:∃ j:Nat,code=j:=⟨code.toNat,by omega⟩
             obtain ⟨i0,k0,vp,vs,vi,hix,hrd,hcd⟩:=hc.ro.at (au.refl _) (j:=j) (by omega)
             have h70:=fun L=>acF (x:=⟨0,j,grid,block,src,dst,ev,args,word⟩) (hcd.bg (au.app (ro H) L)) (ha.ro.app L)
             have h69:=fun L=>acG (x:=⟨0,j,grid,block,src,dst,ev,args,word⟩) (nm:=(cT cs j).name) (hcd.bg (au.app (ro H) L)) (ha.ro.app L) hi32 (hm.ro.bg (au.app (ro H) L))
             simp only [bI,dq,aL] at h70 h69 hrd
             rw [show ((j:Int)).toNat=j from cw j]
             cases h6:o8 (cT cs j) (cT cs j).name ⟨0,j,grid,block,src,dst,ev,args,word⟩ m with
             | false=>simp (maxSteps:=4000000) -implicitDefEqProofs only [aP,hlen,t0,t1,t5,t8,t9,aL,r5,↓az,hla,hlc,dh,dg,↓je,fP,h71,↓hac,↓hao,e0,e1,e2,e3,e4,↓Yp,↓Yq,QW,QX,hix,hrd,h70,h69,h0,h1,h2,h3,h4,h5,h6,↓cbT,↓cbF,↓ao,an,eu,sevalprocAttr]
             | true =>
               simp (maxSteps:=4000000) -implicitDefEqProofs only [aP,hlen,t0,t1,t5,t8,t9,aL,r5,↓az,hla,hlc,dh,dg,↓je,fP,h71,↓hac,↓hao,e0,e1,e2,e3,e4,↓Yp,↓Yq,QW,QX,hix,hrd,h70,h69,h0,h1,h2,h3,h4,h5,h6,↓cbT,↓cbF,↓ao,an,eu,sevalprocAttr]
theorem Ty {H:AH} {cs:List Cod} {m:List (List Int)} {vc vm:AV} (hc:dk H cs vc) (hm:dZ H m vm) {x:Itm} {va:AV} (ha:SlS 32 1 H va (x.args.map dw)) (hi32:∀ a∈x.args,e9 a) (hk:x.kind=1):Ev aa C0 W0 39 [vc,vm,.agg (aL x va)] H=some (.bool (nx x && eqB x.ev 0 && eqB x.word 0 && inB m x.src && inB m x.dst && eqB (ya m x.src) (ya m x.dst)),H):=by
 obtain ⟨tm,ht,g0,g1,g2,g3⟩:=tm3 vc vm (.agg (aL x va)) 162 (by decide)
 rw [HN,ht]
 rw [<-af (ro H)]
 obtain ⟨kind,code,grid,block,src,dst,ev,args,word⟩:=x
 simp only at ha hk hi32 ⊢
 have hla:=kI ha.ro
 have hlc:=hc.ro.len
 have hlm:=hm.ro.len
 have hac:=ha.cells
 have hao:=ha.one
 have h71:=fun L=>HY (x:=⟨kind,code,grid,block,src,dst,ev,args,word⟩) (ha.ro.app L)
 simp only [aL] at h71
 simp (maxSteps:=4000000) -implicitDefEqProofs only [c39,Tryz.f39,aP,g0,g1,g2,g3,aL,r5,↓az,ed,fV,st3,hlm,↓hac,↓hao,↓cbT,↓cbF,↓ao,an,eu,sevalprocAttr]
 generalize hR:EvC aa C0 W0 _ (Code.region _ _ _) _=R
 obtain ⟨t,he,hlen,t8,t9,t0,t1,t5⟩:=nP (m:=m) hac hao hR (by simp only [ls,g0]) (by simp only [g0,gB,sevalprocAttr]) (by simp only [g0,gB,sevalprocAttr])
 subst he
 simp only [g0,g1,g2,g3,gB,sevalprocAttr] at t0 t1 t5
 subst hk
 have e0:eqB 1 0=false:=rfl
 have e1:eqB 1 1=true:=rfl
 have e2:eqB 1 2=false:=rfl
 have e3:eqB 1 3=false:=rfl
 have e4:eqB 1 4=false:=rfl
 cases h0:nx ⟨1,code,grid,block,src,dst,ev,args,word⟩ with
 | false=>simp (maxSteps:=4000000) -implicitDefEqProofs only [aP,hlen,t0,t1,t5,t8,t9,aL,r5,↓az,hla,hlc,dh,dg,↓je,fP,h71,↓hac,↓hao,e0,e1,e2,e3,e4,h0,↓cbT,↓cbF,↓ao,an,eu,sevalprocAttr]
 | true =>
   cases h1:eqB ev 0 with
   | false=>simp (maxSteps:=4000000) -implicitDefEqProofs only [aP,hlen,t0,t1,t5,t8,t9,aL,r5,↓az,hla,hlc,dh,dg,↓je,fP,h71,↓hac,↓hao,e0,e1,e2,e3,e4,h0,h1,↓cbT,↓cbF,↓ao,an,eu,sevalprocAttr]
   | true =>
     cases h2:eqB word 0 with
     | false=>simp (maxSteps:=4000000) -implicitDefEqProofs only [aP,hlen,t0,t1,t5,t8,t9,aL,r5,↓az,hla,hlc,dh,dg,↓je,fP,h71,↓hac,↓hao,e0,e1,e2,e3,e4,h0,h1,h2,↓cbT,↓cbF,↓ao,an,eu,sevalprocAttr]
     | true =>
       cases h3:inB m src with
       | false=>simp (maxSteps:=4000000) -implicitDefEqProofs only [aP,hlen,t0,t1,t5,t8,t9,aL,r5,↓az,hla,hlc,dh,dg,↓je,fP,h71,↓hac,↓hao,e0,e1,e2,e3,e4,h0,h1,h2,h3,↓cbT,↓cbF,↓ao,an,eu,sevalprocAttr]
       | true =>
         cases h4:inB m dst with
         | false=>simp (maxSteps:=4000000) -implicitDefEqProofs only [aP,hlen,t0,t1,t5,t8,t9,aL,r5,↓az,hla,hlc,dh,dg,↓je,fP,h71,↓hac,↓hao,e0,e1,e2,e3,e4,h0,h1,h2,h3,h4,↓cbT,↓cbF,↓ao,an,eu,sevalprocAttr]
         | true =>
           have b0:=h3
           have b1:=h4
           unfold inB at b0 b1
           rw [aC,dn,dm] at b0 b1
           obtain ⟨j0,rfl⟩:∃ j:Nat,src=j:=⟨src.toNat,by omega⟩
           obtain ⟨j1,rfl⟩:∃ j:Nat,dst=j:=⟨dst.toNat,by omega⟩
           obtain ⟨i0,k0,w0,hix0,hrd0,hw0⟩:=hm.ro.at (au.refl _) (j:=j0) (by omega)
           obtain ⟨i1,k1,w1,hix1,hrd1,hw1⟩:=hm.ro.at (au.refl _) (j:=j1) (by omega)
           have hl0:=kI hw0
           have hl1:=kI hw1
           have hn0:ya m (j0:Int)=((bN m j0).length:Int):=rfl
           have hn1:ya m (j1:Int)=((bN m j1).length:Int):=rfl
           rw [hn0,hn1]
           cases h5:eqB ((bN m j0).length:Int) ((bN m j1).length:Int) with
           | false=>simp (maxSteps:=4000000) -implicitDefEqProofs only [aP,hlen,t0,t1,t5,t8,t9,aL,r5,↓az,hla,hlc,dh,dg,↓je,fP,h71,↓hac,↓hao,e0,e1,e2,e3,e4,hix0,hix1,hrd0,hrd1,hl0,hl1,h0,h1,h2,h3,h4,h5,↓cbT,↓cbF,↓ao,an,eu,sevalprocAttr]
           | true =>
             simp (maxSteps:=4000000) -implicitDefEqProofs only [aP,hlen,t0,t1,t5,t8,t9,aL,r5,↓az,hla,hlc,dh,dg,↓je,fP,h71,↓hac,↓hao,e0,e1,e2,e3,e4,hix0,hix1,hrd0,hrd1,hl0,hl1,h0,h1,h2,h3,h4,h5,↓cbT,↓cbF,↓ao,an,eu,sevalprocAttr]
theorem Tx {H:AH} {cs:List Cod} {m:List (List Int)} {vc vm:AV} (hc:dk H cs vc) (hm:dZ H m vm) {x:Itm} {va:AV} (ha:SlS 32 1 H va (x.args.map dw)) (hi32:∀ a∈x.args,e9 a) (hk:x.kind=2):Ev aa C0 W0 39 [vc,vm,.agg (aL x va)] H=some (.bool (nx x && eqB x.ev 0 && eqB x.src 0 && inB m x.dst),H):=by
 obtain ⟨tm,ht,g0,g1,g2,g3⟩:=tm3 vc vm (.agg (aL x va)) 162 (by decide)
 rw [HN,ht]
 rw [<-af (ro H)]
 obtain ⟨kind,code,grid,block,src,dst,ev,args,word⟩:=x
 simp only at ha hk hi32 ⊢
 have hla:=kI ha.ro
 have hlc:=hc.ro.len
 have hlm:=hm.ro.len
 have hac:=ha.cells
 have hao:=ha.one
 have h71:=fun L=>HY (x:=⟨kind,code,grid,block,src,dst,ev,args,word⟩) (ha.ro.app L)
 simp only [aL] at h71
 simp (maxSteps:=4000000) -implicitDefEqProofs only [c39,Tryz.f39,aP,g0,g1,g2,g3,aL,r5,↓az,ed,fV,st3,hlm,↓hac,↓hao,↓cbT,↓cbF,↓ao,an,eu,sevalprocAttr]
 generalize hR:EvC aa C0 W0 _ (Code.region _ _ _) _=R
 obtain ⟨t,he,hlen,t8,t9,t0,t1,t5⟩:=nP (m:=m) hac hao hR (by simp only [ls,g0]) (by simp only [g0,gB,sevalprocAttr]) (by simp only [g0,gB,sevalprocAttr])
 subst he
 simp only [g0,g1,g2,g3,gB,sevalprocAttr] at t0 t1 t5
 subst hk
 have e0:eqB 2 0=false:=rfl
 have e1:eqB 2 1=false:=rfl
 have e2:eqB 2 2=true:=rfl
 have e3:eqB 2 3=false:=rfl
 have e4:eqB 2 4=false:=rfl
 cases h0:nx ⟨2,code,grid,block,src,dst,ev,args,word⟩ with
 | false=>simp (maxSteps:=4000000) -implicitDefEqProofs only [aP,hlen,t0,t1,t5,t8,t9,aL,r5,↓az,hla,hlc,dh,dg,↓je,fP,h71,↓hac,↓hao,e0,e1,e2,e3,e4,h0,↓cbT,↓cbF,↓ao,an,eu,sevalprocAttr]
 | true =>
   cases h1:eqB ev 0 with
   | false=>simp (maxSteps:=4000000) -implicitDefEqProofs only [aP,hlen,t0,t1,t5,t8,t9,aL,r5,↓az,hla,hlc,dh,dg,↓je,fP,h71,↓hac,↓hao,e0,e1,e2,e3,e4,h0,h1,↓cbT,↓cbF,↓ao,an,eu,sevalprocAttr]
   | true =>
     cases h2:eqB src 0 with
     | false=>simp (maxSteps:=4000000) -implicitDefEqProofs only [aP,hlen,t0,t1,t5,t8,t9,aL,r5,↓az,hla,hlc,dh,dg,↓je,fP,h71,↓hac,↓hao,e0,e1,e2,e3,e4,h0,h1,h2,↓cbT,↓cbF,↓ao,an,eu,sevalprocAttr]
     | true =>
       cases h3:inB m dst with
       | false=>simp (maxSteps:=4000000) -implicitDefEqProofs only [aP,hlen,t0,t1,t5,t8,t9,aL,r5,↓az,hla,hlc,dh,dg,↓je,fP,h71,↓hac,↓hao,e0,e1,e2,e3,e4,h0,h1,h2,h3,↓cbT,↓cbF,↓ao,an,eu,sevalprocAttr]
       | true =>
         simp (maxSteps:=4000000) -implicitDefEqProofs only [aP,hlen,t0,t1,t5,t8,t9,aL,r5,↓az,hla,hlc,dh,dg,↓je,fP,h71,↓hac,↓hao,e0,e1,e2,e3,e4,h0,h1,h2,h3,↓cbT,↓cbF,↓ao,an,eu,sevalprocAttr]
theorem Tw {H:AH} {cs:List Cod} {m:List (List Int)} {vc vm:AV} (hc:dk H cs vc) (hm:dZ H m vm) {x:Itm} {va:AV} (ha:SlS 32 1 H va (x.args.map dw)) (hi32:∀ a∈x.args,e9 a) (hk:x.kind=3):Ev aa C0 W0 39 [vc,vm,.agg (aL x va)] H=some (.bool (nx x && eqB x.src 0 && eqB x.dst 0 && eqB x.word 0 && leB 0 x.ev && leB x.ev 15),H):=by
 obtain ⟨tm,ht,g0,g1,g2,g3⟩:=tm3 vc vm (.agg (aL x va)) 162 (by decide)
 rw [HN,ht]
 rw [<-af (ro H)]
 obtain ⟨kind,code,grid,block,src,dst,ev,args,word⟩:=x
 simp only at ha hk hi32 ⊢
 have hla:=kI ha.ro
 have hlc:=hc.ro.len
 have hlm:=hm.ro.len
 have hac:=ha.cells
 have hao:=ha.one
 have h71:=fun L=>HY (x:=⟨kind,code,grid,block,src,dst,ev,args,word⟩) (ha.ro.app L)
 simp only [aL] at h71
 simp (maxSteps:=4000000) -implicitDefEqProofs only [c39,Tryz.f39,aP,g0,g1,g2,g3,aL,r5,↓az,ed,fV,st3,hlm,↓hac,↓hao,↓cbT,↓cbF,↓ao,an,eu,sevalprocAttr]
 generalize hR:EvC aa C0 W0 _ (Code.region _ _ _) _=R
 obtain ⟨t,he,hlen,t8,t9,t0,t1,t5⟩:=nP (m:=m) hac hao hR (by simp only [ls,g0]) (by simp only [g0,gB,sevalprocAttr]) (by simp only [g0,gB,sevalprocAttr])
 subst he
 simp only [g0,g1,g2,g3,gB,sevalprocAttr] at t0 t1 t5
 subst hk
 have e0:eqB 3 0=false:=rfl
 have e1:eqB 3 1=false:=rfl
 have e2:eqB 3 2=false:=rfl
 have e3:eqB 3 3=true:=rfl
 have e4:eqB 3 4=false:=rfl
 cases h0:nx ⟨3,code,grid,block,src,dst,ev,args,word⟩ with
 | false=>simp (maxSteps:=4000000) -implicitDefEqProofs only [aP,hlen,t0,t1,t5,t8,t9,aL,r5,↓az,hla,hlc,dh,dg,↓je,fP,h71,↓hac,↓hao,e0,e1,e2,e3,e4,h0,↓cbT,↓cbF,↓ao,an,eu,sevalprocAttr]
 | true =>
   cases h1:eqB src 0 with
   | false=>simp (maxSteps:=4000000) -implicitDefEqProofs only [aP,hlen,t0,t1,t5,t8,t9,aL,r5,↓az,hla,hlc,dh,dg,↓je,fP,h71,↓hac,↓hao,e0,e1,e2,e3,e4,h0,h1,↓cbT,↓cbF,↓ao,an,eu,sevalprocAttr]
   | true =>
     cases h2:eqB dst 0 with
     | false=>simp (maxSteps:=4000000) -implicitDefEqProofs only [aP,hlen,t0,t1,t5,t8,t9,aL,r5,↓az,hla,hlc,dh,dg,↓je,fP,h71,↓hac,↓hao,e0,e1,e2,e3,e4,h0,h1,h2,↓cbT,↓cbF,↓ao,an,eu,sevalprocAttr]
     | true =>
       cases h3:eqB word 0 with
       | false=>simp (maxSteps:=4000000) -implicitDefEqProofs only [aP,hlen,t0,t1,t5,t8,t9,aL,r5,↓az,hla,hlc,dh,dg,↓je,fP,h71,↓hac,↓hao,e0,e1,e2,e3,e4,h0,h1,h2,h3,↓cbT,↓cbF,↓ao,an,eu,sevalprocAttr]
       | true =>
         cases h4:leB 0 ev with
         | false=>simp (maxSteps:=4000000) -implicitDefEqProofs only [aP,hlen,t0,t1,t5,t8,t9,aL,r5,↓az,hla,hlc,dh,dg,↓je,fP,h71,↓hac,↓hao,e0,e1,e2,e3,e4,h0,h1,h2,h3,h4,↓cbT,↓cbF,↓ao,an,eu,sevalprocAttr]
         | true =>
           cases h5:leB ev 15 with
           | false=>simp (maxSteps:=4000000) -implicitDefEqProofs only [aP,hlen,t0,t1,t5,t8,t9,aL,r5,↓az,hla,hlc,dh,dg,↓je,fP,h71,↓hac,↓hao,e0,e1,e2,e3,e4,h0,h1,h2,h3,h4,h5,↓cbT,↓cbF,↓ao,an,eu,sevalprocAttr]
           | true =>
             simp (maxSteps:=4000000) -implicitDefEqProofs only [aP,hlen,t0,t1,t5,t8,t9,aL,r5,↓az,hla,hlc,dh,dg,↓je,fP,h71,↓hac,↓hao,e0,e1,e2,e3,e4,h0,h1,h2,h3,h4,h5,↓cbT,↓cbF,↓ao,an,eu,sevalprocAttr]
theorem Tv {H:AH} {cs:List Cod} {m:List (List Int)} {vc vm:AV} (hc:dk H cs vc) (hm:dZ H m vm) {x:Itm} {va:AV} (ha:SlS 32 1 H va (x.args.map dw)) (hi32:∀ a∈x.args,e9 a) (hk:x.kind=4):Ev aa C0 W0 39 [vc,vm,.agg (aL x va)] H=some (.bool (nx x && eqB x.src 0 && eqB x.dst 0 && eqB x.word 0 && leB 0 x.ev && leB x.ev 15),H):=by
 obtain ⟨tm,ht,g0,g1,g2,g3⟩:=tm3 vc vm (.agg (aL x va)) 162 (by decide)
 rw [HN,ht]
 rw [<-af (ro H)]
 obtain ⟨kind,code,grid,block,src,dst,ev,args,word⟩:=x
 simp only at ha hk hi32 ⊢
 have hla:=kI ha.ro
 have hlc:=hc.ro.len
 have hlm:=hm.ro.len
 have hac:=ha.cells
 have hao:=ha.one
 have h71:=fun L=>HY (x:=⟨kind,code,grid,block,src,dst,ev,args,word⟩) (ha.ro.app L)
 simp only [aL] at h71
 simp (maxSteps:=4000000) -implicitDefEqProofs only [c39,Tryz.f39,aP,g0,g1,g2,g3,aL,r5,↓az,ed,fV,st3,hlm,↓hac,↓hao,↓cbT,↓cbF,↓ao,an,eu,sevalprocAttr]
 generalize hR:EvC aa C0 W0 _ (Code.region _ _ _) _=R
 obtain ⟨t,he,hlen,t8,t9,t0,t1,t5⟩:=nP (m:=m) hac hao hR (by simp only [ls,g0]) (by simp only [g0,gB,sevalprocAttr]) (by simp only [g0,gB,sevalprocAttr])
 subst he
 simp only [g0,g1,g2,g3,gB,sevalprocAttr] at t0 t1 t5
 subst hk
 have e0:eqB 4 0=false:=rfl
 have e1:eqB 4 1=false:=rfl
 have e2:eqB 4 2=false:=rfl
 have e3:eqB 4 3=false:=rfl
 have e4:eqB 4 4=true:=rfl
 cases h0:nx ⟨4,code,grid,block,src,dst,ev,args,word⟩ with
 | false=>simp (maxSteps:=4000000) -implicitDefEqProofs only [aP,hlen,t0,t1,t5,t8,t9,aL,r5,↓az,hla,hlc,dh,dg,↓je,fP,h71,↓hac,↓hao,e0,e1,e2,e3,e4,h0,↓cbT,↓cbF,↓ao,an,eu,sevalprocAttr]
 | true =>
   cases h1:eqB src 0 with
   | false=>simp (maxSteps:=4000000) -implicitDefEqProofs only [aP,hlen,t0,t1,t5,t8,t9,aL,r5,↓az,hla,hlc,dh,dg,↓je,fP,h71,↓hac,↓hao,e0,e1,e2,e3,e4,h0,h1,↓cbT,↓cbF,↓ao,an,eu,sevalprocAttr]
   | true =>
     cases h2:eqB dst 0 with
     | false=>simp (maxSteps:=4000000) -implicitDefEqProofs only [aP,hlen,t0,t1,t5,t8,t9,aL,r5,↓az,hla,hlc,dh,dg,↓je,fP,h71,↓hac,↓hao,e0,e1,e2,e3,e4,h0,h1,h2,↓cbT,↓cbF,↓ao,an,eu,sevalprocAttr]
     | true =>
       cases h3:eqB word 0 with
       | false=>simp (maxSteps:=4000000) -implicitDefEqProofs only [aP,hlen,t0,t1,t5,t8,t9,aL,r5,↓az,hla,hlc,dh,dg,↓je,fP,h71,↓hac,↓hao,e0,e1,e2,e3,e4,h0,h1,h2,h3,↓cbT,↓cbF,↓ao,an,eu,sevalprocAttr]
       | true =>
         cases h4:leB 0 ev with
         | false=>simp (maxSteps:=4000000) -implicitDefEqProofs only [aP,hlen,t0,t1,t5,t8,t9,aL,r5,↓az,hla,hlc,dh,dg,↓je,fP,h71,↓hac,↓hao,e0,e1,e2,e3,e4,h0,h1,h2,h3,h4,↓cbT,↓cbF,↓ao,an,eu,sevalprocAttr]
         | true =>
           cases h5:leB ev 15 with
           | false=>simp (maxSteps:=4000000) -implicitDefEqProofs only [aP,hlen,t0,t1,t5,t8,t9,aL,r5,↓az,hla,hlc,dh,dg,↓je,fP,h71,↓hac,↓hao,e0,e1,e2,e3,e4,h0,h1,h2,h3,h4,h5,↓cbT,↓cbF,↓ao,an,eu,sevalprocAttr]
           | true =>
             simp (maxSteps:=4000000) -implicitDefEqProofs only [aP,hlen,t0,t1,t5,t8,t9,aL,r5,↓az,hla,hlc,dh,dg,↓je,fP,h71,↓hac,↓hao,e0,e1,e2,e3,e4,h0,h1,h2,h3,h4,h5,↓cbT,↓cbF,↓ao,an,eu,sevalprocAttr]
theorem Hn {H:AH} {cs:List Cod} {m:List (List Int)} {vc vm:AV} (hc:dk H cs vc) (hm:dZ H m vm) {x:Itm} {va:AV} (ha:SlS 32 1 H va (x.args.map dw)) (hi32:∀ a∈x.args,e9 a) (hk:eqB x.kind 0=false/\eqB x.kind 1=false/\eqB x.kind 2=false/\eqB x.kind 3=false/\eqB x.kind 4=false):Ev aa C0 W0 39 [vc,vm,.agg (aL x va)] H=some (.bool (false),H):=by
 obtain ⟨tm,ht,g0,g1,g2,g3⟩:=tm3 vc vm (.agg (aL x va)) 162 (by decide)
 rw [HN,ht]
 rw [<-af (ro H)]
 obtain ⟨kind,code,grid,block,src,dst,ev,args,word⟩:=x
 simp only at ha hk hi32 ⊢
 have hla:=kI ha.ro
 have hlc:=hc.ro.len
 have hlm:=hm.ro.len
 have hac:=ha.cells
 have hao:=ha.one
 have h71:=fun L=>HY (x:=⟨kind,code,grid,block,src,dst,ev,args,word⟩) (ha.ro.app L)
 simp only [aL] at h71
 simp (maxSteps:=4000000) -implicitDefEqProofs only [c39,Tryz.f39,aP,g0,g1,g2,g3,aL,r5,↓az,ed,fV,st3,hlm,↓hac,↓hao,↓cbT,↓cbF,↓ao,an,eu,sevalprocAttr]
 generalize hR:EvC aa C0 W0 _ (Code.region _ _ _) _=R
 obtain ⟨t,he,hlen,t8,t9,t0,t1,t5⟩:=nP (m:=m) hac hao hR (by simp only [ls,g0]) (by simp only [g0,gB,sevalprocAttr]) (by simp only [g0,gB,sevalprocAttr])
 subst he
 simp only [g0,g1,g2,g3,gB,sevalprocAttr] at t0 t1 t5
 simp (maxSteps:=4000000) -implicitDefEqProofs only [aP,hlen,t0,t1,t5,t8,t9,aL,r5,↓az,hla,hlc,dh,dg,↓je,fP,h71,↓hac,↓hao,hk.1,hk.2.1,hk.2.2.1,hk.2.2.2.1,hk.2.2.2.2,↓cbT,↓cbF,↓ao,an,eu,sevalprocAttr]
theorem acZ {H:AH} {cs:List Cod} {m:List (List Int)} {vc vm:AV} (hc:dk H cs vc) (hm:dZ H m vm) {x:Itm} {va:AV} (ha:SlS 32 1 H va (x.args.map dw)) (hi32:∀ a∈x.args,e9 a):Ev aa C0 W0 39 [vc,vm,.agg (aL x va)] H=some (.bool (b6 cs m x),H):=by
 unfold b6
 cases k0:eqB x.kind 0 with
 | true =>
   rw [Tz hc hm ha hi32 ((cU _ _).1 k0)]
   refine congrArg (fun b=>some (AV.bool b,H)) ?_
   simp only [dO]; ac_rfl
 | false =>
   cases k1:eqB x.kind 1 with
   | true =>
     rw [Ty hc hm ha hi32 ((cU _ _).1 k1)]
     refine congrArg (fun b=>some (AV.bool b,H)) ?_
     unfold nx
     simp only [dO,ct]; ac_rfl
   | false =>
     cases k2:eqB x.kind 2 with
     | true =>
       rw [Tx hc hm ha hi32 ((cU _ _).1 k2)]
       refine congrArg (fun b=>some (AV.bool b,H)) ?_
       unfold nx
       simp only [dO,ct]; ac_rfl
     | false =>
       cases k3:eqB x.kind 3 with
       | true =>
         rw [Tw hc hm ha hi32 ((cU _ _).1 k3),show leB x.ev 15=ltB x.ev 16 from (AT x.ev 15).symm]
         refine congrArg (fun b=>some (AV.bool b,H)) ?_
         unfold nx
         simp only [dO,ct,Bool.true_or]; ac_rfl
       | false =>
         cases k4:eqB x.kind 4 with
         | true =>
           rw [Tv hc hm ha hi32 ((cU _ _).1 k4),show leB x.ev 15=ltB x.ev 16 from (AT x.ev 15).symm]
           refine congrArg (fun b=>some (AV.bool b,H)) ?_
           unfold nx
           simp only [dO,ct,Bool.or_true]; ac_rfl
         | false=>exact Hn hc hm ha hi32 ⟨k0,k1,k2,k3,k4⟩
end Go.Dv
