/- Part 24 of the walks (own work). -/
import Derived.Test.YtilpjnckfkjkbaaGreatDoorS23
open Bool renaming and_true→fH,false_and→bd,true_and→aZ
open List renaming append_nil→af
open Option renaming bind_some→ay
open Go.Proofs.Tryz renaming prog→aa
set_option maxRecDepth 100000
set_option maxHeartbeats 4000000
set_option linter.unusedSimpArgs false
set_option linter.unusedVariables false
namespace Go.Dv
open Go.Proofs
attribute [local congr] aH bP bj bO bQ
theorem Gd {H:AH} {m:List (List Int)} {vc vm:AV} (hm:dc H m vm) {x:Itm} {va:AV} (ha:SlS 32 1 H va (x.args.map dh)) (hk:x.kind=3):Ev aa C0 W0 62 [vc,vm,.agg (aU x va)] H=some (.bool (leB 0 x.ev && ltB x.ev 16 && eqB x.args.length 0 && eqB x.code 0 && eqB x.grid 0 && eqB x.block 0 && eqB x.src 0 && eqB x.dst 0 && eqB x.word 0),H):=by
 obtain ⟨tm,ht,g0,g1,g2,g3⟩:=tm3 vc vm (.agg (aU x va)) 181 (by decide)
 rw [GH,ht]
 rw [<-af (ro H)]
 obtain ⟨kind,code,grid,block,src,dst,ev,args,word⟩:=x
 simp only at ha hk ⊢
 subst hk
 have hla:=kn ha.ro
 have hlm:=hm.ro.len
 obtain ⟨hvc,hvo⟩:=hm.vc
 have hac:=ha.cells
 have hao:=ha.one
 have h90:∀ L n,Ev aa C0 W0 90 [I n,.ptr (ro H).length 0] (ro H++(bo.cells [vm] 24::L))=some (.bool (inB m n),ro H++(bo.cells [vm] 24::L)):=fun L n=>GU (hm.ro.aX (al.app _ _)) (by rw [gu]; rfl) n
 have e0:eqB 3 0=false:=rfl
 have e1:eqB 3 1=false:=rfl
 have e2:eqB 3 2=false:=rfl
 have e3:eqB 3 3=true:=rfl
 have e4:eqB 3 4=false:=rfl
 cases h0:leB 0 ev with
 | false=>simp (maxSteps:=4000000) -implicitDefEqProofs only [c62,Tryz.f62,aP,g0,g1,g2,g3,aU,st3,fB,fE,↓hvc,↓hvo,↓hac,↓hao,gY,fX,d7,hla,hlm,h90,bw,cj,bN,↓aO,Tryz.func90,show Tryz.f90.body.isSome=true from rfl,↓gV,↓gU,r5,↓az,e0,e1,e2,e3,e4,h0,↓ao,an,eu,sevalprocAttr]
 | true =>
   cases h1:ltB ev 16 with
   | false=>simp (maxSteps:=4000000) -implicitDefEqProofs only [c62,Tryz.f62,aP,g0,g1,g2,g3,aU,st3,fB,fE,↓hvc,↓hvo,↓hac,↓hao,gY,fX,d7,hla,hlm,h90,bw,cj,bN,↓aO,Tryz.func90,show Tryz.f90.body.isSome=true from rfl,↓gV,↓gU,r5,↓az,e0,e1,e2,e3,e4,h0,h1,↓ao,an,eu,sevalprocAttr]
   | true =>
     cases h2:eqB (args.length:Int) 0 with
     | false=>simp (maxSteps:=4000000) -implicitDefEqProofs only [c62,Tryz.f62,aP,g0,g1,g2,g3,aU,st3,fB,fE,↓hvc,↓hvo,↓hac,↓hao,gY,fX,d7,hla,hlm,h90,bw,cj,bN,↓aO,Tryz.func90,show Tryz.f90.body.isSome=true from rfl,↓gV,↓gU,r5,↓az,e0,e1,e2,e3,e4,h0,h1,h2,↓ao,an,eu,sevalprocAttr]
     | true =>
       cases h3:eqB code 0 with
       | false=>simp (maxSteps:=4000000) -implicitDefEqProofs only [c62,Tryz.f62,aP,g0,g1,g2,g3,aU,st3,fB,fE,↓hvc,↓hvo,↓hac,↓hao,gY,fX,d7,hla,hlm,h90,bw,cj,bN,↓aO,Tryz.func90,show Tryz.f90.body.isSome=true from rfl,↓gV,↓gU,r5,↓az,e0,e1,e2,e3,e4,h0,h1,h2,h3,↓ao,an,eu,sevalprocAttr]
       | true =>
         cases h4:eqB grid 0 with
         | false=>simp (maxSteps:=4000000) -implicitDefEqProofs only [c62,Tryz.f62,aP,g0,g1,g2,g3,aU,st3,fB,fE,↓hvc,↓hvo,↓hac,↓hao,gY,fX,d7,hla,hlm,h90,bw,cj,bN,↓aO,Tryz.func90,show Tryz.f90.body.isSome=true from rfl,↓gV,↓gU,r5,↓az,e0,e1,e2,e3,e4,h0,h1,h2,h3,h4,↓ao,an,eu,sevalprocAttr]
         | true =>
           cases h5:eqB block 0 with
           | false=>simp (maxSteps:=4000000) -implicitDefEqProofs only [c62,Tryz.f62,aP,g0,g1,g2,g3,aU,st3,fB,fE,↓hvc,↓hvo,↓hac,↓hao,gY,fX,d7,hla,hlm,h90,bw,cj,bN,↓aO,Tryz.func90,show Tryz.f90.body.isSome=true from rfl,↓gV,↓gU,r5,↓az,e0,e1,e2,e3,e4,h0,h1,h2,h3,h4,h5,↓ao,an,eu,sevalprocAttr]
           | true =>
             cases h6:eqB src 0 with
             | false=>simp (maxSteps:=4000000) -implicitDefEqProofs only [c62,Tryz.f62,aP,g0,g1,g2,g3,aU,st3,fB,fE,↓hvc,↓hvo,↓hac,↓hao,gY,fX,d7,hla,hlm,h90,bw,cj,bN,↓aO,Tryz.func90,show Tryz.f90.body.isSome=true from rfl,↓gV,↓gU,r5,↓az,e0,e1,e2,e3,e4,h0,h1,h2,h3,h4,h5,h6,↓ao,an,eu,sevalprocAttr]
             | true =>
               cases h7:eqB dst 0 with
               | false=>simp (maxSteps:=4000000) -implicitDefEqProofs only [c62,Tryz.f62,aP,g0,g1,g2,g3,aU,st3,fB,fE,↓hvc,↓hvo,↓hac,↓hao,gY,fX,d7,hla,hlm,h90,bw,cj,bN,↓aO,Tryz.func90,show Tryz.f90.body.isSome=true from rfl,↓gV,↓gU,r5,↓az,e0,e1,e2,e3,e4,h0,h1,h2,h3,h4,h5,h6,h7,↓ao,an,eu,sevalprocAttr]
               | true =>
                 cases h8:eqB word 0 with
                 | false=>simp (maxSteps:=4000000) -implicitDefEqProofs only [c62,Tryz.f62,aP,g0,g1,g2,g3,aU,st3,fB,fE,↓hvc,↓hvo,↓hac,↓hao,gY,fX,d7,hla,hlm,h90,bw,cj,bN,↓aO,Tryz.func90,show Tryz.f90.body.isSome=true from rfl,↓gV,↓gU,r5,↓az,e0,e1,e2,e3,e4,h0,h1,h2,h3,h4,h5,h6,h7,h8,↓ao,an,eu,sevalprocAttr]
                 | true =>
                   simp (maxSteps:=4000000) -implicitDefEqProofs only [c62,Tryz.f62,aP,g0,g1,g2,g3,aU,st3,fB,fE,↓hvc,↓hvo,↓hac,↓hao,gY,fX,d7,hla,hlm,h90,bw,cj,bN,↓aO,Tryz.func90,show Tryz.f90.body.isSome=true from rfl,↓gV,↓gU,r5,↓az,e0,e1,e2,e3,e4,h0,h1,h2,h3,h4,h5,h6,h7,h8,↓ao,an,eu,sevalprocAttr]
theorem Gc {H:AH} {m:List (List Int)} {vc vm:AV} (hm:dc H m vm) {x:Itm} {va:AV} (ha:SlS 32 1 H va (x.args.map dh)) (hk:x.kind=4):Ev aa C0 W0 62 [vc,vm,.agg (aU x va)] H=some (.bool (leB 0 x.ev && ltB x.ev 16 && eqB x.args.length 0 && eqB x.code 0 && eqB x.grid 0 && eqB x.block 0 && eqB x.src 0 && eqB x.dst 0 && eqB x.word 0),H):=by
 obtain ⟨tm,ht,g0,g1,g2,g3⟩:=tm3 vc vm (.agg (aU x va)) 181 (by decide)
 rw [GH,ht]
 rw [<-af (ro H)]
 obtain ⟨kind,code,grid,block,src,dst,ev,args,word⟩:=x
 simp only at ha hk ⊢
 subst hk
 have hla:=kn ha.ro
 have hlm:=hm.ro.len
 obtain ⟨hvc,hvo⟩:=hm.vc
 have hac:=ha.cells
 have hao:=ha.one
 have h90:∀ L n,Ev aa C0 W0 90 [I n,.ptr (ro H).length 0] (ro H++(bo.cells [vm] 24::L))=some (.bool (inB m n),ro H++(bo.cells [vm] 24::L)):=fun L n=>GU (hm.ro.aX (al.app _ _)) (by rw [gu]; rfl) n
 have e0:eqB 4 0=false:=rfl
 have e1:eqB 4 1=false:=rfl
 have e2:eqB 4 2=false:=rfl
 have e3:eqB 4 3=false:=rfl
 have e4:eqB 4 4=true:=rfl
 cases h0:leB 0 ev with
 | false=>simp (maxSteps:=4000000) -implicitDefEqProofs only [c62,Tryz.f62,aP,g0,g1,g2,g3,aU,st3,fB,fE,↓hvc,↓hvo,↓hac,↓hao,gY,fX,d7,hla,hlm,h90,bw,cj,bN,↓aO,Tryz.func90,show Tryz.f90.body.isSome=true from rfl,↓gV,↓gU,r5,↓az,e0,e1,e2,e3,e4,h0,↓ao,an,eu,sevalprocAttr]
 | true =>
   cases h1:ltB ev 16 with
   | false=>simp (maxSteps:=4000000) -implicitDefEqProofs only [c62,Tryz.f62,aP,g0,g1,g2,g3,aU,st3,fB,fE,↓hvc,↓hvo,↓hac,↓hao,gY,fX,d7,hla,hlm,h90,bw,cj,bN,↓aO,Tryz.func90,show Tryz.f90.body.isSome=true from rfl,↓gV,↓gU,r5,↓az,e0,e1,e2,e3,e4,h0,h1,↓ao,an,eu,sevalprocAttr]
   | true =>
     cases h2:eqB (args.length:Int) 0 with
     | false=>simp (maxSteps:=4000000) -implicitDefEqProofs only [c62,Tryz.f62,aP,g0,g1,g2,g3,aU,st3,fB,fE,↓hvc,↓hvo,↓hac,↓hao,gY,fX,d7,hla,hlm,h90,bw,cj,bN,↓aO,Tryz.func90,show Tryz.f90.body.isSome=true from rfl,↓gV,↓gU,r5,↓az,e0,e1,e2,e3,e4,h0,h1,h2,↓ao,an,eu,sevalprocAttr]
     | true =>
       cases h3:eqB code 0 with
       | false=>simp (maxSteps:=4000000) -implicitDefEqProofs only [c62,Tryz.f62,aP,g0,g1,g2,g3,aU,st3,fB,fE,↓hvc,↓hvo,↓hac,↓hao,gY,fX,d7,hla,hlm,h90,bw,cj,bN,↓aO,Tryz.func90,show Tryz.f90.body.isSome=true from rfl,↓gV,↓gU,r5,↓az,e0,e1,e2,e3,e4,h0,h1,h2,h3,↓ao,an,eu,sevalprocAttr]
       | true =>
         cases h4:eqB grid 0 with
         | false=>simp (maxSteps:=4000000) -implicitDefEqProofs only [c62,Tryz.f62,aP,g0,g1,g2,g3,aU,st3,fB,fE,↓hvc,↓hvo,↓hac,↓hao,gY,fX,d7,hla,hlm,h90,bw,cj,bN,↓aO,Tryz.func90,show Tryz.f90.body.isSome=true from rfl,↓gV,↓gU,r5,↓az,e0,e1,e2,e3,e4,h0,h1,h2,h3,h4,↓ao,an,eu,sevalprocAttr]
         | true =>
           cases h5:eqB block 0 with
           | false=>simp (maxSteps:=4000000) -implicitDefEqProofs only [c62,Tryz.f62,aP,g0,g1,g2,g3,aU,st3,fB,fE,↓hvc,↓hvo,↓hac,↓hao,gY,fX,d7,hla,hlm,h90,bw,cj,bN,↓aO,Tryz.func90,show Tryz.f90.body.isSome=true from rfl,↓gV,↓gU,r5,↓az,e0,e1,e2,e3,e4,h0,h1,h2,h3,h4,h5,↓ao,an,eu,sevalprocAttr]
           | true =>
             cases h6:eqB src 0 with
             | false=>simp (maxSteps:=4000000) -implicitDefEqProofs only [c62,Tryz.f62,aP,g0,g1,g2,g3,aU,st3,fB,fE,↓hvc,↓hvo,↓hac,↓hao,gY,fX,d7,hla,hlm,h90,bw,cj,bN,↓aO,Tryz.func90,show Tryz.f90.body.isSome=true from rfl,↓gV,↓gU,r5,↓az,e0,e1,e2,e3,e4,h0,h1,h2,h3,h4,h5,h6,↓ao,an,eu,sevalprocAttr]
             | true =>
               cases h7:eqB dst 0 with
               | false=>simp (maxSteps:=4000000) -implicitDefEqProofs only [c62,Tryz.f62,aP,g0,g1,g2,g3,aU,st3,fB,fE,↓hvc,↓hvo,↓hac,↓hao,gY,fX,d7,hla,hlm,h90,bw,cj,bN,↓aO,Tryz.func90,show Tryz.f90.body.isSome=true from rfl,↓gV,↓gU,r5,↓az,e0,e1,e2,e3,e4,h0,h1,h2,h3,h4,h5,h6,h7,↓ao,an,eu,sevalprocAttr]
               | true =>
                 cases h8:eqB word 0 with
                 | false=>simp (maxSteps:=4000000) -implicitDefEqProofs only [c62,Tryz.f62,aP,g0,g1,g2,g3,aU,st3,fB,fE,↓hvc,↓hvo,↓hac,↓hao,gY,fX,d7,hla,hlm,h90,bw,cj,bN,↓aO,Tryz.func90,show Tryz.f90.body.isSome=true from rfl,↓gV,↓gU,r5,↓az,e0,e1,e2,e3,e4,h0,h1,h2,h3,h4,h5,h6,h7,h8,↓ao,an,eu,sevalprocAttr]
                 | true =>
                   simp (maxSteps:=4000000) -implicitDefEqProofs only [c62,Tryz.f62,aP,g0,g1,g2,g3,aU,st3,fB,fE,↓hvc,↓hvo,↓hac,↓hao,gY,fX,d7,hla,hlm,h90,bw,cj,bN,↓aO,Tryz.func90,show Tryz.f90.body.isSome=true from rfl,↓gV,↓gU,r5,↓az,e0,e1,e2,e3,e4,h0,h1,h2,h3,h4,h5,h6,h7,h8,↓ao,an,eu,sevalprocAttr]
theorem C6 {H:AH} {m:List (List Int)} {vc vm:AV} (hm:dc H m vm) {x:Itm} {va:AV} (ha:SlS 32 1 H va (x.args.map dh)) (k0:eqB x.kind 0=false) (k1:eqB x.kind 1=false) (k2:eqB x.kind 2=false) (k3:eqB x.kind 3=false) (k4:eqB x.kind 4=false):Ev aa C0 W0 62 [vc,vm,.agg (aU x va)] H=some (.bool (false),H):=by
 obtain ⟨tm,ht,g0,g1,g2,g3⟩:=tm3 vc vm (.agg (aU x va)) 181 (by decide)
 rw [GH,ht]
 rw [<-af (ro H)]
 obtain ⟨kind,code,grid,block,src,dst,ev,args,word⟩:=x
 simp only at ha k0 k1 k2 k3 k4 ⊢
 have hla:=kn ha.ro
 have hlm:=hm.ro.len
 obtain ⟨hvc,hvo⟩:=hm.vc
 have hac:=ha.cells
 have hao:=ha.one
 have h90:∀ L n,Ev aa C0 W0 90 [I n,.ptr (ro H).length 0] (ro H++(bo.cells [vm] 24::L))=some (.bool (inB m n),ro H++(bo.cells [vm] 24::L)):=fun L n=>GU (hm.ro.aX (al.app _ _)) (by rw [gu]; rfl) n
 simp (maxSteps:=4000000) -implicitDefEqProofs only [c62,Tryz.f62,aP,g0,g1,g2,g3,aU,st3,fB,fE,↓hvc,↓hvo,↓hac,↓hao,gY,fX,d7,hla,hlm,h90,bw,cj,bN,↓aO,Tryz.func90,show Tryz.f90.body.isSome=true from rfl,↓gV,↓gU,r5,↓az,k0,k1,k2,k3,k4,↓ao,an,eu,sevalprocAttr]
noncomputable def My:Code:=aQ [false] (Tryz.f62.body.getD .skip)
noncomputable def Mx:Code:=aQ [true,false] (Tryz.f62.body.getD .skip)
noncomputable def Mw:Code:=aQ [true,true,false] (Tryz.f62.body.getD .skip)
noncomputable def Mv:Code:=aQ [true,true,true,false] (Tryz.f62.body.getD .skip)
noncomputable def Mu:Code:=aQ [true,true,true,true,false] (Tryz.f62.body.getD .skip)
noncomputable def T62:Code:=aQ [true,true,true,true,true] (Tryz.f62.body.getD .skip)
theorem L6:c62=.seq My (.seq Mx (.seq Mw (.seq Mv (.seq Mu T62)))):=by kernel_rfl
theorem Q1 {tm:List AV} {G:AH} {vm va:AV} (hac:va.cells=[va]) (hao:va.one=true) {k c g b s d e w c2 g2 b2 s2 d2 e2 w2:Int} {ok:Bool} (hlen:tm.length=181) (h5:tm.getD 5 uA=.ptr (G.length+1) 0) (h8:tm.getD 8 uA=.ptr (G.length+2) 0) (h9:tm.getD 9 uA=.bool ok) :
   ∃ tm' K',EvC aa C0 W0 o4 T62 (tm,G++[.cells [vm] 24,.cells [I k,I c,I g,I b,I s,I d,I e,va,.int .i32 w] 34,.cells [I k,I c2,I g2,I b2,I s2,I d2,I e2,.nilSlice,.int .i32 w2] 34])=some (.ret,(tm',K'))/\tm'.length=181/\tm'.getD 6 uA=.bool (ok && eqB c c2 && eqB g g2 && eqB b b2 && eqB s s2 && eqB d d2 && eqB e e2 && eqB w w2):=by
 cases ok with
 | false =>
   simp (maxSteps:=4000000) -implicitDefEqProofs only [T62,Tryz.f62,aP,hlen,h5,h8,h9,fB,fE,↓hac,↓hao,r5,↓az,↓ao,an,eu,sevalprocAttr]
   exact ⟨_,_,rfl,by simp only [ls,hlen],by simp only [hlen,gB,sevalprocAttr]⟩
 | true =>
   cases q0:eqB c c2 with
   | false =>
     simp (maxSteps:=4000000) -implicitDefEqProofs only [T62,Tryz.f62,aP,hlen,h5,h8,h9,fB,fE,↓hac,↓hao,r5,↓az,q0,↓ao,an,eu,sevalprocAttr]
     exact ⟨_,_,rfl,by simp only [ls,hlen],by simp only [hlen,gB,sevalprocAttr]⟩
   | true =>
     cases q1:eqB g g2 with
     | false =>
       simp (maxSteps:=4000000) -implicitDefEqProofs only [T62,Tryz.f62,aP,hlen,h5,h8,h9,fB,fE,↓hac,↓hao,r5,↓az,q0,q1,↓ao,an,eu,sevalprocAttr]
       exact ⟨_,_,rfl,by simp only [ls,hlen],by simp only [hlen,gB,sevalprocAttr]⟩
     | true =>
       cases q2:eqB b b2 with
       | false =>
         simp (maxSteps:=4000000) -implicitDefEqProofs only [T62,Tryz.f62,aP,hlen,h5,h8,h9,fB,fE,↓hac,↓hao,r5,↓az,q0,q1,q2,↓ao,an,eu,sevalprocAttr]
         exact ⟨_,_,rfl,by simp only [ls,hlen],by simp only [hlen,gB,sevalprocAttr]⟩
       | true =>
         cases q3:eqB s s2 with
         | false =>
           simp (maxSteps:=4000000) -implicitDefEqProofs only [T62,Tryz.f62,aP,hlen,h5,h8,h9,fB,fE,↓hac,↓hao,r5,↓az,q0,q1,q2,q3,↓ao,an,eu,sevalprocAttr]
           exact ⟨_,_,rfl,by simp only [ls,hlen],by simp only [hlen,gB,sevalprocAttr]⟩
         | true =>
           cases q4:eqB d d2 with
           | false =>
             simp (maxSteps:=4000000) -implicitDefEqProofs only [T62,Tryz.f62,aP,hlen,h5,h8,h9,fB,fE,↓hac,↓hao,r5,↓az,q0,q1,q2,q3,q4,↓ao,an,eu,sevalprocAttr]
             exact ⟨_,_,rfl,by simp only [ls,hlen],by simp only [hlen,gB,sevalprocAttr]⟩
           | true =>
             cases q5:eqB e e2 with
             | false =>
               simp (maxSteps:=4000000) -implicitDefEqProofs only [T62,Tryz.f62,aP,hlen,h5,h8,h9,fB,fE,↓hac,↓hao,r5,↓az,q0,q1,q2,q3,q4,q5,↓ao,an,eu,sevalprocAttr]
               exact ⟨_,_,rfl,by simp only [ls,hlen],by simp only [hlen,gB,sevalprocAttr]⟩
             | true =>
               cases q6:eqB w w2 with
               | false =>
                 simp (maxSteps:=4000000) -implicitDefEqProofs only [T62,Tryz.f62,aP,hlen,h5,h8,h9,fB,fE,↓hac,↓hao,r5,↓az,q0,q1,q2,q3,q4,q5,q6,↓ao,an,eu,sevalprocAttr]
                 exact ⟨_,_,rfl,by simp only [ls,hlen],by simp only [hlen,gB,sevalprocAttr]⟩
               | true =>
                 simp (maxSteps:=4000000) -implicitDefEqProofs only [T62,Tryz.f62,aP,hlen,h5,h8,h9,fB,fE,↓hac,↓hao,r5,↓az,q0,q1,q2,q3,q4,q5,q6,↓ao,an,eu,sevalprocAttr]
                 exact ⟨_,_,rfl,by simp only [ls,hlen],by simp only [hlen,gB,sevalprocAttr]⟩
theorem lI {tm:List AV} {G:AH} {vm va:AV} (hac:va.cells=[va]) (hao:va.one=true) {k c g b s d e w c2 g2 b2 s2 d2 e2 w2:Int} {ok:Bool} {Z:Option (bu × St)} (hZ:EvC aa C0 W0 o4 T62 (tm,G++[.cells [vm] 24,.cells [I k,I c,I g,I b,I s,I d,I e,va,.int .i32 w] 34,.cells [I k,I c2,I g2,I b2,I s2,I d2,I e2,.nilSlice,.int .i32 w2] 34])=Z) (hlen:tm.length=181) (h5:tm.getD 5 uA=.ptr (G.length+1) 0) (h8:tm.getD 8 uA=.ptr (G.length+2) 0) (h9:tm.getD 9 uA=.bool ok) :
   ∃ tm' K',Z=some (.ret,(tm',K'))/\tm'.length=181/\tm'.getD 6 uA=.bool (ok && eqB c c2 && eqB g g2 && eqB b b2 && eqB s s2 && eqB d d2 && eqB e e2 && eqB w w2):=by
 subst hZ
 exact Q1 hac hao hlen h5 h8 h9
theorem C8 {H:AH} {m:List (List Int)} {vc vm:AV} (hm:dc H m vm) {x:Itm} {va:AV} (ha:SlS 32 1 H va (x.args.map dh)) (hk:x.kind=1):Ev aa C0 W0 62 [vc,vm,.agg (aU x va)] H=some (.bool (inB m x.src && inB m x.dst && eqB (xo m x.src) (xo m x.dst) && eqB x.args.length 0 && (eqB x.code 0 && eqB x.grid 0 && eqB x.block 0 && eqB x.ev 0 && eqB x.word 0)),H):=by
 obtain ⟨tm,ht,g0,g1,g2,g3⟩:=tm3 vc vm (.agg (aU x va)) 181 (by decide)
 rw [GH,ht]
 rw [<-af (ro H)]
 rw [L6]
 obtain ⟨kind,code,grid,block,src,dst,ev,args,word⟩:=x
 simp only at ha hk ⊢
 subst hk
 have hla:=kn ha.ro
 have hlm:=hm.ro.len
 obtain ⟨hvc,hvo⟩:=hm.vc
 have hac:=ha.cells
 have hao:=ha.one
 have h90:∀ L n,Ev aa C0 W0 90 [I n,.ptr (ro H).length 0] (ro H++(bo.cells [vm] 24::L))=some (.bool (inB m n),ro H++(bo.cells [vm] 24::L)):=fun L n=>GU (hm.ro.aX (al.app _ _)) (by rw [gu]; rfl) n
 have e0:eqB 1 0=false:=rfl
 have e1:eqB 1 1=true:=rfl
 have e2:eqB 1 2=false:=rfl
 have e3:eqB 1 3=false:=rfl
 have e4:eqB 1 4=false:=rfl
 simp (maxSteps:=4000000) -implicitDefEqProofs only [My,Mx,Mw,Mv,Mu,Tryz.f62,aP,g0,g1,g2,g3,aU,st3,fB,fE,↓hvc,↓hvo,↓hac,↓hao,gY,fX,d7,hla,hlm,h90,bw,cj,bN,↓aO,Tryz.func90,show Tryz.f90.body.isSome=true from rfl,↓gV,↓gU,r5,↓az,e0,e1,e2,e3,e4,↓cbT,↓cbF,↓ao,an,eu,sevalprocAttr]
 generalize hR:EvC aa C0 W0 _ (Code.region _ _ _) _=R
 obtain ⟨t,he,hlen,t0,t1,t4,t5,t7,t8,t9⟩:=Ic hR (by simp only [ls,g0]) (by simp only [g0,gB,sevalprocAttr]) (by simp only [g0,gB,sevalprocAttr])
 subst he
 simp only [g0,g1,g2,g3,gB,sevalprocAttr] at t0 t1 t4 t5 t7 t8 t9
 cases h0:inB m src with
 | false =>
   simp (maxSteps:=4000000) -implicitDefEqProofs only [aP,hlen,t0,t1,t4,t5,t7,t8,t9,aU,st3,fB,fE,↓hvc,↓hvo,↓hac,↓hao,gY,fX,d7,hla,hlm,h90,bw,cj,bN,↓aO,Tryz.func90,show Tryz.f90.body.isSome=true from rfl,↓gV,↓gU,r5,↓az,Ba,h0,↓cbT,↓cbF,↓ao,an,eu,sevalprocAttr]
   generalize hZ:EvC aa C0 W0 _ T62 _=Z
   obtain ⟨tm',K',rfl,l6,r6⟩:=lI hac hao hZ (by simp only [ls,hlen]) (by simp only [hlen,t5,gB,sevalprocAttr]) (by simp only [hlen,t8,gB,sevalprocAttr]) (by simp only [hlen,gB,sevalprocAttr]; try rfl)
   simp only [ay,r6]
   simp only [bd,aZ,fH,bw,gT]
 | true =>
   cases h1:inB m dst with
   | false =>
     simp (maxSteps:=4000000) -implicitDefEqProofs only [aP,hlen,t0,t1,t4,t5,t7,t8,t9,aU,st3,fB,fE,↓hvc,↓hvo,↓hac,↓hao,gY,fX,d7,hla,hlm,h90,bw,cj,bN,↓aO,Tryz.func90,show Tryz.f90.body.isSome=true from rfl,↓gV,↓gU,r5,↓az,Ba,h0,h1,↓cbT,↓cbF,↓ao,an,eu,sevalprocAttr]
     generalize hZ:EvC aa C0 W0 _ T62 _=Z
     obtain ⟨tm',K',rfl,l6,r6⟩:=lI hac hao hZ (by simp only [ls,hlen]) (by simp only [hlen,t5,gB,sevalprocAttr]) (by simp only [hlen,t8,gB,sevalprocAttr]) (by simp only [hlen,gB,sevalprocAttr]; try rfl)
     simp only [ay,r6]
     simp only [bd,aZ,fH,bw,gT]
   | true =>
     have b0:=h0
     have b1:=h1
     unfold inB at b0 b1
     rw [Bool.and_eq_true,dp,dC] at b0 b1
     obtain ⟨j0,rfl⟩:∃ j:Nat,src=j:=⟨src.toNat,by omega⟩
     obtain ⟨j1,rfl⟩:∃ j:Nat,dst=j:=⟨dst.toNat,by omega⟩
     obtain ⟨i0,k0,w0,hix0,hrd0,hw0⟩:=hm.ro.at (al.refl _) (j:=j0) (by omega)
     obtain ⟨i1,k1,w1,hix1,hrd1,hw1⟩:=hm.ro.at (al.refl _) (j:=j1) (by omega)
     have hl0:=kn hw0
     have hl1:=kn hw1
     have hn0:xo m (j0:Int)=((bG m j0).length:Int):=rfl
     have hn1:xo m (j1:Int)=((bG m j1).length:Int):=rfl
     rw [hn0,hn1]
     cases h2:eqB ((bG m j0).length:Int) ((bG m j1).length:Int) with
     | false =>
       simp (maxSteps:=4000000) -implicitDefEqProofs only [aP,hlen,t0,t1,t4,t5,t7,t8,t9,aU,st3,fB,fE,↓hvc,↓hvo,↓hac,↓hao,gY,fX,d7,hla,hlm,h90,bw,cj,bN,↓aO,Tryz.func90,show Tryz.f90.body.isSome=true from rfl,↓gV,↓gU,r5,↓az,Ba,h0,h1,hix0,hix1,hrd0,hrd1,hl0,hl1,h2,↓cbT,↓cbF,↓ao,an,eu,sevalprocAttr]
       generalize hZ:EvC aa C0 W0 _ T62 _=Z
       obtain ⟨tm',K',rfl,l6,r6⟩:=lI hac hao hZ (by simp only [ls,hlen]) (by simp only [hlen,t5,gB,sevalprocAttr]) (by simp only [hlen,t8,gB,sevalprocAttr]) (by simp only [hlen,gB,sevalprocAttr]; try rfl)
       simp only [ay,r6]
       simp only [bd,aZ,fH,bw,gT]
     | true =>
       cases h3:eqB (args.length:Int) 0 with
       | false =>
         simp (maxSteps:=4000000) -implicitDefEqProofs only [aP,hlen,t0,t1,t4,t5,t7,t8,t9,aU,st3,fB,fE,↓hvc,↓hvo,↓hac,↓hao,gY,fX,d7,hla,hlm,h90,bw,cj,bN,↓aO,Tryz.func90,show Tryz.f90.body.isSome=true from rfl,↓gV,↓gU,r5,↓az,Ba,h0,h1,hix0,hix1,hrd0,hrd1,hl0,hl1,h2,h3,↓cbT,↓cbF,↓ao,an,eu,sevalprocAttr]
         generalize hZ:EvC aa C0 W0 _ T62 _=Z
         obtain ⟨tm',K',rfl,l6,r6⟩:=lI hac hao hZ (by simp only [ls,hlen]) (by simp only [hlen,t5,gB,sevalprocAttr]) (by simp only [hlen,t8,gB,sevalprocAttr]) (by simp only [hlen,gB,sevalprocAttr]; try rfl)
         simp only [ay,r6]
         simp only [bd,aZ,fH,bw,gT]
       | true =>
         simp (maxSteps:=4000000) -implicitDefEqProofs only [aP,hlen,t0,t1,t4,t5,t7,t8,t9,aU,st3,fB,fE,↓hvc,↓hvo,↓hac,↓hao,gY,fX,d7,hla,hlm,h90,bw,cj,bN,↓aO,Tryz.func90,show Tryz.f90.body.isSome=true from rfl,↓gV,↓gU,r5,↓az,Ba,h0,h1,hix0,hix1,hrd0,hrd1,hl0,hl1,h2,h3,↓cbT,↓cbF,↓ao,an,eu,sevalprocAttr]
         generalize hZ:EvC aa C0 W0 _ T62 _=Z
         obtain ⟨tm',K',rfl,l6,r6⟩:=lI hac hao hZ (by simp only [ls,hlen]) (by simp only [hlen,t5,gB,sevalprocAttr]) (by simp only [hlen,t8,gB,sevalprocAttr]) (by simp only [hlen,gB,sevalprocAttr]; try rfl)
         simp only [ay,r6]
         simp only [bd,aZ,fH,bw,gT]
theorem zU {H:AH} {cs:List Cod} {m:List (List Int)} {vc vm:AV} (hc:cO H cs vc) (hm:dc H m vm) {x:Itm} {va:AV} (ha:SlS 32 1 H va (x.args.map dh)) (hi32:∀ a∈x.args,eD a) (hk:x.kind=0):Ev aa C0 W0 62 [vc,vm,.agg (aU x va)] H=some (.bool (leB 0 x.code && ltB x.code cs.length && oY (cY cs x.code.toNat) (cY cs x.code.toNat).name x m && (eqB x.src 0 && eqB x.dst 0 && eqB x.ev 0 && eqB x.word 0)),H):=by
 obtain ⟨tm,ht,g0,g1,g2,g3⟩:=tm3 vc vm (.agg (aU x va)) 181 (by decide)
 rw [GH,ht]
 rw [<-af (ro H)]
 rw [L6]
 obtain ⟨kind,code,grid,block,src,dst,ev,args,word⟩:=x
 simp only at ha hk hi32 ⊢
 subst hk
 have hlc:=hc.ro.len
 have hla:=kn ha.ro
 have hlm:=hm.ro.len
 obtain ⟨hvc,hvo⟩:=hm.vc
 have hac:=ha.cells
 have hao:=ha.one
 have h90:∀ L n,Ev aa C0 W0 90 [I n,.ptr (ro H).length 0] (ro H++(bo.cells [vm] 24::L))=some (.bool (inB m n),ro H++(bo.cells [vm] 24::L)):=fun L n=>GU (hm.ro.aX (al.app _ _)) (by rw [gu]; rfl) n
 have e0:eqB 0 0=true:=rfl
 have e1:eqB 0 1=false:=rfl
 have e2:eqB 0 2=false:=rfl
 have e3:eqB 0 3=false:=rfl
 have e4:eqB 0 4=false:=rfl
 simp (maxSteps:=4000000) -implicitDefEqProofs only [My,Mx,Mw,Mv,Mu,Tryz.f62,aP,g0,g1,g2,g3,aU,st3,fB,fE,↓hvc,↓hvo,↓hac,↓hao,gY,fX,d7,hla,hlm,h90,bw,cj,bN,↓aO,Tryz.func90,show Tryz.f90.body.isSome=true from rfl,↓gV,↓gU,r5,↓az,e0,e1,e2,e3,e4,↓cbT,↓cbF,↓ao,an,eu,sevalprocAttr]
 generalize hR:EvC aa C0 W0 _ (Code.region _ _ _) _=R
 obtain ⟨t,he,hlen,t0,t1,t4,t5,t7,t8,t9⟩:=Ie hR (by simp only [ls,g0]) (by simp only [g0,gB,sevalprocAttr]) (by simp only [g0,gB,sevalprocAttr])
 subst he
 simp only [g0,g1,g2,g3,gB,sevalprocAttr] at t0 t1 t4 t5 t7 t8 t9
 cases h0:leB 0 code with
 | false =>
   simp (maxSteps:=4000000) -implicitDefEqProofs only [aP,hlen,t0,t1,t4,t5,t7,t8,t9,aU,st3,fB,fE,↓hvc,↓hvo,↓hac,↓hao,gY,fX,d7,hla,hlm,h90,bw,cj,bN,↓aO,Tryz.func90,show Tryz.f90.body.isSome=true from rfl,↓gV,↓gU,r5,↓az,En,Em,hlc,h0,↓cbT,↓cbF,↓ao,an,eu,sevalprocAttr]
   generalize hZ:EvC aa C0 W0 _ T62 _=Z
   obtain ⟨tm',K',rfl,l6,r6⟩:=lI hac hao hZ (by simp only [ls,hlen]) (by simp only [hlen,t5,gB,sevalprocAttr]) (by simp only [hlen,t8,gB,sevalprocAttr]) (by simp only [hlen,gB,sevalprocAttr]; try rfl)
   simp only [ay,r6]
   simp only [bd,aZ,fH,bw,gT]
 | true =>
   cases h1:ltB code (cs.length:Int) with
   | false =>
     simp (maxSteps:=4000000) -implicitDefEqProofs only [aP,hlen,t0,t1,t4,t5,t7,t8,t9,aU,st3,fB,fE,↓hvc,↓hvo,↓hac,↓hao,gY,fX,d7,hla,hlm,h90,bw,cj,bN,↓aO,Tryz.func90,show Tryz.f90.body.isSome=true from rfl,↓gV,↓gU,r5,↓az,En,Em,hlc,h0,h1,↓cbT,↓cbF,↓ao,an,eu,sevalprocAttr]
     generalize hZ:EvC aa C0 W0 _ T62 _=Z
     obtain ⟨tm',K',rfl,l6,r6⟩:=lI hac hao hZ (by simp only [ls,hlen]) (by simp only [hlen,t5,gB,sevalprocAttr]) (by simp only [hlen,t8,gB,sevalprocAttr]) (by simp only [hlen,gB,sevalprocAttr]; try rfl)
     simp only [ay,r6]
     simp only [bd,aZ,fH,bw,gT]
   | true =>
     have b0:=h0
     have b1:=h1
     rw [dp] at b0
     rw [dC] at b1
     obtain ⟨j,rfl⟩:∃ j:Nat,code=j:=⟨code.toNat,by omega⟩
     obtain ⟨i0,k0,vp,vs,vi,hix,hrd,hcd⟩:=hc.ro.at (al.refl _) (j:=j) (by omega)
     have h65:=fun L=>Z8 (x:=⟨0,j,grid,block,src,dst,ev,args,word⟩) (hcd.aX (al.app (ro H) L)) (ha.ro.app L)
     have h91:=fun L=>ZS (x:=⟨0,j,grid,block,src,dst,ev,args,word⟩) (nm:=(cY cs j).name) (hcd.aX (al.app (ro H) L)) (ha.ro.app L) hi32 (hm.ro.aX (al.app (ro H) L))
     simp only [bF,cU,aU] at h65 h91 hrd
     rw [show ((j:Int)).toNat=j from Int.toNat_natCast j]
     cases h2:oY (cY cs j) (cY cs j).name ⟨0,j,grid,block,src,dst,ev,args,word⟩ m with
     | false =>
       simp (maxSteps:=4000000) -implicitDefEqProofs only [aP,hlen,t0,t1,t4,t5,t7,t8,t9,aU,st3,fB,fE,↓hvc,↓hvo,↓hac,↓hao,gY,fX,d7,hla,hlm,h90,bw,cj,bN,↓aO,Tryz.func90,show Tryz.f90.body.isSome=true from rfl,↓gV,↓gU,r5,↓az,En,Em,hlc,h0,h1,hix,hrd,h65,h91,h2,↓cbT,↓cbF,↓ao,an,eu,sevalprocAttr]
       generalize hZ:EvC aa C0 W0 _ T62 _=Z
       obtain ⟨tm',K',rfl,l6,r6⟩:=lI hac hao hZ (by simp only [ls,hlen]) (by simp only [hlen,t5,gB,sevalprocAttr]) (by simp only [hlen,t8,gB,sevalprocAttr]) (by simp only [hlen,gB,sevalprocAttr]; try rfl)
       simp only [ay,r6]
       simp only [bd,aZ,fH,bw,gT]
     | true =>
       simp (maxSteps:=4000000) -implicitDefEqProofs only [aP,hlen,t0,t1,t4,t5,t7,t8,t9,aU,st3,fB,fE,↓hvc,↓hvo,↓hac,↓hao,gY,fX,d7,hla,hlm,h90,bw,cj,bN,↓aO,Tryz.func90,show Tryz.f90.body.isSome=true from rfl,↓gV,↓gU,r5,↓az,En,Em,hlc,h0,h1,hix,hrd,h65,h91,h2,↓cbT,↓cbF,↓ao,an,eu,sevalprocAttr]
       generalize hZ:EvC aa C0 W0 _ T62 _=Z
       obtain ⟨tm',K',rfl,l6,r6⟩:=lI hac hao hZ (by simp only [ls,hlen]) (by simp only [hlen,t5,gB,sevalprocAttr]) (by simp only [hlen,t8,gB,sevalprocAttr]) (by simp only [hlen,gB,sevalprocAttr]; try rfl)
       simp only [ay,r6]
       simp only [bd,aZ,fH,bw,gT]
def cK (cs:List Cod) (m:List (List Int)) (x:Itm):Bool:=
 br (eqB x.kind 0) (leB 0 x.code && ltB x.code cs.length && oY (cY cs x.code.toNat) (cY cs x.code.toNat).name x m && (eqB x.src 0 && eqB x.dst 0 && eqB x.ev 0 && eqB x.word 0))
   (br (eqB x.kind 1) (inB m x.src && inB m x.dst && eqB (xo m x.src) (xo m x.dst) && eqB x.args.length 0 && (eqB x.code 0 && eqB x.grid 0 && eqB x.block 0 && eqB x.ev 0 && eqB x.word 0))
     (br (eqB x.kind 2) (inB m x.dst && eqB x.args.length 0 && eqB x.code 0 && eqB x.grid 0 && eqB x.block 0 && eqB x.src 0 && eqB x.ev 0)
       (br (eqB x.kind 3 || eqB x.kind 4) (leB 0 x.ev && ltB x.ev 16 && eqB x.args.length 0 && eqB x.code 0 && eqB x.grid 0 && eqB x.block 0 && eqB x.src 0 && eqB x.dst 0 && eqB x.word 0) false)))
theorem Z9 {H:AH} {cs:List Cod} {m:List (List Int)} {vc vm:AV} (hc:cO H cs vc) (hm:dc H m vm) {x:Itm} {va:AV} (ha:SlS 32 1 H va (x.args.map dh)) (hi32:∀ a∈x.args,eD a):Ev aa C0 W0 62 [vc,vm,.agg (aU x va)] H=some (.bool (cK cs m x),H):=by
 have hvc:vc.cells=[vc]:=by
   obtain ⟨⟨l,e,hs,hc'⟩,n⟩:=hc
   exact hs.cells
 unfold cK
 cases k0:eqB x.kind 0 with
 | true=>exact zU hc hm ha hi32 ((cX _ _).1 k0)
 | false =>
   cases k1:eqB x.kind 1 with
   | true=>exact C8 hm ha ((cX _ _).1 k1)
   | false =>
     cases k2:eqB x.kind 2 with
     | true=>exact C7 hm ha ((cX _ _).1 k2)
     | false =>
       cases k3:eqB x.kind 3 with
       | true=>exact Gd hm ha ((cX _ _).1 k3)
       | false =>
         cases k4:eqB x.kind 4 with
         | true=>exact Gc hm ha ((cX _ _).1 k4)
         | false=>exact C6 hm ha k0 k1 k2 k3 k4
end Go.Dv
