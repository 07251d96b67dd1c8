/- Part 23 of the walks (own work). -/
import Derived.Test.YtilpjnckfkjkbaaGreatDoorZ22
set_option maxRecDepth 100000
set_option maxHeartbeats 4000000
set_option linter.unusedSimpArgs false
set_option linter.unusedVariables false
namespace Go.Dv
open Go.Proofs
attribute [local congr] bind_congr_first cb_congr condA_congr gd_congr br_congr
theorem right_ev3 {H:AH} {m:List (List Int)} {vc vm:AV} (hm:MemR H m vm) {x:Itm} {va:AV} (ha:SlS 32 1 H va (x.args.map row1)) (hk:x.kind=3):Ev Tryz.prog C0 W0 62 [vc,vm,.agg (rowX x va)] H=some (.bool (leB 0 x.ev && ltB x.ev 16 && eqB x.args.length 0 && eqB x.code 0 && eqB x.grid 0 && eqB x.block 0 && eqB x.src 0 && eqB x.dst 0 && eqB x.word 0),H):=by
 obtain ⟨tm,ht,g0,g1,g2,g3⟩:=tm3 vc vm (.agg (rowX x va)) 181 (by decide)
 rw [fe62,ht]
 rw [<-List.append_nil (ro H)]
 obtain ⟨kind,code,grid,block,src,dst,ev,args,word⟩:=x
 simp only at ha hk ⊢
 subst hk
 have hla:=sl32 ha.ro
 have hlm:=hm.ro.len
 obtain ⟨hvc,hvo⟩:=hm.vc
 have hac:=ha.cells
 have hao:=ha.one
 have h90:∀ L n,Ev Tryz.prog C0 W0 90 [I n,.ptr (ro H).length 0] (ro H++(AObj.cells [vm] 24::L))=some (.bool (inB m n),ro H++(AObj.cells [vm] 24::L)):=fun L n=>ev90 (hm.ro.agree (Agree.app _ _)) (by rw [rd_app0]; rfl) n
 have e0:eqB 3 0=false:=rfl
 have e1:eqB 3 1=false:=rfl
 have e2:eqB 3 2=false:=rfl
 have e3:eqB 3 3=true:=rfl
 have e4:eqB 3 4=false:=rfl
 cases h0:leB 0 ev with
 | false=>simp (maxSteps:=4000000) -implicitDefEqProofs only [c62,Tryz.f62,aP,g0,g1,g2,g3,rowX,st3,st21,st32,↓hvc,↓hvo,↓hac,↓hao,bl34,z34',st34,hla,hlm,h90,eqB_self,plr62_7,plr62_10,↓callA_value,Tryz.func90,show Tryz.f90.body.isSome=true from rfl,↓fc65,↓fc91,r5,↓evLd,e0,e1,e2,e3,e4,h0,↓evDn,evUp,eu,sevalprocAttr]
 | true =>
   cases h1:ltB ev 16 with
   | false=>simp (maxSteps:=4000000) -implicitDefEqProofs only [c62,Tryz.f62,aP,g0,g1,g2,g3,rowX,st3,st21,st32,↓hvc,↓hvo,↓hac,↓hao,bl34,z34',st34,hla,hlm,h90,eqB_self,plr62_7,plr62_10,↓callA_value,Tryz.func90,show Tryz.f90.body.isSome=true from rfl,↓fc65,↓fc91,r5,↓evLd,e0,e1,e2,e3,e4,h0,h1,↓evDn,evUp,eu,sevalprocAttr]
   | true =>
     cases h2:eqB (args.length:Int) 0 with
     | false=>simp (maxSteps:=4000000) -implicitDefEqProofs only [c62,Tryz.f62,aP,g0,g1,g2,g3,rowX,st3,st21,st32,↓hvc,↓hvo,↓hac,↓hao,bl34,z34',st34,hla,hlm,h90,eqB_self,plr62_7,plr62_10,↓callA_value,Tryz.func90,show Tryz.f90.body.isSome=true from rfl,↓fc65,↓fc91,r5,↓evLd,e0,e1,e2,e3,e4,h0,h1,h2,↓evDn,evUp,eu,sevalprocAttr]
     | true =>
       cases h3:eqB code 0 with
       | false=>simp (maxSteps:=4000000) -implicitDefEqProofs only [c62,Tryz.f62,aP,g0,g1,g2,g3,rowX,st3,st21,st32,↓hvc,↓hvo,↓hac,↓hao,bl34,z34',st34,hla,hlm,h90,eqB_self,plr62_7,plr62_10,↓callA_value,Tryz.func90,show Tryz.f90.body.isSome=true from rfl,↓fc65,↓fc91,r5,↓evLd,e0,e1,e2,e3,e4,h0,h1,h2,h3,↓evDn,evUp,eu,sevalprocAttr]
       | true =>
         cases h4:eqB grid 0 with
         | false=>simp (maxSteps:=4000000) -implicitDefEqProofs only [c62,Tryz.f62,aP,g0,g1,g2,g3,rowX,st3,st21,st32,↓hvc,↓hvo,↓hac,↓hao,bl34,z34',st34,hla,hlm,h90,eqB_self,plr62_7,plr62_10,↓callA_value,Tryz.func90,show Tryz.f90.body.isSome=true from rfl,↓fc65,↓fc91,r5,↓evLd,e0,e1,e2,e3,e4,h0,h1,h2,h3,h4,↓evDn,evUp,eu,sevalprocAttr]
         | true =>
           cases h5:eqB block 0 with
           | false=>simp (maxSteps:=4000000) -implicitDefEqProofs only [c62,Tryz.f62,aP,g0,g1,g2,g3,rowX,st3,st21,st32,↓hvc,↓hvo,↓hac,↓hao,bl34,z34',st34,hla,hlm,h90,eqB_self,plr62_7,plr62_10,↓callA_value,Tryz.func90,show Tryz.f90.body.isSome=true from rfl,↓fc65,↓fc91,r5,↓evLd,e0,e1,e2,e3,e4,h0,h1,h2,h3,h4,h5,↓evDn,evUp,eu,sevalprocAttr]
           | true =>
             cases h6:eqB src 0 with
             | false=>simp (maxSteps:=4000000) -implicitDefEqProofs only [c62,Tryz.f62,aP,g0,g1,g2,g3,rowX,st3,st21,st32,↓hvc,↓hvo,↓hac,↓hao,bl34,z34',st34,hla,hlm,h90,eqB_self,plr62_7,plr62_10,↓callA_value,Tryz.func90,show Tryz.f90.body.isSome=true from rfl,↓fc65,↓fc91,r5,↓evLd,e0,e1,e2,e3,e4,h0,h1,h2,h3,h4,h5,h6,↓evDn,evUp,eu,sevalprocAttr]
             | true =>
               cases h7:eqB dst 0 with
               | false=>simp (maxSteps:=4000000) -implicitDefEqProofs only [c62,Tryz.f62,aP,g0,g1,g2,g3,rowX,st3,st21,st32,↓hvc,↓hvo,↓hac,↓hao,bl34,z34',st34,hla,hlm,h90,eqB_self,plr62_7,plr62_10,↓callA_value,Tryz.func90,show Tryz.f90.body.isSome=true from rfl,↓fc65,↓fc91,r5,↓evLd,e0,e1,e2,e3,e4,h0,h1,h2,h3,h4,h5,h6,h7,↓evDn,evUp,eu,sevalprocAttr]
               | true =>
                 cases h8:eqB word 0 with
                 | false=>simp (maxSteps:=4000000) -implicitDefEqProofs only [c62,Tryz.f62,aP,g0,g1,g2,g3,rowX,st3,st21,st32,↓hvc,↓hvo,↓hac,↓hao,bl34,z34',st34,hla,hlm,h90,eqB_self,plr62_7,plr62_10,↓callA_value,Tryz.func90,show Tryz.f90.body.isSome=true from rfl,↓fc65,↓fc91,r5,↓evLd,e0,e1,e2,e3,e4,h0,h1,h2,h3,h4,h5,h6,h7,h8,↓evDn,evUp,eu,sevalprocAttr]
                 | true =>
                   simp (maxSteps:=4000000) -implicitDefEqProofs only [c62,Tryz.f62,aP,g0,g1,g2,g3,rowX,st3,st21,st32,↓hvc,↓hvo,↓hac,↓hao,bl34,z34',st34,hla,hlm,h90,eqB_self,plr62_7,plr62_10,↓callA_value,Tryz.func90,show Tryz.f90.body.isSome=true from rfl,↓fc65,↓fc91,r5,↓evLd,e0,e1,e2,e3,e4,h0,h1,h2,h3,h4,h5,h6,h7,h8,↓evDn,evUp,eu,sevalprocAttr]
theorem right_ev4 {H:AH} {m:List (List Int)} {vc vm:AV} (hm:MemR H m vm) {x:Itm} {va:AV} (ha:SlS 32 1 H va (x.args.map row1)) (hk:x.kind=4):Ev Tryz.prog C0 W0 62 [vc,vm,.agg (rowX x va)] H=some (.bool (leB 0 x.ev && ltB x.ev 16 && eqB x.args.length 0 && eqB x.code 0 && eqB x.grid 0 && eqB x.block 0 && eqB x.src 0 && eqB x.dst 0 && eqB x.word 0),H):=by
 obtain ⟨tm,ht,g0,g1,g2,g3⟩:=tm3 vc vm (.agg (rowX x va)) 181 (by decide)
 rw [fe62,ht]
 rw [<-List.append_nil (ro H)]
 obtain ⟨kind,code,grid,block,src,dst,ev,args,word⟩:=x
 simp only at ha hk ⊢
 subst hk
 have hla:=sl32 ha.ro
 have hlm:=hm.ro.len
 obtain ⟨hvc,hvo⟩:=hm.vc
 have hac:=ha.cells
 have hao:=ha.one
 have h90:∀ L n,Ev Tryz.prog C0 W0 90 [I n,.ptr (ro H).length 0] (ro H++(AObj.cells [vm] 24::L))=some (.bool (inB m n),ro H++(AObj.cells [vm] 24::L)):=fun L n=>ev90 (hm.ro.agree (Agree.app _ _)) (by rw [rd_app0]; rfl) n
 have e0:eqB 4 0=false:=rfl
 have e1:eqB 4 1=false:=rfl
 have e2:eqB 4 2=false:=rfl
 have e3:eqB 4 3=false:=rfl
 have e4:eqB 4 4=true:=rfl
 cases h0:leB 0 ev with
 | false=>simp (maxSteps:=4000000) -implicitDefEqProofs only [c62,Tryz.f62,aP,g0,g1,g2,g3,rowX,st3,st21,st32,↓hvc,↓hvo,↓hac,↓hao,bl34,z34',st34,hla,hlm,h90,eqB_self,plr62_7,plr62_10,↓callA_value,Tryz.func90,show Tryz.f90.body.isSome=true from rfl,↓fc65,↓fc91,r5,↓evLd,e0,e1,e2,e3,e4,h0,↓evDn,evUp,eu,sevalprocAttr]
 | true =>
   cases h1:ltB ev 16 with
   | false=>simp (maxSteps:=4000000) -implicitDefEqProofs only [c62,Tryz.f62,aP,g0,g1,g2,g3,rowX,st3,st21,st32,↓hvc,↓hvo,↓hac,↓hao,bl34,z34',st34,hla,hlm,h90,eqB_self,plr62_7,plr62_10,↓callA_value,Tryz.func90,show Tryz.f90.body.isSome=true from rfl,↓fc65,↓fc91,r5,↓evLd,e0,e1,e2,e3,e4,h0,h1,↓evDn,evUp,eu,sevalprocAttr]
   | true =>
     cases h2:eqB (args.length:Int) 0 with
     | false=>simp (maxSteps:=4000000) -implicitDefEqProofs only [c62,Tryz.f62,aP,g0,g1,g2,g3,rowX,st3,st21,st32,↓hvc,↓hvo,↓hac,↓hao,bl34,z34',st34,hla,hlm,h90,eqB_self,plr62_7,plr62_10,↓callA_value,Tryz.func90,show Tryz.f90.body.isSome=true from rfl,↓fc65,↓fc91,r5,↓evLd,e0,e1,e2,e3,e4,h0,h1,h2,↓evDn,evUp,eu,sevalprocAttr]
     | true =>
       cases h3:eqB code 0 with
       | false=>simp (maxSteps:=4000000) -implicitDefEqProofs only [c62,Tryz.f62,aP,g0,g1,g2,g3,rowX,st3,st21,st32,↓hvc,↓hvo,↓hac,↓hao,bl34,z34',st34,hla,hlm,h90,eqB_self,plr62_7,plr62_10,↓callA_value,Tryz.func90,show Tryz.f90.body.isSome=true from rfl,↓fc65,↓fc91,r5,↓evLd,e0,e1,e2,e3,e4,h0,h1,h2,h3,↓evDn,evUp,eu,sevalprocAttr]
       | true =>
         cases h4:eqB grid 0 with
         | false=>simp (maxSteps:=4000000) -implicitDefEqProofs only [c62,Tryz.f62,aP,g0,g1,g2,g3,rowX,st3,st21,st32,↓hvc,↓hvo,↓hac,↓hao,bl34,z34',st34,hla,hlm,h90,eqB_self,plr62_7,plr62_10,↓callA_value,Tryz.func90,show Tryz.f90.body.isSome=true from rfl,↓fc65,↓fc91,r5,↓evLd,e0,e1,e2,e3,e4,h0,h1,h2,h3,h4,↓evDn,evUp,eu,sevalprocAttr]
         | true =>
           cases h5:eqB block 0 with
           | false=>simp (maxSteps:=4000000) -implicitDefEqProofs only [c62,Tryz.f62,aP,g0,g1,g2,g3,rowX,st3,st21,st32,↓hvc,↓hvo,↓hac,↓hao,bl34,z34',st34,hla,hlm,h90,eqB_self,plr62_7,plr62_10,↓callA_value,Tryz.func90,show Tryz.f90.body.isSome=true from rfl,↓fc65,↓fc91,r5,↓evLd,e0,e1,e2,e3,e4,h0,h1,h2,h3,h4,h5,↓evDn,evUp,eu,sevalprocAttr]
           | true =>
             cases h6:eqB src 0 with
             | false=>simp (maxSteps:=4000000) -implicitDefEqProofs only [c62,Tryz.f62,aP,g0,g1,g2,g3,rowX,st3,st21,st32,↓hvc,↓hvo,↓hac,↓hao,bl34,z34',st34,hla,hlm,h90,eqB_self,plr62_7,plr62_10,↓callA_value,Tryz.func90,show Tryz.f90.body.isSome=true from rfl,↓fc65,↓fc91,r5,↓evLd,e0,e1,e2,e3,e4,h0,h1,h2,h3,h4,h5,h6,↓evDn,evUp,eu,sevalprocAttr]
             | true =>
               cases h7:eqB dst 0 with
               | false=>simp (maxSteps:=4000000) -implicitDefEqProofs only [c62,Tryz.f62,aP,g0,g1,g2,g3,rowX,st3,st21,st32,↓hvc,↓hvo,↓hac,↓hao,bl34,z34',st34,hla,hlm,h90,eqB_self,plr62_7,plr62_10,↓callA_value,Tryz.func90,show Tryz.f90.body.isSome=true from rfl,↓fc65,↓fc91,r5,↓evLd,e0,e1,e2,e3,e4,h0,h1,h2,h3,h4,h5,h6,h7,↓evDn,evUp,eu,sevalprocAttr]
               | true =>
                 cases h8:eqB word 0 with
                 | false=>simp (maxSteps:=4000000) -implicitDefEqProofs only [c62,Tryz.f62,aP,g0,g1,g2,g3,rowX,st3,st21,st32,↓hvc,↓hvo,↓hac,↓hao,bl34,z34',st34,hla,hlm,h90,eqB_self,plr62_7,plr62_10,↓callA_value,Tryz.func90,show Tryz.f90.body.isSome=true from rfl,↓fc65,↓fc91,r5,↓evLd,e0,e1,e2,e3,e4,h0,h1,h2,h3,h4,h5,h6,h7,h8,↓evDn,evUp,eu,sevalprocAttr]
                 | true =>
                   simp (maxSteps:=4000000) -implicitDefEqProofs only [c62,Tryz.f62,aP,g0,g1,g2,g3,rowX,st3,st21,st32,↓hvc,↓hvo,↓hac,↓hao,bl34,z34',st34,hla,hlm,h90,eqB_self,plr62_7,plr62_10,↓callA_value,Tryz.func90,show Tryz.f90.body.isSome=true from rfl,↓fc65,↓fc91,r5,↓evLd,e0,e1,e2,e3,e4,h0,h1,h2,h3,h4,h5,h6,h7,h8,↓evDn,evUp,eu,sevalprocAttr]
theorem right_none {H:AH} {m:List (List Int)} {vc vm:AV} (hm:MemR H m vm) {x:Itm} {va:AV} (ha:SlS 32 1 H va (x.args.map row1)) (k0:eqB x.kind 0=false) (k1:eqB x.kind 1=false) (k2:eqB x.kind 2=false) (k3:eqB x.kind 3=false) (k4:eqB x.kind 4=false):Ev Tryz.prog C0 W0 62 [vc,vm,.agg (rowX x va)] H=some (.bool (false),H):=by
 obtain ⟨tm,ht,g0,g1,g2,g3⟩:=tm3 vc vm (.agg (rowX x va)) 181 (by decide)
 rw [fe62,ht]
 rw [<-List.append_nil (ro H)]
 obtain ⟨kind,code,grid,block,src,dst,ev,args,word⟩:=x
 simp only at ha k0 k1 k2 k3 k4 ⊢
 have hla:=sl32 ha.ro
 have hlm:=hm.ro.len
 obtain ⟨hvc,hvo⟩:=hm.vc
 have hac:=ha.cells
 have hao:=ha.one
 have h90:∀ L n,Ev Tryz.prog C0 W0 90 [I n,.ptr (ro H).length 0] (ro H++(AObj.cells [vm] 24::L))=some (.bool (inB m n),ro H++(AObj.cells [vm] 24::L)):=fun L n=>ev90 (hm.ro.agree (Agree.app _ _)) (by rw [rd_app0]; rfl) n
 simp (maxSteps:=4000000) -implicitDefEqProofs only [c62,Tryz.f62,aP,g0,g1,g2,g3,rowX,st3,st21,st32,↓hvc,↓hvo,↓hac,↓hao,bl34,z34',st34,hla,hlm,h90,eqB_self,plr62_7,plr62_10,↓callA_value,Tryz.func90,show Tryz.f90.body.isSome=true from rfl,↓fc65,↓fc91,r5,↓evLd,k0,k1,k2,k3,k4,↓evDn,evUp,eu,sevalprocAttr]
noncomputable def P62_0:Code:=atPath [false] (Tryz.f62.body.getD .skip)
noncomputable def P62_1:Code:=atPath [true,false] (Tryz.f62.body.getD .skip)
noncomputable def P62_2:Code:=atPath [true,true,false] (Tryz.f62.body.getD .skip)
noncomputable def P62_3:Code:=atPath [true,true,true,false] (Tryz.f62.body.getD .skip)
noncomputable def P62_4:Code:=atPath [true,true,true,true,false] (Tryz.f62.body.getD .skip)
noncomputable def T62:Code:=atPath [true,true,true,true,true] (Tryz.f62.body.getD .skip)
theorem c62_eq:c62=.seq P62_0 (.seq P62_1 (.seq P62_2 (.seq P62_3 (.seq P62_4 T62)))):=by kernel_rfl
theorem tail62 {tm:List AV} {G:AH} {vm va:AV} (hac:va.cells=[va]) (hao:va.one=true) {k c g b s d e w c2 g2 b2 s2 d2 e2 w2:Int} {ok:Bool} (hlen:tm.length=181) (h5:tm.getD 5 uA=.ptr (G.length+1) 0) (h8:tm.getD 8 uA=.ptr (G.length+2) 0) (h9:tm.getD 9 uA=.bool ok) :
   ∃ tm' K',EvC Tryz.prog C0 W0 pl62 T62 (tm,G++[.cells [vm] 24,.cells [I k,I c,I g,I b,I s,I d,I e,va,.int .i32 w] 34,.cells [I k,I c2,I g2,I b2,I s2,I d2,I e2,.nilSlice,.int .i32 w2] 34])=some (.ret,(tm',K'))/\tm'.length=181/\tm'.getD 6 uA=.bool (ok && eqB c c2 && eqB g g2 && eqB b b2 && eqB s s2 && eqB d d2 && eqB e e2 && eqB w w2):=by
 cases ok with
 | false =>
   simp (maxSteps:=4000000) -implicitDefEqProofs only [T62,Tryz.f62,aP,hlen,h5,h8,h9,st21,st32,↓hac,↓hao,r5,↓evLd,↓evDn,evUp,eu,sevalprocAttr]
   exact ⟨_,_,rfl,by simp only [ls,hlen],by simp only [hlen,gB,sevalprocAttr]⟩
 | true =>
   cases q0:eqB c c2 with
   | false =>
     simp (maxSteps:=4000000) -implicitDefEqProofs only [T62,Tryz.f62,aP,hlen,h5,h8,h9,st21,st32,↓hac,↓hao,r5,↓evLd,q0,↓evDn,evUp,eu,sevalprocAttr]
     exact ⟨_,_,rfl,by simp only [ls,hlen],by simp only [hlen,gB,sevalprocAttr]⟩
   | true =>
     cases q1:eqB g g2 with
     | false =>
       simp (maxSteps:=4000000) -implicitDefEqProofs only [T62,Tryz.f62,aP,hlen,h5,h8,h9,st21,st32,↓hac,↓hao,r5,↓evLd,q0,q1,↓evDn,evUp,eu,sevalprocAttr]
       exact ⟨_,_,rfl,by simp only [ls,hlen],by simp only [hlen,gB,sevalprocAttr]⟩
     | true =>
       cases q2:eqB b b2 with
       | false =>
         simp (maxSteps:=4000000) -implicitDefEqProofs only [T62,Tryz.f62,aP,hlen,h5,h8,h9,st21,st32,↓hac,↓hao,r5,↓evLd,q0,q1,q2,↓evDn,evUp,eu,sevalprocAttr]
         exact ⟨_,_,rfl,by simp only [ls,hlen],by simp only [hlen,gB,sevalprocAttr]⟩
       | true =>
         cases q3:eqB s s2 with
         | false =>
           simp (maxSteps:=4000000) -implicitDefEqProofs only [T62,Tryz.f62,aP,hlen,h5,h8,h9,st21,st32,↓hac,↓hao,r5,↓evLd,q0,q1,q2,q3,↓evDn,evUp,eu,sevalprocAttr]
           exact ⟨_,_,rfl,by simp only [ls,hlen],by simp only [hlen,gB,sevalprocAttr]⟩
         | true =>
           cases q4:eqB d d2 with
           | false =>
             simp (maxSteps:=4000000) -implicitDefEqProofs only [T62,Tryz.f62,aP,hlen,h5,h8,h9,st21,st32,↓hac,↓hao,r5,↓evLd,q0,q1,q2,q3,q4,↓evDn,evUp,eu,sevalprocAttr]
             exact ⟨_,_,rfl,by simp only [ls,hlen],by simp only [hlen,gB,sevalprocAttr]⟩
           | true =>
             cases q5:eqB e e2 with
             | false =>
               simp (maxSteps:=4000000) -implicitDefEqProofs only [T62,Tryz.f62,aP,hlen,h5,h8,h9,st21,st32,↓hac,↓hao,r5,↓evLd,q0,q1,q2,q3,q4,q5,↓evDn,evUp,eu,sevalprocAttr]
               exact ⟨_,_,rfl,by simp only [ls,hlen],by simp only [hlen,gB,sevalprocAttr]⟩
             | true =>
               cases q6:eqB w w2 with
               | false =>
                 simp (maxSteps:=4000000) -implicitDefEqProofs only [T62,Tryz.f62,aP,hlen,h5,h8,h9,st21,st32,↓hac,↓hao,r5,↓evLd,q0,q1,q2,q3,q4,q5,q6,↓evDn,evUp,eu,sevalprocAttr]
                 exact ⟨_,_,rfl,by simp only [ls,hlen],by simp only [hlen,gB,sevalprocAttr]⟩
               | true =>
                 simp (maxSteps:=4000000) -implicitDefEqProofs only [T62,Tryz.f62,aP,hlen,h5,h8,h9,st21,st32,↓hac,↓hao,r5,↓evLd,q0,q1,q2,q3,q4,q5,q6,↓evDn,evUp,eu,sevalprocAttr]
                 exact ⟨_,_,rfl,by simp only [ls,hlen],by simp only [hlen,gB,sevalprocAttr]⟩
theorem tail62' {tm:List AV} {G:AH} {vm va:AV} (hac:va.cells=[va]) (hao:va.one=true) {k c g b s d e w c2 g2 b2 s2 d2 e2 w2:Int} {ok:Bool} {Z:Option (AExit × St)} (hZ:EvC Tryz.prog C0 W0 pl62 T62 (tm,G++[.cells [vm] 24,.cells [I k,I c,I g,I b,I s,I d,I e,va,.int .i32 w] 34,.cells [I k,I c2,I g2,I b2,I s2,I d2,I e2,.nilSlice,.int .i32 w2] 34])=Z) (hlen:tm.length=181) (h5:tm.getD 5 uA=.ptr (G.length+1) 0) (h8:tm.getD 8 uA=.ptr (G.length+2) 0) (h9:tm.getD 9 uA=.bool ok) :
   ∃ tm' K',Z=some (.ret,(tm',K'))/\tm'.length=181/\tm'.getD 6 uA=.bool (ok && eqB c c2 && eqB g g2 && eqB b b2 && eqB s s2 && eqB d d2 && eqB e e2 && eqB w w2):=by
 subst hZ
 exact tail62 hac hao hlen h5 h8 h9
theorem right_copy {H:AH} {m:List (List Int)} {vc vm:AV} (hm:MemR H m vm) {x:Itm} {va:AV} (ha:SlS 32 1 H va (x.args.map row1)) (hk:x.kind=1):Ev Tryz.prog C0 W0 62 [vc,vm,.agg (rowX x va)] H=some (.bool (inB m x.src && inB m x.dst && eqB (lenB m x.src) (lenB m x.dst) && eqB x.args.length 0 && (eqB x.code 0 && eqB x.grid 0 && eqB x.block 0 && eqB x.ev 0 && eqB x.word 0)),H):=by
 obtain ⟨tm,ht,g0,g1,g2,g3⟩:=tm3 vc vm (.agg (rowX x va)) 181 (by decide)
 rw [fe62,ht]
 rw [<-List.append_nil (ro H)]
 rw [c62_eq]
 obtain ⟨kind,code,grid,block,src,dst,ev,args,word⟩:=x
 simp only at ha hk ⊢
 subst hk
 have hla:=sl32 ha.ro
 have hlm:=hm.ro.len
 obtain ⟨hvc,hvo⟩:=hm.vc
 have hac:=ha.cells
 have hao:=ha.one
 have h90:∀ L n,Ev Tryz.prog C0 W0 90 [I n,.ptr (ro H).length 0] (ro H++(AObj.cells [vm] 24::L))=some (.bool (inB m n),ro H++(AObj.cells [vm] 24::L)):=fun L n=>ev90 (hm.ro.agree (Agree.app _ _)) (by rw [rd_app0]; rfl) n
 have e0:eqB 1 0=false:=rfl
 have e1:eqB 1 1=true:=rfl
 have e2:eqB 1 2=false:=rfl
 have e3:eqB 1 3=false:=rfl
 have e4:eqB 1 4=false:=rfl
 simp (maxSteps:=4000000) -implicitDefEqProofs only [P62_0,P62_1,P62_2,P62_3,P62_4,Tryz.f62,aP,g0,g1,g2,g3,rowX,st3,st21,st32,↓hvc,↓hvo,↓hac,↓hao,bl34,z34',st34,hla,hlm,h90,eqB_self,plr62_7,plr62_10,↓callA_value,Tryz.func90,show Tryz.f90.body.isSome=true from rfl,↓fc65,↓fc91,r5,↓evLd,e0,e1,e2,e3,e4,↓cbT,↓cbF,↓evDn,evUp,eu,sevalprocAttr]
 generalize hR:EvC Tryz.prog C0 W0 _ (Code.region _ _ _) _=R
 obtain ⟨t,he,hlen,t0,t1,t4,t5,t7,t8,t9⟩:=reg62_9' hR (by simp only [ls,g0]) (by simp only [g0,gB,sevalprocAttr]) (by simp only [g0,gB,sevalprocAttr])
 subst he
 simp only [g0,g1,g2,g3,gB,sevalprocAttr] at t0 t1 t4 t5 t7 t8 t9
 cases h0:inB m src with
 | false =>
   simp (maxSteps:=4000000) -implicitDefEqProofs only [aP,hlen,t0,t1,t4,t5,t7,t8,t9,rowX,st3,st21,st32,↓hvc,↓hvo,↓hac,↓hao,bl34,z34',st34,hla,hlm,h90,eqB_self,plr62_7,plr62_10,↓callA_value,Tryz.func90,show Tryz.f90.body.isSome=true from rfl,↓fc65,↓fc91,r5,↓evLd,rds90,h0,↓cbT,↓cbF,↓evDn,evUp,eu,sevalprocAttr]
   generalize hZ:EvC Tryz.prog C0 W0 _ T62 _=Z
   obtain ⟨tm',K',rfl,l6,r6⟩:=tail62' hac hao hZ (by simp only [ls,hlen]) (by simp only [hlen,t5,gB,sevalprocAttr]) (by simp only [hlen,t8,gB,sevalprocAttr]) (by simp only [hlen,gB,sevalprocAttr]; try rfl)
   simp only [Option.bind_some,r6]
   simp only [Bool.false_and,Bool.true_and,Bool.and_true,eqB_self,fin_bool]
 | true =>
   cases h1:inB m dst with
   | false =>
     simp (maxSteps:=4000000) -implicitDefEqProofs only [aP,hlen,t0,t1,t4,t5,t7,t8,t9,rowX,st3,st21,st32,↓hvc,↓hvo,↓hac,↓hao,bl34,z34',st34,hla,hlm,h90,eqB_self,plr62_7,plr62_10,↓callA_value,Tryz.func90,show Tryz.f90.body.isSome=true from rfl,↓fc65,↓fc91,r5,↓evLd,rds90,h0,h1,↓cbT,↓cbF,↓evDn,evUp,eu,sevalprocAttr]
     generalize hZ:EvC Tryz.prog C0 W0 _ T62 _=Z
     obtain ⟨tm',K',rfl,l6,r6⟩:=tail62' hac hao hZ (by simp only [ls,hlen]) (by simp only [hlen,t5,gB,sevalprocAttr]) (by simp only [hlen,t8,gB,sevalprocAttr]) (by simp only [hlen,gB,sevalprocAttr]; try rfl)
     simp only [Option.bind_some,r6]
     simp only [Bool.false_and,Bool.true_and,Bool.and_true,eqB_self,fin_bool]
   | true =>
     have b0:=h0
     have b1:=h1
     unfold inB at b0 b1
     rw [Bool.and_eq_true,leB_iff,ltB_iff] at b0 b1
     obtain ⟨j0,rfl⟩:∃ j:Nat,src=j:=⟨src.toNat,by omega⟩
     obtain ⟨j1,rfl⟩:∃ j:Nat,dst=j:=⟨dst.toNat,by omega⟩
     obtain ⟨i0,k0,w0,hix0,hrd0,hw0⟩:=hm.ro.at (Agree.refl _) (j:=j0) (by omega)
     obtain ⟨i1,k1,w1,hix1,hrd1,hw1⟩:=hm.ro.at (Agree.refl _) (j:=j1) (by omega)
     have hl0:=sl32 hw0
     have hl1:=sl32 hw1
     have hn0:lenB m (j0:Int)=((bufOf m j0).length:Int):=rfl
     have hn1:lenB m (j1:Int)=((bufOf m j1).length:Int):=rfl
     rw [hn0,hn1]
     cases h2:eqB ((bufOf m j0).length:Int) ((bufOf m j1).length:Int) with
     | false =>
       simp (maxSteps:=4000000) -implicitDefEqProofs only [aP,hlen,t0,t1,t4,t5,t7,t8,t9,rowX,st3,st21,st32,↓hvc,↓hvo,↓hac,↓hao,bl34,z34',st34,hla,hlm,h90,eqB_self,plr62_7,plr62_10,↓callA_value,Tryz.func90,show Tryz.f90.body.isSome=true from rfl,↓fc65,↓fc91,r5,↓evLd,rds90,h0,h1,hix0,hix1,hrd0,hrd1,hl0,hl1,h2,↓cbT,↓cbF,↓evDn,evUp,eu,sevalprocAttr]
       generalize hZ:EvC Tryz.prog C0 W0 _ T62 _=Z
       obtain ⟨tm',K',rfl,l6,r6⟩:=tail62' hac hao hZ (by simp only [ls,hlen]) (by simp only [hlen,t5,gB,sevalprocAttr]) (by simp only [hlen,t8,gB,sevalprocAttr]) (by simp only [hlen,gB,sevalprocAttr]; try rfl)
       simp only [Option.bind_some,r6]
       simp only [Bool.false_and,Bool.true_and,Bool.and_true,eqB_self,fin_bool]
     | true =>
       cases h3:eqB (args.length:Int) 0 with
       | false =>
         simp (maxSteps:=4000000) -implicitDefEqProofs only [aP,hlen,t0,t1,t4,t5,t7,t8,t9,rowX,st3,st21,st32,↓hvc,↓hvo,↓hac,↓hao,bl34,z34',st34,hla,hlm,h90,eqB_self,plr62_7,plr62_10,↓callA_value,Tryz.func90,show Tryz.f90.body.isSome=true from rfl,↓fc65,↓fc91,r5,↓evLd,rds90,h0,h1,hix0,hix1,hrd0,hrd1,hl0,hl1,h2,h3,↓cbT,↓cbF,↓evDn,evUp,eu,sevalprocAttr]
         generalize hZ:EvC Tryz.prog C0 W0 _ T62 _=Z
         obtain ⟨tm',K',rfl,l6,r6⟩:=tail62' hac hao hZ (by simp only [ls,hlen]) (by simp only [hlen,t5,gB,sevalprocAttr]) (by simp only [hlen,t8,gB,sevalprocAttr]) (by simp only [hlen,gB,sevalprocAttr]; try rfl)
         simp only [Option.bind_some,r6]
         simp only [Bool.false_and,Bool.true_and,Bool.and_true,eqB_self,fin_bool]
       | true =>
         simp (maxSteps:=4000000) -implicitDefEqProofs only [aP,hlen,t0,t1,t4,t5,t7,t8,t9,rowX,st3,st21,st32,↓hvc,↓hvo,↓hac,↓hao,bl34,z34',st34,hla,hlm,h90,eqB_self,plr62_7,plr62_10,↓callA_value,Tryz.func90,show Tryz.f90.body.isSome=true from rfl,↓fc65,↓fc91,r5,↓evLd,rds90,h0,h1,hix0,hix1,hrd0,hrd1,hl0,hl1,h2,h3,↓cbT,↓cbF,↓evDn,evUp,eu,sevalprocAttr]
         generalize hZ:EvC Tryz.prog C0 W0 _ T62 _=Z
         obtain ⟨tm',K',rfl,l6,r6⟩:=tail62' hac hao hZ (by simp only [ls,hlen]) (by simp only [hlen,t5,gB,sevalprocAttr]) (by simp only [hlen,t8,gB,sevalprocAttr]) (by simp only [hlen,gB,sevalprocAttr]; try rfl)
         simp only [Option.bind_some,r6]
         simp only [Bool.false_and,Bool.true_and,Bool.and_true,eqB_self,fin_bool]
theorem right_launch {H:AH} {cs:List Cod} {m:List (List Int)} {vc vm:AV} (hc:CodsR H cs vc) (hm:MemR H m vm) {x:Itm} {va:AV} (ha:SlS 32 1 H va (x.args.map row1)) (hi32:∀ a∈x.args,i32R a) (hk:x.kind=0):Ev Tryz.prog C0 W0 62 [vc,vm,.agg (rowX x va)] H=some (.bool (leB 0 x.code && ltB x.code cs.length && fitsL (codAt cs x.code.toNat) (codAt cs x.code.toNat).name x m && (eqB x.src 0 && eqB x.dst 0 && eqB x.ev 0 && eqB x.word 0)),H):=by
 obtain ⟨tm,ht,g0,g1,g2,g3⟩:=tm3 vc vm (.agg (rowX x va)) 181 (by decide)
 rw [fe62,ht]
 rw [<-List.append_nil (ro H)]
 rw [c62_eq]
 obtain ⟨kind,code,grid,block,src,dst,ev,args,word⟩:=x
 simp only at ha hk hi32 ⊢
 subst hk
 have hlc:=hc.ro.len
 have hla:=sl32 ha.ro
 have hlm:=hm.ro.len
 obtain ⟨hvc,hvo⟩:=hm.vc
 have hac:=ha.cells
 have hao:=ha.one
 have h90:∀ L n,Ev Tryz.prog C0 W0 90 [I n,.ptr (ro H).length 0] (ro H++(AObj.cells [vm] 24::L))=some (.bool (inB m n),ro H++(AObj.cells [vm] 24::L)):=fun L n=>ev90 (hm.ro.agree (Agree.app _ _)) (by rw [rd_app0]; rfl) n
 have e0:eqB 0 0=true:=rfl
 have e1:eqB 0 1=false:=rfl
 have e2:eqB 0 2=false:=rfl
 have e3:eqB 0 3=false:=rfl
 have e4:eqB 0 4=false:=rfl
 simp (maxSteps:=4000000) -implicitDefEqProofs only [P62_0,P62_1,P62_2,P62_3,P62_4,Tryz.f62,aP,g0,g1,g2,g3,rowX,st3,st21,st32,↓hvc,↓hvo,↓hac,↓hao,bl34,z34',st34,hla,hlm,h90,eqB_self,plr62_7,plr62_10,↓callA_value,Tryz.func90,show Tryz.f90.body.isSome=true from rfl,↓fc65,↓fc91,r5,↓evLd,e0,e1,e2,e3,e4,↓cbT,↓cbF,↓evDn,evUp,eu,sevalprocAttr]
 generalize hR:EvC Tryz.prog C0 W0 _ (Code.region _ _ _) _=R
 obtain ⟨t,he,hlen,t0,t1,t4,t5,t7,t8,t9⟩:=reg62_6' hR (by simp only [ls,g0]) (by simp only [g0,gB,sevalprocAttr]) (by simp only [g0,gB,sevalprocAttr])
 subst he
 simp only [g0,g1,g2,g3,gB,sevalprocAttr] at t0 t1 t4 t5 t7 t8 t9
 cases h0:leB 0 code with
 | false =>
   simp (maxSteps:=4000000) -implicitDefEqProofs only [aP,hlen,t0,t1,t4,t5,t7,t8,t9,rowX,st3,st21,st32,↓hvc,↓hvo,↓hac,↓hao,bl34,z34',st34,hla,hlm,h90,eqB_self,plr62_7,plr62_10,↓callA_value,Tryz.func90,show Tryz.f90.body.isSome=true from rfl,↓fc65,↓fc91,r5,↓evLd,rds65,rds91,hlc,h0,↓cbT,↓cbF,↓evDn,evUp,eu,sevalprocAttr]
   generalize hZ:EvC Tryz.prog C0 W0 _ T62 _=Z
   obtain ⟨tm',K',rfl,l6,r6⟩:=tail62' hac hao hZ (by simp only [ls,hlen]) (by simp only [hlen,t5,gB,sevalprocAttr]) (by simp only [hlen,t8,gB,sevalprocAttr]) (by simp only [hlen,gB,sevalprocAttr]; try rfl)
   simp only [Option.bind_some,r6]
   simp only [Bool.false_and,Bool.true_and,Bool.and_true,eqB_self,fin_bool]
 | true =>
   cases h1:ltB code (cs.length:Int) with
   | false =>
     simp (maxSteps:=4000000) -implicitDefEqProofs only [aP,hlen,t0,t1,t4,t5,t7,t8,t9,rowX,st3,st21,st32,↓hvc,↓hvo,↓hac,↓hao,bl34,z34',st34,hla,hlm,h90,eqB_self,plr62_7,plr62_10,↓callA_value,Tryz.func90,show Tryz.f90.body.isSome=true from rfl,↓fc65,↓fc91,r5,↓evLd,rds65,rds91,hlc,h0,h1,↓cbT,↓cbF,↓evDn,evUp,eu,sevalprocAttr]
     generalize hZ:EvC Tryz.prog C0 W0 _ T62 _=Z
     obtain ⟨tm',K',rfl,l6,r6⟩:=tail62' hac hao hZ (by simp only [ls,hlen]) (by simp only [hlen,t5,gB,sevalprocAttr]) (by simp only [hlen,t8,gB,sevalprocAttr]) (by simp only [hlen,gB,sevalprocAttr]; try rfl)
     simp only [Option.bind_some,r6]
     simp only [Bool.false_and,Bool.true_and,Bool.and_true,eqB_self,fin_bool]
   | true =>
     have b0:=h0
     have b1:=h1
     rw [leB_iff] at b0
     rw [ltB_iff] at b1
     obtain ⟨j,rfl⟩:∃ j:Nat,code=j:=⟨code.toNat,by omega⟩
     obtain ⟨i0,k0,vp,vs,vi,hix,hrd,hcd⟩:=hc.ro.at (Agree.refl _) (j:=j) (by omega)
     have h65:=fun L=>ev65 (x:=⟨0,j,grid,block,src,dst,ev,args,word⟩) (hcd.agree (Agree.app (ro H) L)) (ha.ro.app L)
     have h91:=fun L=>ev91 (x:=⟨0,j,grid,block,src,dst,ev,args,word⟩) (nm:=(codAt cs j).name) (hcd.agree (Agree.app (ro H) L)) (ha.ro.app L) hi32 (hm.ro.agree (Agree.app (ro H) L))
     simp only [rowC,rowL,rowX] at h65 h91 hrd
     rw [show ((j:Int)).toNat=j from Int.toNat_natCast j]
     cases h2:fitsL (codAt cs j) (codAt cs j).name ⟨0,j,grid,block,src,dst,ev,args,word⟩ m with
     | false =>
       simp (maxSteps:=4000000) -implicitDefEqProofs only [aP,hlen,t0,t1,t4,t5,t7,t8,t9,rowX,st3,st21,st32,↓hvc,↓hvo,↓hac,↓hao,bl34,z34',st34,hla,hlm,h90,eqB_self,plr62_7,plr62_10,↓callA_value,Tryz.func90,show Tryz.f90.body.isSome=true from rfl,↓fc65,↓fc91,r5,↓evLd,rds65,rds91,hlc,h0,h1,hix,hrd,h65,h91,h2,↓cbT,↓cbF,↓evDn,evUp,eu,sevalprocAttr]
       generalize hZ:EvC Tryz.prog C0 W0 _ T62 _=Z
       obtain ⟨tm',K',rfl,l6,r6⟩:=tail62' hac hao hZ (by simp only [ls,hlen]) (by simp only [hlen,t5,gB,sevalprocAttr]) (by simp only [hlen,t8,gB,sevalprocAttr]) (by simp only [hlen,gB,sevalprocAttr]; try rfl)
       simp only [Option.bind_some,r6]
       simp only [Bool.false_and,Bool.true_and,Bool.and_true,eqB_self,fin_bool]
     | true =>
       simp (maxSteps:=4000000) -implicitDefEqProofs only [aP,hlen,t0,t1,t4,t5,t7,t8,t9,rowX,st3,st21,st32,↓hvc,↓hvo,↓hac,↓hao,bl34,z34',st34,hla,hlm,h90,eqB_self,plr62_7,plr62_10,↓callA_value,Tryz.func90,show Tryz.f90.body.isSome=true from rfl,↓fc65,↓fc91,r5,↓evLd,rds65,rds91,hlc,h0,h1,hix,hrd,h65,h91,h2,↓cbT,↓cbF,↓evDn,evUp,eu,sevalprocAttr]
       generalize hZ:EvC Tryz.prog C0 W0 _ T62 _=Z
       obtain ⟨tm',K',rfl,l6,r6⟩:=tail62' hac hao hZ (by simp only [ls,hlen]) (by simp only [hlen,t5,gB,sevalprocAttr]) (by simp only [hlen,t8,gB,sevalprocAttr]) (by simp only [hlen,gB,sevalprocAttr]; try rfl)
       simp only [Option.bind_some,r6]
       simp only [Bool.false_and,Bool.true_and,Bool.and_true,eqB_self,fin_bool]
def rightP (cs:List Cod) (m:List (List Int)) (x:Itm):Bool:=
 br (eqB x.kind 0) (leB 0 x.code && ltB x.code cs.length && fitsL (codAt cs x.code.toNat) (codAt cs x.code.toNat).name x m && (eqB x.src 0 && eqB x.dst 0 && eqB x.ev 0 && eqB x.word 0))
   (br (eqB x.kind 1) (inB m x.src && inB m x.dst && eqB (lenB m x.src) (lenB m x.dst) && eqB x.args.length 0 && (eqB x.code 0 && eqB x.grid 0 && eqB x.block 0 && eqB x.ev 0 && eqB x.word 0))
     (br (eqB x.kind 2) (inB m x.dst && eqB x.args.length 0 && eqB x.code 0 && eqB x.grid 0 && eqB x.block 0 && eqB x.src 0 && eqB x.ev 0)
       (br (eqB x.kind 3 || eqB x.kind 4) (leB 0 x.ev && ltB x.ev 16 && eqB x.args.length 0 && eqB x.code 0 && eqB x.grid 0 && eqB x.block 0 && eqB x.src 0 && eqB x.dst 0 && eqB x.word 0) false)))
theorem ev62 {H:AH} {cs:List Cod} {m:List (List Int)} {vc vm:AV} (hc:CodsR H cs vc) (hm:MemR H m vm) {x:Itm} {va:AV} (ha:SlS 32 1 H va (x.args.map row1)) (hi32:∀ a∈x.args,i32R a):Ev Tryz.prog C0 W0 62 [vc,vm,.agg (rowX x va)] H=some (.bool (rightP cs m x),H):=by
 have hvc:vc.cells=[vc]:=by
   obtain ⟨⟨l,e,hs,hc'⟩,n⟩:=hc
   exact hs.cells
 unfold rightP
 cases k0:eqB x.kind 0 with
 | true=>exact right_launch hc hm ha hi32 ((eqB_iff _ _).1 k0)
 | false =>
   cases k1:eqB x.kind 1 with
   | true=>exact right_copy hm ha ((eqB_iff _ _).1 k1)
   | false =>
     cases k2:eqB x.kind 2 with
     | true=>exact right_fill hm ha ((eqB_iff _ _).1 k2)
     | false =>
       cases k3:eqB x.kind 3 with
       | true=>exact right_ev3 hm ha ((eqB_iff _ _).1 k3)
       | false =>
         cases k4:eqB x.kind 4 with
         | true=>exact right_ev4 hm ha ((eqB_iff _ _).1 k4)
         | false=>exact right_none hm ha k0 k1 k2 k3 k4
end Go.Dv
