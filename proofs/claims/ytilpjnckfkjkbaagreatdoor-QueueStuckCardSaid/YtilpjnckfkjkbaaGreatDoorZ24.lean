/- Part 24 of the walks (own work). -/
import Derived.Test.YtilpjnckfkjkbaaGreatDoorZ23
import Derived.Test.YtilpjnckfkjkbaaGreatDoorZ15
set_option maxRecDepth 100000
set_option maxHeartbeats 4000000
set_option linter.unusedSimpArgs false
set_option linter.unusedVariables false
namespace Go.Dv
open Go.Proofs
attribute [local congr] bind_congr_first cb_congr condA_congr gd_congr br_congr
theorem reg39_2 {tm:List AV} {G:AH} {m:List (List Int)} {va:AV} (hac:va.cells=[va]) (hao:va.one=true) (k c g b s d e w:Int) (hlen:tm.length=162) (h5:tm.getD 5 uA=.ptr G.length 0) (h7:tm.getD 7 uA=I m.length) :
   ∃ tm',EvC Tryz.prog C0 W0 pl39 (atPath [true,true,false] (Tryz.f39.body.getD .skip)) (tm,G++[.cells [I k,I c,I g,I b,I s,I d,I e,va,.int .i32 w] 34])=some (.normal,(tm',G++[.cells [I k,I c,I g,I b,I s,I d,I e,va,.int .i32 w] 34]))/\tm'.length=162/\tm'.getD 8 uA=.bool (inB m s)/\tm'.getD 9 uA=.bool (inB m d)/\tm'.getD 0 uA=tm.getD 0 uA/\tm'.getD 1 uA=tm.getD 1 uA/\tm'.getD 5 uA=tm.getD 5 uA:=by
 unfold inB
 cases q0:leB 0 s <;> cases q1:ltB s (m.length:Int) <;> cases q2:leB 0 d <;> cases q3:ltB d (m.length:Int) <;>
   (simp (maxSteps:=4000000) -implicitDefEqProofs only [atPath,Tryz.f39,Option.getD_some,hlen,h5,h7,plr39_2,r5,↓evLd,q0,q1,q2,q3,↓hac,↓hao,↓cbT,↓cbF,↓evDn,evUp,eu,sevalprocAttr]
    exact ⟨_,rfl,by simp only [ls,hlen],by simp only [hlen,h5,h7,gB,and_self,sevalprocAttr]⟩)
theorem reg39_2' {tm:List AV} {G:AH} {m:List (List Int)} {va:AV} (hac:va.cells=[va]) (hao:va.one=true) {k c g b s d e w:Int} {R:Option (AExit × St)} (hR:EvC Tryz.prog C0 W0 pl39 (atPath [true,true,false] c39) (tm,G++[.cells [I k,I c,I g,I b,I s,I d,I e,va,.int .i32 w] 34])=R) (hlen:tm.length=162) (h5:tm.getD 5 uA=.ptr G.length 0) (h7:tm.getD 7 uA=I m.length) :
   ∃ tm',R=some (.normal,(tm',G++[.cells [I k,I c,I g,I b,I s,I d,I e,va,.int .i32 w] 34]))/\tm'.length=162/\tm'.getD 8 uA=.bool (inB m s)/\tm'.getD 9 uA=.bool (inB m d)/\tm'.getD 0 uA=tm.getD 0 uA/\tm'.getD 1 uA=tm.getD 1 uA/\tm'.getD 5 uA=tm.getD 5 uA:=by
 subst hR
 exact reg39_2 hac hao k c g b s d e w hlen h5 h7
theorem refr_0 {H:AH} {cs:List Cod} {m:List (List Int)} {vc vm:AV} (hc:CodsR H cs vc) (hm:MemR H m vm) {x:Itm} {va:AV} (ha:SlS 32 1 H va (x.args.map row1)) (hi32:∀ a∈x.args,i32R a) (hk:x.kind=0):Ev Tryz.prog C0 W0 39 [vc,vm,.agg (rowX x va)] H=some (.bool (eqB x.src 0 && eqB x.dst 0 && eqB x.ev 0 && eqB x.word 0 && leB 0 x.code && ltB x.code cs.length && fitsL (codAt cs x.code.toNat) (codAt cs x.code.toNat).name x m),H):=by
 obtain ⟨tm,ht,g0,g1,g2,g3⟩:=tm3 vc vm (.agg (rowX x va)) 162 (by decide)
 rw [fe39,ht]
 rw [<-List.append_nil (ro H)]
 obtain ⟨kind,code,grid,block,src,dst,ev,args,word⟩:=x
 simp only at ha hk hi32 ⊢
 have hla:=sl32 ha.ro
 have hlc:=hc.ro.len
 have hlm:=hm.ro.len
 have hac:=ha.cells
 have hao:=ha.one
 have h71:=fun L=>ev71 (x:=⟨kind,code,grid,block,src,dst,ev,args,word⟩) (ha.ro.app L)
 simp only [rowX] at h71
 simp (maxSteps:=4000000) -implicitDefEqProofs only [c39,Tryz.f39,aP,g0,g1,g2,g3,rowX,r5,↓evLd,st34,z34',st3,hlm,↓hac,↓hao,↓cbT,↓cbF,↓evDn,evUp,eu,sevalprocAttr]
 generalize hR:EvC Tryz.prog C0 W0 _ (Code.region _ _ _) _=R
 obtain ⟨t,he,hlen,t8,t9,t0,t1,t5⟩:=reg39_2' (m:=m) hac hao hR (by simp only [ls,g0]) (by simp only [g0,gB,sevalprocAttr]) (by simp only [g0,gB,sevalprocAttr])
 subst he
 simp only [g0,g1,g2,g3,gB,sevalprocAttr] at t0 t1 t5
 subst hk
 have e0:eqB 0 0=true:=rfl
 have e1:eqB 0 1=false:=rfl
 have e2:eqB 0 2=false:=rfl
 have e3:eqB 0 3=false:=rfl
 have e4:eqB 0 4=false:=rfl
 cases h0:eqB src 0 with
 | false=>simp (maxSteps:=4000000) -implicitDefEqProofs only [aP,hlen,t0,t1,t5,t8,t9,rowX,r5,↓evLd,hla,hlc,plr39_5,plr39_7,↓fc71,rds71,h71,↓hac,↓hao,e0,e1,e2,e3,e4,h0,↓cbT,↓cbF,↓evDn,evUp,eu,sevalprocAttr]
 | true =>
   cases h1:eqB dst 0 with
   | false=>simp (maxSteps:=4000000) -implicitDefEqProofs only [aP,hlen,t0,t1,t5,t8,t9,rowX,r5,↓evLd,hla,hlc,plr39_5,plr39_7,↓fc71,rds71,h71,↓hac,↓hao,e0,e1,e2,e3,e4,h0,h1,↓cbT,↓cbF,↓evDn,evUp,eu,sevalprocAttr]
   | true =>
     cases h2:eqB ev 0 with
     | false=>simp (maxSteps:=4000000) -implicitDefEqProofs only [aP,hlen,t0,t1,t5,t8,t9,rowX,r5,↓evLd,hla,hlc,plr39_5,plr39_7,↓fc71,rds71,h71,↓hac,↓hao,e0,e1,e2,e3,e4,h0,h1,h2,↓cbT,↓cbF,↓evDn,evUp,eu,sevalprocAttr]
     | true =>
       cases h3:eqB word 0 with
       | false=>simp (maxSteps:=4000000) -implicitDefEqProofs only [aP,hlen,t0,t1,t5,t8,t9,rowX,r5,↓evLd,hla,hlc,plr39_5,plr39_7,↓fc71,rds71,h71,↓hac,↓hao,e0,e1,e2,e3,e4,h0,h1,h2,h3,↓cbT,↓cbF,↓evDn,evUp,eu,sevalprocAttr]
       | true =>
         cases h4:leB 0 code with
         | false=>simp (maxSteps:=4000000) -implicitDefEqProofs only [aP,hlen,t0,t1,t5,t8,t9,rowX,r5,↓evLd,hla,hlc,plr39_5,plr39_7,↓fc71,rds71,h71,↓hac,↓hao,e0,e1,e2,e3,e4,h0,h1,h2,h3,h4,↓cbT,↓cbF,↓evDn,evUp,eu,sevalprocAttr]
         | true =>
           cases h5:ltB code (cs.length:Int) with
           | false=>simp (maxSteps:=4000000) -implicitDefEqProofs only [aP,hlen,t0,t1,t5,t8,t9,rowX,r5,↓evLd,hla,hlc,plr39_5,plr39_7,↓fc71,rds71,h71,↓hac,↓hao,e0,e1,e2,e3,e4,h0,h1,h2,h3,h4,h5,↓cbT,↓cbF,↓evDn,evUp,eu,sevalprocAttr]
           | true =>
             have b0:=h4
             have b1:=h5
             rw [leB_iff] at b0
             rw [ltB_iff] at b1
             obtain ⟨j,rfl⟩:∃ j:Nat,code=j:=⟨code.toNat,by omega⟩
             obtain ⟨i0,k0,vp,vs,vi,hix,hrd,hcd⟩:=hc.ro.at (Agree.refl _) (j:=j) (by omega)
             have h70:=fun L=>ev70 (x:=⟨0,j,grid,block,src,dst,ev,args,word⟩) (hcd.agree (Agree.app (ro H) L)) (ha.ro.app L)
             have h69:=fun L=>ev69 (x:=⟨0,j,grid,block,src,dst,ev,args,word⟩) (nm:=(codAt cs j).name) (hcd.agree (Agree.app (ro H) L)) (ha.ro.app L) hi32 (hm.ro.agree (Agree.app (ro H) L))
             simp only [rowC,rowL,rowX] at h70 h69 hrd
             rw [show ((j:Int)).toNat=j from Int.toNat_natCast j]
             cases h6:fitsL (codAt cs j) (codAt cs j).name ⟨0,j,grid,block,src,dst,ev,args,word⟩ m with
             | false=>simp (maxSteps:=4000000) -implicitDefEqProofs only [aP,hlen,t0,t1,t5,t8,t9,rowX,r5,↓evLd,hla,hlc,plr39_5,plr39_7,↓fc71,rds71,h71,↓hac,↓hao,e0,e1,e2,e3,e4,↓fc70,↓fc69,rds70,rds69,hix,hrd,h70,h69,h0,h1,h2,h3,h4,h5,h6,↓cbT,↓cbF,↓evDn,evUp,eu,sevalprocAttr]
             | true =>
               simp (maxSteps:=4000000) -implicitDefEqProofs only [aP,hlen,t0,t1,t5,t8,t9,rowX,r5,↓evLd,hla,hlc,plr39_5,plr39_7,↓fc71,rds71,h71,↓hac,↓hao,e0,e1,e2,e3,e4,↓fc70,↓fc69,rds70,rds69,hix,hrd,h70,h69,h0,h1,h2,h3,h4,h5,h6,↓cbT,↓cbF,↓evDn,evUp,eu,sevalprocAttr]
theorem refr_1 {H:AH} {cs:List Cod} {m:List (List Int)} {vc vm:AV} (hc:CodsR H cs vc) (hm:MemR H m vm) {x:Itm} {va:AV} (ha:SlS 32 1 H va (x.args.map row1)) (hi32:∀ a∈x.args,i32R a) (hk:x.kind=1):Ev Tryz.prog C0 W0 39 [vc,vm,.agg (rowX x va)] H=some (.bool (bareP x && eqB x.ev 0 && eqB x.word 0 && inB m x.src && inB m x.dst && eqB (lenB m x.src) (lenB m x.dst)),H):=by
 obtain ⟨tm,ht,g0,g1,g2,g3⟩:=tm3 vc vm (.agg (rowX x va)) 162 (by decide)
 rw [fe39,ht]
 rw [<-List.append_nil (ro H)]
 obtain ⟨kind,code,grid,block,src,dst,ev,args,word⟩:=x
 simp only at ha hk hi32 ⊢
 have hla:=sl32 ha.ro
 have hlc:=hc.ro.len
 have hlm:=hm.ro.len
 have hac:=ha.cells
 have hao:=ha.one
 have h71:=fun L=>ev71 (x:=⟨kind,code,grid,block,src,dst,ev,args,word⟩) (ha.ro.app L)
 simp only [rowX] at h71
 simp (maxSteps:=4000000) -implicitDefEqProofs only [c39,Tryz.f39,aP,g0,g1,g2,g3,rowX,r5,↓evLd,st34,z34',st3,hlm,↓hac,↓hao,↓cbT,↓cbF,↓evDn,evUp,eu,sevalprocAttr]
 generalize hR:EvC Tryz.prog C0 W0 _ (Code.region _ _ _) _=R
 obtain ⟨t,he,hlen,t8,t9,t0,t1,t5⟩:=reg39_2' (m:=m) hac hao hR (by simp only [ls,g0]) (by simp only [g0,gB,sevalprocAttr]) (by simp only [g0,gB,sevalprocAttr])
 subst he
 simp only [g0,g1,g2,g3,gB,sevalprocAttr] at t0 t1 t5
 subst hk
 have e0:eqB 1 0=false:=rfl
 have e1:eqB 1 1=true:=rfl
 have e2:eqB 1 2=false:=rfl
 have e3:eqB 1 3=false:=rfl
 have e4:eqB 1 4=false:=rfl
 cases h0:bareP ⟨1,code,grid,block,src,dst,ev,args,word⟩ with
 | false=>simp (maxSteps:=4000000) -implicitDefEqProofs only [aP,hlen,t0,t1,t5,t8,t9,rowX,r5,↓evLd,hla,hlc,plr39_5,plr39_7,↓fc71,rds71,h71,↓hac,↓hao,e0,e1,e2,e3,e4,h0,↓cbT,↓cbF,↓evDn,evUp,eu,sevalprocAttr]
 | true =>
   cases h1:eqB ev 0 with
   | false=>simp (maxSteps:=4000000) -implicitDefEqProofs only [aP,hlen,t0,t1,t5,t8,t9,rowX,r5,↓evLd,hla,hlc,plr39_5,plr39_7,↓fc71,rds71,h71,↓hac,↓hao,e0,e1,e2,e3,e4,h0,h1,↓cbT,↓cbF,↓evDn,evUp,eu,sevalprocAttr]
   | true =>
     cases h2:eqB word 0 with
     | false=>simp (maxSteps:=4000000) -implicitDefEqProofs only [aP,hlen,t0,t1,t5,t8,t9,rowX,r5,↓evLd,hla,hlc,plr39_5,plr39_7,↓fc71,rds71,h71,↓hac,↓hao,e0,e1,e2,e3,e4,h0,h1,h2,↓cbT,↓cbF,↓evDn,evUp,eu,sevalprocAttr]
     | true =>
       cases h3:inB m src with
       | false=>simp (maxSteps:=4000000) -implicitDefEqProofs only [aP,hlen,t0,t1,t5,t8,t9,rowX,r5,↓evLd,hla,hlc,plr39_5,plr39_7,↓fc71,rds71,h71,↓hac,↓hao,e0,e1,e2,e3,e4,h0,h1,h2,h3,↓cbT,↓cbF,↓evDn,evUp,eu,sevalprocAttr]
       | true =>
         cases h4:inB m dst with
         | false=>simp (maxSteps:=4000000) -implicitDefEqProofs only [aP,hlen,t0,t1,t5,t8,t9,rowX,r5,↓evLd,hla,hlc,plr39_5,plr39_7,↓fc71,rds71,h71,↓hac,↓hao,e0,e1,e2,e3,e4,h0,h1,h2,h3,h4,↓cbT,↓cbF,↓evDn,evUp,eu,sevalprocAttr]
         | true =>
           have b0:=h3
           have b1:=h4
           unfold inB at b0 b1
           rw [Bool.and_eq_true,leB_iff,ltB_iff] at b0 b1
           obtain ⟨j0,rfl⟩:∃ j:Nat,src=j:=⟨src.toNat,by omega⟩
           obtain ⟨j1,rfl⟩:∃ j:Nat,dst=j:=⟨dst.toNat,by omega⟩
           obtain ⟨i0,k0,w0,hix0,hrd0,hw0⟩:=hm.ro.at (Agree.refl _) (j:=j0) (by omega)
           obtain ⟨i1,k1,w1,hix1,hrd1,hw1⟩:=hm.ro.at (Agree.refl _) (j:=j1) (by omega)
           have hl0:=sl32 hw0
           have hl1:=sl32 hw1
           have hn0:lenB m (j0:Int)=((bufOf m j0).length:Int):=rfl
           have hn1:lenB m (j1:Int)=((bufOf m j1).length:Int):=rfl
           rw [hn0,hn1]
           cases h5:eqB ((bufOf m j0).length:Int) ((bufOf m j1).length:Int) with
           | false=>simp (maxSteps:=4000000) -implicitDefEqProofs only [aP,hlen,t0,t1,t5,t8,t9,rowX,r5,↓evLd,hla,hlc,plr39_5,plr39_7,↓fc71,rds71,h71,↓hac,↓hao,e0,e1,e2,e3,e4,hix0,hix1,hrd0,hrd1,hl0,hl1,h0,h1,h2,h3,h4,h5,↓cbT,↓cbF,↓evDn,evUp,eu,sevalprocAttr]
           | true =>
             simp (maxSteps:=4000000) -implicitDefEqProofs only [aP,hlen,t0,t1,t5,t8,t9,rowX,r5,↓evLd,hla,hlc,plr39_5,plr39_7,↓fc71,rds71,h71,↓hac,↓hao,e0,e1,e2,e3,e4,hix0,hix1,hrd0,hrd1,hl0,hl1,h0,h1,h2,h3,h4,h5,↓cbT,↓cbF,↓evDn,evUp,eu,sevalprocAttr]
theorem refr_2 {H:AH} {cs:List Cod} {m:List (List Int)} {vc vm:AV} (hc:CodsR H cs vc) (hm:MemR H m vm) {x:Itm} {va:AV} (ha:SlS 32 1 H va (x.args.map row1)) (hi32:∀ a∈x.args,i32R a) (hk:x.kind=2):Ev Tryz.prog C0 W0 39 [vc,vm,.agg (rowX x va)] H=some (.bool (bareP x && eqB x.ev 0 && eqB x.src 0 && inB m x.dst),H):=by
 obtain ⟨tm,ht,g0,g1,g2,g3⟩:=tm3 vc vm (.agg (rowX x va)) 162 (by decide)
 rw [fe39,ht]
 rw [<-List.append_nil (ro H)]
 obtain ⟨kind,code,grid,block,src,dst,ev,args,word⟩:=x
 simp only at ha hk hi32 ⊢
 have hla:=sl32 ha.ro
 have hlc:=hc.ro.len
 have hlm:=hm.ro.len
 have hac:=ha.cells
 have hao:=ha.one
 have h71:=fun L=>ev71 (x:=⟨kind,code,grid,block,src,dst,ev,args,word⟩) (ha.ro.app L)
 simp only [rowX] at h71
 simp (maxSteps:=4000000) -implicitDefEqProofs only [c39,Tryz.f39,aP,g0,g1,g2,g3,rowX,r5,↓evLd,st34,z34',st3,hlm,↓hac,↓hao,↓cbT,↓cbF,↓evDn,evUp,eu,sevalprocAttr]
 generalize hR:EvC Tryz.prog C0 W0 _ (Code.region _ _ _) _=R
 obtain ⟨t,he,hlen,t8,t9,t0,t1,t5⟩:=reg39_2' (m:=m) hac hao hR (by simp only [ls,g0]) (by simp only [g0,gB,sevalprocAttr]) (by simp only [g0,gB,sevalprocAttr])
 subst he
 simp only [g0,g1,g2,g3,gB,sevalprocAttr] at t0 t1 t5
 subst hk
 have e0:eqB 2 0=false:=rfl
 have e1:eqB 2 1=false:=rfl
 have e2:eqB 2 2=true:=rfl
 have e3:eqB 2 3=false:=rfl
 have e4:eqB 2 4=false:=rfl
 cases h0:bareP ⟨2,code,grid,block,src,dst,ev,args,word⟩ with
 | false=>simp (maxSteps:=4000000) -implicitDefEqProofs only [aP,hlen,t0,t1,t5,t8,t9,rowX,r5,↓evLd,hla,hlc,plr39_5,plr39_7,↓fc71,rds71,h71,↓hac,↓hao,e0,e1,e2,e3,e4,h0,↓cbT,↓cbF,↓evDn,evUp,eu,sevalprocAttr]
 | true =>
   cases h1:eqB ev 0 with
   | false=>simp (maxSteps:=4000000) -implicitDefEqProofs only [aP,hlen,t0,t1,t5,t8,t9,rowX,r5,↓evLd,hla,hlc,plr39_5,plr39_7,↓fc71,rds71,h71,↓hac,↓hao,e0,e1,e2,e3,e4,h0,h1,↓cbT,↓cbF,↓evDn,evUp,eu,sevalprocAttr]
   | true =>
     cases h2:eqB src 0 with
     | false=>simp (maxSteps:=4000000) -implicitDefEqProofs only [aP,hlen,t0,t1,t5,t8,t9,rowX,r5,↓evLd,hla,hlc,plr39_5,plr39_7,↓fc71,rds71,h71,↓hac,↓hao,e0,e1,e2,e3,e4,h0,h1,h2,↓cbT,↓cbF,↓evDn,evUp,eu,sevalprocAttr]
     | true =>
       cases h3:inB m dst with
       | false=>simp (maxSteps:=4000000) -implicitDefEqProofs only [aP,hlen,t0,t1,t5,t8,t9,rowX,r5,↓evLd,hla,hlc,plr39_5,plr39_7,↓fc71,rds71,h71,↓hac,↓hao,e0,e1,e2,e3,e4,h0,h1,h2,h3,↓cbT,↓cbF,↓evDn,evUp,eu,sevalprocAttr]
       | true =>
         simp (maxSteps:=4000000) -implicitDefEqProofs only [aP,hlen,t0,t1,t5,t8,t9,rowX,r5,↓evLd,hla,hlc,plr39_5,plr39_7,↓fc71,rds71,h71,↓hac,↓hao,e0,e1,e2,e3,e4,h0,h1,h2,h3,↓cbT,↓cbF,↓evDn,evUp,eu,sevalprocAttr]
theorem refr_3 {H:AH} {cs:List Cod} {m:List (List Int)} {vc vm:AV} (hc:CodsR H cs vc) (hm:MemR H m vm) {x:Itm} {va:AV} (ha:SlS 32 1 H va (x.args.map row1)) (hi32:∀ a∈x.args,i32R a) (hk:x.kind=3):Ev Tryz.prog C0 W0 39 [vc,vm,.agg (rowX x va)] H=some (.bool (bareP x && eqB x.src 0 && eqB x.dst 0 && eqB x.word 0 && leB 0 x.ev && leB x.ev 15),H):=by
 obtain ⟨tm,ht,g0,g1,g2,g3⟩:=tm3 vc vm (.agg (rowX x va)) 162 (by decide)
 rw [fe39,ht]
 rw [<-List.append_nil (ro H)]
 obtain ⟨kind,code,grid,block,src,dst,ev,args,word⟩:=x
 simp only at ha hk hi32 ⊢
 have hla:=sl32 ha.ro
 have hlc:=hc.ro.len
 have hlm:=hm.ro.len
 have hac:=ha.cells
 have hao:=ha.one
 have h71:=fun L=>ev71 (x:=⟨kind,code,grid,block,src,dst,ev,args,word⟩) (ha.ro.app L)
 simp only [rowX] at h71
 simp (maxSteps:=4000000) -implicitDefEqProofs only [c39,Tryz.f39,aP,g0,g1,g2,g3,rowX,r5,↓evLd,st34,z34',st3,hlm,↓hac,↓hao,↓cbT,↓cbF,↓evDn,evUp,eu,sevalprocAttr]
 generalize hR:EvC Tryz.prog C0 W0 _ (Code.region _ _ _) _=R
 obtain ⟨t,he,hlen,t8,t9,t0,t1,t5⟩:=reg39_2' (m:=m) hac hao hR (by simp only [ls,g0]) (by simp only [g0,gB,sevalprocAttr]) (by simp only [g0,gB,sevalprocAttr])
 subst he
 simp only [g0,g1,g2,g3,gB,sevalprocAttr] at t0 t1 t5
 subst hk
 have e0:eqB 3 0=false:=rfl
 have e1:eqB 3 1=false:=rfl
 have e2:eqB 3 2=false:=rfl
 have e3:eqB 3 3=true:=rfl
 have e4:eqB 3 4=false:=rfl
 cases h0:bareP ⟨3,code,grid,block,src,dst,ev,args,word⟩ with
 | false=>simp (maxSteps:=4000000) -implicitDefEqProofs only [aP,hlen,t0,t1,t5,t8,t9,rowX,r5,↓evLd,hla,hlc,plr39_5,plr39_7,↓fc71,rds71,h71,↓hac,↓hao,e0,e1,e2,e3,e4,h0,↓cbT,↓cbF,↓evDn,evUp,eu,sevalprocAttr]
 | true =>
   cases h1:eqB src 0 with
   | false=>simp (maxSteps:=4000000) -implicitDefEqProofs only [aP,hlen,t0,t1,t5,t8,t9,rowX,r5,↓evLd,hla,hlc,plr39_5,plr39_7,↓fc71,rds71,h71,↓hac,↓hao,e0,e1,e2,e3,e4,h0,h1,↓cbT,↓cbF,↓evDn,evUp,eu,sevalprocAttr]
   | true =>
     cases h2:eqB dst 0 with
     | false=>simp (maxSteps:=4000000) -implicitDefEqProofs only [aP,hlen,t0,t1,t5,t8,t9,rowX,r5,↓evLd,hla,hlc,plr39_5,plr39_7,↓fc71,rds71,h71,↓hac,↓hao,e0,e1,e2,e3,e4,h0,h1,h2,↓cbT,↓cbF,↓evDn,evUp,eu,sevalprocAttr]
     | true =>
       cases h3:eqB word 0 with
       | false=>simp (maxSteps:=4000000) -implicitDefEqProofs only [aP,hlen,t0,t1,t5,t8,t9,rowX,r5,↓evLd,hla,hlc,plr39_5,plr39_7,↓fc71,rds71,h71,↓hac,↓hao,e0,e1,e2,e3,e4,h0,h1,h2,h3,↓cbT,↓cbF,↓evDn,evUp,eu,sevalprocAttr]
       | true =>
         cases h4:leB 0 ev with
         | false=>simp (maxSteps:=4000000) -implicitDefEqProofs only [aP,hlen,t0,t1,t5,t8,t9,rowX,r5,↓evLd,hla,hlc,plr39_5,plr39_7,↓fc71,rds71,h71,↓hac,↓hao,e0,e1,e2,e3,e4,h0,h1,h2,h3,h4,↓cbT,↓cbF,↓evDn,evUp,eu,sevalprocAttr]
         | true =>
           cases h5:leB ev 15 with
           | false=>simp (maxSteps:=4000000) -implicitDefEqProofs only [aP,hlen,t0,t1,t5,t8,t9,rowX,r5,↓evLd,hla,hlc,plr39_5,plr39_7,↓fc71,rds71,h71,↓hac,↓hao,e0,e1,e2,e3,e4,h0,h1,h2,h3,h4,h5,↓cbT,↓cbF,↓evDn,evUp,eu,sevalprocAttr]
           | true =>
             simp (maxSteps:=4000000) -implicitDefEqProofs only [aP,hlen,t0,t1,t5,t8,t9,rowX,r5,↓evLd,hla,hlc,plr39_5,plr39_7,↓fc71,rds71,h71,↓hac,↓hao,e0,e1,e2,e3,e4,h0,h1,h2,h3,h4,h5,↓cbT,↓cbF,↓evDn,evUp,eu,sevalprocAttr]
theorem refr_4 {H:AH} {cs:List Cod} {m:List (List Int)} {vc vm:AV} (hc:CodsR H cs vc) (hm:MemR H m vm) {x:Itm} {va:AV} (ha:SlS 32 1 H va (x.args.map row1)) (hi32:∀ a∈x.args,i32R a) (hk:x.kind=4):Ev Tryz.prog C0 W0 39 [vc,vm,.agg (rowX x va)] H=some (.bool (bareP x && eqB x.src 0 && eqB x.dst 0 && eqB x.word 0 && leB 0 x.ev && leB x.ev 15),H):=by
 obtain ⟨tm,ht,g0,g1,g2,g3⟩:=tm3 vc vm (.agg (rowX x va)) 162 (by decide)
 rw [fe39,ht]
 rw [<-List.append_nil (ro H)]
 obtain ⟨kind,code,grid,block,src,dst,ev,args,word⟩:=x
 simp only at ha hk hi32 ⊢
 have hla:=sl32 ha.ro
 have hlc:=hc.ro.len
 have hlm:=hm.ro.len
 have hac:=ha.cells
 have hao:=ha.one
 have h71:=fun L=>ev71 (x:=⟨kind,code,grid,block,src,dst,ev,args,word⟩) (ha.ro.app L)
 simp only [rowX] at h71
 simp (maxSteps:=4000000) -implicitDefEqProofs only [c39,Tryz.f39,aP,g0,g1,g2,g3,rowX,r5,↓evLd,st34,z34',st3,hlm,↓hac,↓hao,↓cbT,↓cbF,↓evDn,evUp,eu,sevalprocAttr]
 generalize hR:EvC Tryz.prog C0 W0 _ (Code.region _ _ _) _=R
 obtain ⟨t,he,hlen,t8,t9,t0,t1,t5⟩:=reg39_2' (m:=m) hac hao hR (by simp only [ls,g0]) (by simp only [g0,gB,sevalprocAttr]) (by simp only [g0,gB,sevalprocAttr])
 subst he
 simp only [g0,g1,g2,g3,gB,sevalprocAttr] at t0 t1 t5
 subst hk
 have e0:eqB 4 0=false:=rfl
 have e1:eqB 4 1=false:=rfl
 have e2:eqB 4 2=false:=rfl
 have e3:eqB 4 3=false:=rfl
 have e4:eqB 4 4=true:=rfl
 cases h0:bareP ⟨4,code,grid,block,src,dst,ev,args,word⟩ with
 | false=>simp (maxSteps:=4000000) -implicitDefEqProofs only [aP,hlen,t0,t1,t5,t8,t9,rowX,r5,↓evLd,hla,hlc,plr39_5,plr39_7,↓fc71,rds71,h71,↓hac,↓hao,e0,e1,e2,e3,e4,h0,↓cbT,↓cbF,↓evDn,evUp,eu,sevalprocAttr]
 | true =>
   cases h1:eqB src 0 with
   | false=>simp (maxSteps:=4000000) -implicitDefEqProofs only [aP,hlen,t0,t1,t5,t8,t9,rowX,r5,↓evLd,hla,hlc,plr39_5,plr39_7,↓fc71,rds71,h71,↓hac,↓hao,e0,e1,e2,e3,e4,h0,h1,↓cbT,↓cbF,↓evDn,evUp,eu,sevalprocAttr]
   | true =>
     cases h2:eqB dst 0 with
     | false=>simp (maxSteps:=4000000) -implicitDefEqProofs only [aP,hlen,t0,t1,t5,t8,t9,rowX,r5,↓evLd,hla,hlc,plr39_5,plr39_7,↓fc71,rds71,h71,↓hac,↓hao,e0,e1,e2,e3,e4,h0,h1,h2,↓cbT,↓cbF,↓evDn,evUp,eu,sevalprocAttr]
     | true =>
       cases h3:eqB word 0 with
       | false=>simp (maxSteps:=4000000) -implicitDefEqProofs only [aP,hlen,t0,t1,t5,t8,t9,rowX,r5,↓evLd,hla,hlc,plr39_5,plr39_7,↓fc71,rds71,h71,↓hac,↓hao,e0,e1,e2,e3,e4,h0,h1,h2,h3,↓cbT,↓cbF,↓evDn,evUp,eu,sevalprocAttr]
       | true =>
         cases h4:leB 0 ev with
         | false=>simp (maxSteps:=4000000) -implicitDefEqProofs only [aP,hlen,t0,t1,t5,t8,t9,rowX,r5,↓evLd,hla,hlc,plr39_5,plr39_7,↓fc71,rds71,h71,↓hac,↓hao,e0,e1,e2,e3,e4,h0,h1,h2,h3,h4,↓cbT,↓cbF,↓evDn,evUp,eu,sevalprocAttr]
         | true =>
           cases h5:leB ev 15 with
           | false=>simp (maxSteps:=4000000) -implicitDefEqProofs only [aP,hlen,t0,t1,t5,t8,t9,rowX,r5,↓evLd,hla,hlc,plr39_5,plr39_7,↓fc71,rds71,h71,↓hac,↓hao,e0,e1,e2,e3,e4,h0,h1,h2,h3,h4,h5,↓cbT,↓cbF,↓evDn,evUp,eu,sevalprocAttr]
           | true =>
             simp (maxSteps:=4000000) -implicitDefEqProofs only [aP,hlen,t0,t1,t5,t8,t9,rowX,r5,↓evLd,hla,hlc,plr39_5,plr39_7,↓fc71,rds71,h71,↓hac,↓hao,e0,e1,e2,e3,e4,h0,h1,h2,h3,h4,h5,↓cbT,↓cbF,↓evDn,evUp,eu,sevalprocAttr]
theorem refr_none {H:AH} {cs:List Cod} {m:List (List Int)} {vc vm:AV} (hc:CodsR H cs vc) (hm:MemR H m vm) {x:Itm} {va:AV} (ha:SlS 32 1 H va (x.args.map row1)) (hi32:∀ a∈x.args,i32R a) (hk:eqB x.kind 0=false/\eqB x.kind 1=false/\eqB x.kind 2=false/\eqB x.kind 3=false/\eqB x.kind 4=false):Ev Tryz.prog C0 W0 39 [vc,vm,.agg (rowX x va)] H=some (.bool (false),H):=by
 obtain ⟨tm,ht,g0,g1,g2,g3⟩:=tm3 vc vm (.agg (rowX x va)) 162 (by decide)
 rw [fe39,ht]
 rw [<-List.append_nil (ro H)]
 obtain ⟨kind,code,grid,block,src,dst,ev,args,word⟩:=x
 simp only at ha hk hi32 ⊢
 have hla:=sl32 ha.ro
 have hlc:=hc.ro.len
 have hlm:=hm.ro.len
 have hac:=ha.cells
 have hao:=ha.one
 have h71:=fun L=>ev71 (x:=⟨kind,code,grid,block,src,dst,ev,args,word⟩) (ha.ro.app L)
 simp only [rowX] at h71
 simp (maxSteps:=4000000) -implicitDefEqProofs only [c39,Tryz.f39,aP,g0,g1,g2,g3,rowX,r5,↓evLd,st34,z34',st3,hlm,↓hac,↓hao,↓cbT,↓cbF,↓evDn,evUp,eu,sevalprocAttr]
 generalize hR:EvC Tryz.prog C0 W0 _ (Code.region _ _ _) _=R
 obtain ⟨t,he,hlen,t8,t9,t0,t1,t5⟩:=reg39_2' (m:=m) hac hao hR (by simp only [ls,g0]) (by simp only [g0,gB,sevalprocAttr]) (by simp only [g0,gB,sevalprocAttr])
 subst he
 simp only [g0,g1,g2,g3,gB,sevalprocAttr] at t0 t1 t5
 simp (maxSteps:=4000000) -implicitDefEqProofs only [aP,hlen,t0,t1,t5,t8,t9,rowX,r5,↓evLd,hla,hlc,plr39_5,plr39_7,↓fc71,rds71,h71,↓hac,↓hao,hk.1,hk.2.1,hk.2.2.1,hk.2.2.2.1,hk.2.2.2.2,↓cbT,↓cbF,↓evDn,evUp,eu,sevalprocAttr]
theorem ev39 {H:AH} {cs:List Cod} {m:List (List Int)} {vc vm:AV} (hc:CodsR H cs vc) (hm:MemR H m vm) {x:Itm} {va:AV} (ha:SlS 32 1 H va (x.args.map row1)) (hi32:∀ a∈x.args,i32R a):Ev Tryz.prog C0 W0 39 [vc,vm,.agg (rowX x va)] H=some (.bool (rightP cs m x),H):=by
 unfold rightP
 cases k0:eqB x.kind 0 with
 | true =>
   rw [refr_0 hc hm ha hi32 ((eqB_iff _ _).1 k0)]
   refine congrArg (fun b=>some (AV.bool b,H)) ?_
   simp only [br_true]; ac_rfl
 | false =>
   cases k1:eqB x.kind 1 with
   | true =>
     rw [refr_1 hc hm ha hi32 ((eqB_iff _ _).1 k1)]
     refine congrArg (fun b=>some (AV.bool b,H)) ?_
     unfold bareP
     simp only [br_true,br_false]; ac_rfl
   | false =>
     cases k2:eqB x.kind 2 with
     | true =>
       rw [refr_2 hc hm ha hi32 ((eqB_iff _ _).1 k2)]
       refine congrArg (fun b=>some (AV.bool b,H)) ?_
       unfold bareP
       simp only [br_true,br_false]; ac_rfl
     | false =>
       cases k3:eqB x.kind 3 with
       | true =>
         rw [refr_3 hc hm ha hi32 ((eqB_iff _ _).1 k3),show leB x.ev 15=ltB x.ev 16 from (ltB_leB x.ev 15).symm]
         refine congrArg (fun b=>some (AV.bool b,H)) ?_
         unfold bareP
         simp only [br_true,br_false,Bool.true_or]; ac_rfl
       | false =>
         cases k4:eqB x.kind 4 with
         | true =>
           rw [refr_4 hc hm ha hi32 ((eqB_iff _ _).1 k4),show leB x.ev 15=ltB x.ev 16 from (ltB_leB x.ev 15).symm]
           refine congrArg (fun b=>some (AV.bool b,H)) ?_
           unfold bareP
           simp only [br_true,br_false,Bool.or_true]; ac_rfl
         | false=>exact refr_none hc hm ha hi32 ⟨k0,k1,k2,k3,k4⟩
def sumW (ss:List (List Itm)):Nat->Int
 | 0=>0
 | j+1=>IntKind.i64.wrap (sumW ss j+((strAt ss j).length:Int))
def rowR (cs:List Cod) (m:List (List Int)) (xs:List Itm):Bool:=allF (fun k=>rightP cs m (itmAt xs k)) xs.length 0
def allR (cs:List Cod) (m:List (List Int)) (ss:List (List Itm)):Bool:=allF (fun i=>rowR cs m (strAt ss i)) ss.length 0
def sizeP (cs:List Cod) (m:List (List Int)) (ss:List (List Itm)):Bool:=!ltB ss.length 1 && !ltB 4 ss.length && !ltB 4 cs.length && !ltB 24 (sumW ss ss.length) && !ltB 6 m.length && shortP m
def checkP (cs:List Cod) (m:List (List Int)) (ss:List (List Itm)) (f:Con):Int:=br (conP f && allV cs) (br (sizeP cs m ss) (br (allR cs m ss) 0 6) 5) 1
theorem chk_sum {G:AH} {ss:List (List Itm)} {vc vm vs:AV} (hs:StrsR G ss vs) (hN:ss.length < 2 ^ 60):∀ (d j:Nat) (tm:List AV) (K:AH),ss.length - j=d->j<=ss.length->(tm.length=81/\Agree G K/\tm.getD 0 uA=vc/\tm.getD 1 uA=vm/\tm.getD 2 uA=vs/\tm.getD 24 uA=vs/\tm.getD 25 uA=I ss.length/\tm.getD 26 uA=I ((j:Nat):Int)/\tm.getD 9 uA=I (sumW ss j)) ->
   ∃ X K1,EvC Tryz.prog C0 W0 plN l26_0 (tm,K)=some (.exit 0,(X,K1))/\(X.length=81/\Agree G K1/\X.getD 0 uA=vc/\X.getD 1 uA=vm/\X.getD 2 uA=vs/\X.getD 24 uA=vs/\X.getD 25 uA=I ss.length/\X.getD 26 uA=I ((ss.length:Nat):Int)/\X.getD 9 uA=I (sumW ss ss.length)):=by
 intro d
 induction d with
 | zero =>
   intro j tm K hd hj hI
   have hjl:j=ss.length:=by omega
   subst hjl
   have hI0:=hI
   obtain ⟨hlen,hA,h0,h1,h2,h24,h25,h26,h9⟩:=hI
   have hlt:ltB (((ss.length:Nat)):Int) (ss.length:Nat)=false:=ltB_f (by omega)
   rw [el26_0]
   simp (maxSteps:=4000000) -implicitDefEqProofs only [b26_0,Tryz.f26,aP,hlen,h0,h1,h2,h24,h25,h26,h9,hlt,↓cbT,↓cbF,↓evDn,evUp,eu,sevalprocAttr]
   refine ⟨_,K,rfl,?_⟩
   exact ⟨by first | exact hlen | simp only [List.length_set,hlen],by first | exact hA | exact hA.appR _,by simp only [hlen,h0,h1,h2,h24,h25,h26,h9,sumW,gB,and_self,sevalprocAttr]⟩
 | succ d ih =>
   intro j tm K hd hj hI
   have hI0:=hI
   obtain ⟨hlen,hA,h0,h1,h2,h24,h25,h26,h9⟩:=hI
   have hjN:j < ss.length:=by omega
   have hlt:ltB (j:Int) (ss.length:Nat)=true:=ltB_t (by omega)
   have hw:=inc_i (j:=j) (by omega)
   obtain ⟨i0,k0,w0,hix0,hrd0,hxs⟩:=hs.at hA hjN
   have hln:=hxs.len
   rw [el26_0]
   rw [<-List.append_nil K]
   have key:∀ (tmN:List AV) (KN:AH) (Z:Option (AExit × St)),EvC Tryz.prog C0 W0 plN l26_0 (tmN,KN)=Z->(tmN.length=81/\Agree G KN/\tmN.getD 0 uA=vc/\tmN.getD 1 uA=vm/\tmN.getD 2 uA=vs/\tmN.getD 24 uA=vs/\tmN.getD 25 uA=I ss.length/\tmN.getD 26 uA=I (((j+1):Nat):Int)/\tmN.getD 9 uA=I (sumW ss (j+1)))->∃ X K1,Z=some (.exit 0,(X,K1))/\(X.length=81/\Agree G K1/\X.getD 0 uA=vc/\X.getD 1 uA=vm/\X.getD 2 uA=vs/\X.getD 24 uA=vs/\X.getD 25 uA=I ss.length/\X.getD 26 uA=I ((ss.length:Nat):Int)/\X.getD 9 uA=I (sumW ss ss.length)):=by
     intro tmN KN Z h hJ
     obtain ⟨X,K1,A,B⟩:=ih (j+1) tmN KN (by omega) (by omega) hJ
     exact ⟨X,K1,h.symm.trans A,B⟩
   simp (maxSteps:=4000000) -implicitDefEqProofs only [b26_0,Tryz.f26,aP,hlen,h0,h1,h2,h24,h25,h26,h9,hlt,hw,hix0,hrd0,hln,r5,↓evLd,↓cbT,↓cbF,↓evDn,evUp,eu,sevalprocAttr]
   generalize hX:EvC Tryz.prog C0 W0 _ _ _=Z
   refine key _ _ _ hX ?_
   exact ⟨by first | exact hlen | simp only [List.length_set,hlen],by first | exact hA | exact hA.appR _,by simp only [hlen,h0,h1,h2,h24,h25,h26,h9,sumW,gB,and_self,sevalprocAttr]⟩
theorem chk_sum' {G:AH} {ss:List (List Itm)} {vc vm vs:AV} {tm:List AV} {K:AH} {Z:Option (AExit × St)} (hX:EvC Tryz.prog C0 W0 plN l26_0 (tm,K)=Z) (hs:StrsR G ss vs) (hN:ss.length < 2 ^ 60) (hI:tm.length=81/\Agree G K/\tm.getD 0 uA=vc/\tm.getD 1 uA=vm/\tm.getD 2 uA=vs/\tm.getD 24 uA=vs/\tm.getD 25 uA=I ss.length/\tm.getD 26 uA=I ((0:Nat):Int)/\tm.getD 9 uA=I (sumW ss 0)) :
   ∃ X K1,Z=some (.exit 0,(X,K1))/\(X.length=81/\Agree G K1/\X.getD 0 uA=vc/\X.getD 1 uA=vm/\X.getD 2 uA=vs/\X.getD 24 uA=vs/\X.getD 25 uA=I ss.length/\X.getD 26 uA=I ((ss.length:Nat):Int)/\X.getD 9 uA=I (sumW ss ss.length)):=by
 subst hX
 exact chk_sum hs hN (ss.length) 0 tm K (by omega) (by omega) hI
theorem chk_in {G:AH} {cs:List Cod} {m:List (List Int)} {ss:List (List Itm)} {vc vm vs:AV} {xs:List Itm} {w0:AV} {i:Nat} (hc:CodsR G cs vc) (hm:MemR G m vm) (hs:StrsR G ss vs) (hx:ItmsR G xs w0) (hN:xs.length < 2 ^ 60):∀ (d j:Nat) (tm:List AV) (K:AH),xs.length - j=d->j<=xs.length->Agree G K->tm.length=81->tm.getD 0 uA=vc->tm.getD 1 uA=vm->tm.getD 2 uA=vs->tm.getD 62 uA=vs->tm.getD 63 uA=I ss.length->tm.getD 64 uA=I ((i:Nat):Int)->tm.getD 68 uA=w0->tm.getD 69 uA=I xs.length->tm.getD 70 uA=I ((j:Nat):Int) ->
   ∃ X Y K1 K2,EvC Tryz.prog C0 W0 plN l26_1 (tm,K)=br (allF (fun j=>rightP cs m (itmAt xs j)) (xs.length) (j)) (some (.exit 4,(X,K1))) (some (.ret,(Y,K2)))/\(X.length=81/\Agree G K1/\X.getD 0 uA=vc/\X.getD 1 uA=vm/\X.getD 2 uA=vs/\X.getD 62 uA=vs/\X.getD 63 uA=I ss.length/\X.getD 64 uA=I ((i:Nat):Int)/\X.getD 68 uA=w0/\X.getD 69 uA=I xs.length)/\Y.length=81/\Y.getD 8 uA=I 6:=by
 intro d
 induction d with
 | zero =>
   intro j tm K hd hj hA hlen h0 h1 h2 h62 h63 h64 h68 h69 h70
   have hjl:j=xs.length:=by omega
   subst hjl
   have hlt:ltB (((xs.length:Nat)):Int) (xs.length:Nat)=false:=ltB_f (by omega)
   rw [allF_end (Nat.le_refl _),el26_1]
   simp (maxSteps:=4000000) -implicitDefEqProofs only [b26_1,Tryz.f26,aP,hlen,h0,h1,h2,h62,h63,h64,h68,h69,h70,hlt,↓cbT,↓cbF,↓evDn,evUp,eu,sevalprocAttr]
   exact ⟨_,tm.set 8 (I 6),_,K,rfl,⟨by first | exact hlen | simp only [List.length_set,hlen],hA,by first | exact h0 | simp only [hlen,h0,gB,sevalprocAttr],by first | exact h1 | simp only [hlen,h1,gB,sevalprocAttr],by first | exact h2 | simp only [hlen,h2,gB,sevalprocAttr],by first | exact h62 | simp only [hlen,h62,gB,sevalprocAttr],by first | exact h63 | simp only [hlen,h63,gB,sevalprocAttr],by first | exact h64 | simp only [hlen,h64,gB,sevalprocAttr],by first | exact h68 | simp only [hlen,h68,gB,sevalprocAttr],by first | exact h69 | simp only [hlen,h69,gB,sevalprocAttr]⟩,by simp only [ls,hlen],by simp only [hlen,gs_self,Nat.reduceLT]⟩
 | succ d ih =>
   intro j tm K hd hj hA hlen h0 h1 h2 h62 h63 h64 h68 h69 h70
   have hjN:j < xs.length:=by omega
   have hlt:ltB (j:Int) (xs.length:Nat)=true:=ltB_t (by omega)
   have hw:=inc_i (j:=j) (by omega)
   obtain ⟨i1,k1,w1,hix1,hrd1,ha1⟩:=hx.at hA hjN
   have he62:=fun L=>ev62 (hc.agree (hA.appR L)) (hm.agree (hA.appR L)) (ha1.same (hA.appR L)) (hx.im _ (itmAt_mem hjN))
   simp only [rowX] at hrd1 he62
   have hac:=ha1.cells
   have hao:=ha1.one
   rw [allF_step hjN,el26_1]
   rw [<-List.append_nil K]
   cases hp:(rightP cs m (itmAt xs j)) with
   | true =>
     simp only [Bool.true_and]
     simp (maxSteps:=4000000) -implicitDefEqProofs only [b26_1,Tryz.f26,aP,hlen,h0,h1,h2,h62,h63,h64,h68,h69,h70,hlt,hw,hix1,hrd1,↓hac,↓hao,z34',st34,↓fc62,he62,hp,r5,↓evLd,↓cbT,↓cbF,↓evDn,evUp,eu,sevalprocAttr]
     exact ih (j+1) _ _ (by omega) (by omega) (by first | exact hA | exact hA.appR _ | exact (hA.appR _).appR _) (by simp only [ls,hlen]) (by simp only [hlen,h0,gB,sevalprocAttr]) (by simp only [hlen,h1,gB,sevalprocAttr]) (by simp only [hlen,h2,gB,sevalprocAttr]) (by simp only [hlen,h62,gB,sevalprocAttr]) (by simp only [hlen,h63,gB,sevalprocAttr]) (by simp only [hlen,h64,gB,sevalprocAttr]) (by simp only [hlen,h68,gB,sevalprocAttr]) (by simp only [hlen,h69,gB,sevalprocAttr]) (by simp only [hlen,h70,gB,sevalprocAttr])
   | false =>
     simp only [Bool.false_and]
     simp (maxSteps:=4000000) -implicitDefEqProofs only [b26_1,Tryz.f26,aP,hlen,h0,h1,h2,h62,h63,h64,h68,h69,h70,hlt,hw,hix1,hrd1,↓hac,↓hao,z34',st34,↓fc62,he62,hp,r5,↓evLd,↓cbT,↓cbF,↓evDn,evUp,eu,sevalprocAttr]
     exact ⟨tm,_,K,_,rfl,⟨hlen,hA,h0,h1,h2,h62,h63,h64,h68,h69⟩,by simp only [ls,hlen],by simp only [hlen,gB,sevalprocAttr]⟩
theorem chk_in' {G:AH} {cs:List Cod} {m:List (List Int)} {ss:List (List Itm)} {vc vm vs:AV} {xs:List Itm} {w0:AV} {i:Nat} {tm:List AV} {K:AH} {Z:Option (AExit × St)} (hX:EvC Tryz.prog C0 W0 plN l26_1 (tm,K)=Z) (hc:CodsR G cs vc) (hm:MemR G m vm) (hs:StrsR G ss vs) (hx:ItmsR G xs w0) (hN:xs.length < 2 ^ 60) (hA:Agree G K) (hlen:tm.length=81) (h0:tm.getD 0 uA=vc) (h1:tm.getD 1 uA=vm) (h2:tm.getD 2 uA=vs) (h62:tm.getD 62 uA=vs) (h63:tm.getD 63 uA=I ss.length) (h64:tm.getD 64 uA=I ((i:Nat):Int)) (h68:tm.getD 68 uA=w0) (h69:tm.getD 69 uA=I xs.length) (h70:tm.getD 70 uA=I ((0:Nat):Int)) :
   ∃ X Y K1 K2,Z=br (allF (fun j=>rightP cs m (itmAt xs j)) (xs.length) (0)) (some (.exit 4,(X,K1))) (some (.ret,(Y,K2)))/\(X.length=81/\Agree G K1/\X.getD 0 uA=vc/\X.getD 1 uA=vm/\X.getD 2 uA=vs/\X.getD 62 uA=vs/\X.getD 63 uA=I ss.length/\X.getD 64 uA=I ((i:Nat):Int)/\X.getD 68 uA=w0/\X.getD 69 uA=I xs.length)/\Y.length=81/\Y.getD 8 uA=I 6:=by
 subst hX
 exact chk_in hc hm hs hx hN (xs.length) 0 tm K (by omega) (by omega) hA hlen h0 h1 h2 h62 h63 h64 h68 h69 h70
theorem chk_out {G:AH} {cs:List Cod} {m:List (List Int)} {ss:List (List Itm)} {vc vm vs:AV} (hc:CodsR G cs vc) (hm:MemR G m vm) (hs:StrsR G ss vs) (hN:ss.length < 2 ^ 60):∀ (d j:Nat) (tm:List AV) (K:AH),ss.length - j=d->j<=ss.length->(tm.length=81/\Agree G K/\tm.getD 0 uA=vc/\tm.getD 1 uA=vm/\tm.getD 2 uA=vs/\tm.getD 62 uA=vs/\tm.getD 63 uA=I ss.length/\tm.getD 64 uA=I ((j:Nat):Int)) ->
   ∃ X K1 Y K2,EvC Tryz.prog C0 W0 plN l26_2 (tm,K)=br (allF (fun j=>rowR cs m (strAt ss j)) (ss.length) (j)) (some (.exit 2,(X,K1))) (some (.ret,(Y,K2)))/\(allF (fun j=>rowR cs m (strAt ss j)) (ss.length) (j)=true->X.length=81/\Agree G K1/\X.getD 0 uA=vc/\X.getD 1 uA=vm/\X.getD 2 uA=vs/\X.getD 62 uA=vs/\X.getD 63 uA=I ss.length/\X.getD 64 uA=I ((ss.length:Nat):Int))/\Y.length=81/\Y.getD 8 uA=I 6:=by
 intro d
 induction d with
 | zero =>
   intro j tm K hd hj hI
   have hjl:j=ss.length:=by omega
   subst hjl
   have hI0:=hI
   obtain ⟨hlen,hA,h0,h1,h2,h62,h63,h64⟩:=hI
   have hlt:ltB (((ss.length:Nat)):Int) (ss.length:Nat)=false:=ltB_f (by omega)
   rw [allF_end (Nat.le_refl _)]
   rw [el26_2]
   simp (maxSteps:=4000000) -implicitDefEqProofs only [b26_2,Tryz.f26,aP,hlen,h0,h1,h2,h62,h63,h64,hlt,↓cbT,↓cbF,↓evDn,evUp,eu,sevalprocAttr]
   refine ⟨_,K,tm.set 8 (I 6),K,rfl,?_,by simp only [ls,hlen],by simp only [hlen,gs_self,Nat.reduceLT]⟩
   try intro _
   exact ⟨by first | exact hlen | simp only [List.length_set,hlen],hA,by simp only [hlen,h0,h1,h2,h62,h63,h64,gB,and_self,sevalprocAttr]⟩
 | succ d ih =>
   intro j tm K hd hj hI
   have hI0:=hI
   obtain ⟨hlen,hA,h0,h1,h2,h62,h63,h64⟩:=hI
   have hjN:j < ss.length:=by omega
   have hlt:ltB (j:Int) (ss.length:Nat)=true:=ltB_t (by omega)
   have hw:=inc_i (j:=j) (by omega)
   obtain ⟨i0,k0,w0,hix0,hrd0,hxs⟩:=hs.at hA hjN
   have hln:=hxs.len
   rw [allF_step hjN]
   rw [el26_2]
   rw [<-List.append_nil K]
   cases hp:(rowR cs m (strAt ss j)) with
   | true =>
     unfold rowR at hp
     simp only [Bool.true_and]
     simp (maxSteps:=4000000) -implicitDefEqProofs only [b26_2,Tryz.f26,aP,hlen,h0,h1,h2,h62,h63,h64,hlt,hw,hix0,hrd0,hln,r5,↓evLd,↓cbT,↓cbF,↓evDn,evUp,eu,sevalprocAttr]
     generalize hX:EvC Tryz.prog C0 W0 _ (Code.loop _) _=Z
     obtain ⟨X,Y,K1,K2,he,xs,y0,y1⟩:=chk_in' (i:=j) hX hc hm hs hxs (Nat.lt_trans hxs.n (by decide)) (hA.appR _) (by simp only [ls,hlen,h0,h1,h2,h62,h63,h64]) (by simp only [hlen,h0,h1,h2,h62,h63,h64,h0,gB,sevalprocAttr]; try rfl) (by simp only [hlen,h0,h1,h2,h62,h63,h64,h1,gB,sevalprocAttr]; try rfl) (by simp only [hlen,h0,h1,h2,h62,h63,h64,h2,gB,sevalprocAttr]; try rfl) (by simp only [hlen,h0,h1,h2,h62,h63,h64,h62,gB,sevalprocAttr]; try rfl) (by simp only [hlen,h0,h1,h2,h62,h63,h64,h63,gB,sevalprocAttr]; try rfl) (by simp only [hlen,h0,h1,h2,h62,h63,h64,h64,gB,sevalprocAttr]; try rfl) (by simp only [hlen,h0,h1,h2,h62,h63,h64,gB,sevalprocAttr]; try rfl) (by simp only [hlen,h0,h1,h2,h62,h63,h64,gB,sevalprocAttr]; try rfl) (by simp only [hlen,h0,h1,h2,h62,h63,h64,gB,sevalprocAttr]; try rfl)
     subst he
     simp (maxSteps:=4000000) -implicitDefEqProofs only [hp,xs.1,xs.2.2.1,xs.2.2.2.1,xs.2.2.2.2.1,xs.2.2.2.2.2.1,xs.2.2.2.2.2.2.1,xs.2.2.2.2.2.2.2.1,hw,↓cbT,↓cbF,↓evDn,evUp,eu,sevalprocAttr]
     generalize hX:EvC Tryz.prog C0 W0 _ _ _=Z
     have key:∀ (tmN:List AV) (KN:AH),EvC Tryz.prog C0 W0 plN l26_2 (tmN,KN)=Z->(tmN.length=81/\Agree G KN/\tmN.getD 0 uA=vc/\tmN.getD 1 uA=vm/\tmN.getD 2 uA=vs/\tmN.getD 62 uA=vs/\tmN.getD 63 uA=I ss.length/\tmN.getD 64 uA=I (((j+1):Nat):Int))->∃ X K1 Y K2,Z=br (allF (fun j=>rowR cs m (strAt ss j)) (ss.length) (j+1)) (some (.exit 2,(X,K1))) (some (.ret,(Y,K2)))/\(allF (fun j=>rowR cs m (strAt ss j)) (ss.length) (j+1)=true->X.length=81/\Agree G K1/\X.getD 0 uA=vc/\X.getD 1 uA=vm/\X.getD 2 uA=vs/\X.getD 62 uA=vs/\X.getD 63 uA=I ss.length/\X.getD 64 uA=I ((ss.length:Nat):Int))/\Y.length=81/\Y.getD 8 uA=I 6:=by
       intro tmN KN h hJ
       obtain ⟨X,K1,Y,K2,A,B⟩:=ih (j+1) tmN KN (by omega) (by omega) hJ
       exact ⟨X,K1,Y,K2,h.symm.trans A,B⟩
     refine key _ _ hX ?_
     exact ⟨by simp only [ls,xs.1],by first | exact xs.2.1,by simp only [xs.1,xs.2.2.1,xs.2.2.2.1,xs.2.2.2.2.1,xs.2.2.2.2.2.1,xs.2.2.2.2.2.2.1,xs.2.2.2.2.2.2.2.1,gB,and_self,sevalprocAttr]⟩
   | false =>
     simp only [Bool.false_and]
     unfold rowR at hp
     simp (maxSteps:=4000000) -implicitDefEqProofs only [b26_2,Tryz.f26,aP,hlen,h0,h1,h2,h62,h63,h64,hlt,hw,hix0,hrd0,hln,r5,↓evLd,↓cbT,↓cbF,↓evDn,evUp,eu,sevalprocAttr]
     generalize hX:EvC Tryz.prog C0 W0 _ (Code.loop _) _=Z
     obtain ⟨X,Y,K1,K2,he,xs,y0,y1⟩:=chk_in' (i:=j) hX hc hm hs hxs (Nat.lt_trans hxs.n (by decide)) (hA.appR _) (by simp only [ls,hlen,h0,h1,h2,h62,h63,h64]) (by simp only [hlen,h0,h1,h2,h62,h63,h64,h0,gB,sevalprocAttr]; try rfl) (by simp only [hlen,h0,h1,h2,h62,h63,h64,h1,gB,sevalprocAttr]; try rfl) (by simp only [hlen,h0,h1,h2,h62,h63,h64,h2,gB,sevalprocAttr]; try rfl) (by simp only [hlen,h0,h1,h2,h62,h63,h64,h62,gB,sevalprocAttr]; try rfl) (by simp only [hlen,h0,h1,h2,h62,h63,h64,h63,gB,sevalprocAttr]; try rfl) (by simp only [hlen,h0,h1,h2,h62,h63,h64,h64,gB,sevalprocAttr]; try rfl) (by simp only [hlen,h0,h1,h2,h62,h63,h64,gB,sevalprocAttr]; try rfl) (by simp only [hlen,h0,h1,h2,h62,h63,h64,gB,sevalprocAttr]; try rfl) (by simp only [hlen,h0,h1,h2,h62,h63,h64,gB,sevalprocAttr]; try rfl)
     subst he
     simp (maxSteps:=4000000) -implicitDefEqProofs only [hp,y0,y1,↓cbT,↓cbF,↓evDn,evUp,eu,sevalprocAttr]
     exact ⟨tm,K,Y,_,rfl,by first | exact trivial | (intro h; cases h),y0,y1⟩
theorem chk_out' {G:AH} {cs:List Cod} {m:List (List Int)} {ss:List (List Itm)} {vc vm vs:AV} {tm:List AV} {K:AH} {Z:Option (AExit × St)} (hX:EvC Tryz.prog C0 W0 plN l26_2 (tm,K)=Z) (hc:CodsR G cs vc) (hm:MemR G m vm) (hs:StrsR G ss vs) (hN:ss.length < 2 ^ 60) (hI:tm.length=81/\Agree G K/\tm.getD 0 uA=vc/\tm.getD 1 uA=vm/\tm.getD 2 uA=vs/\tm.getD 62 uA=vs/\tm.getD 63 uA=I ss.length/\tm.getD 64 uA=I ((0:Nat):Int)) :
   ∃ X K1 Y K2,Z=br (allF (fun j=>rowR cs m (strAt ss j)) (ss.length) (0)) (some (.exit 2,(X,K1))) (some (.ret,(Y,K2)))/\(allF (fun j=>rowR cs m (strAt ss j)) (ss.length) (0)=true->X.length=81/\Agree G K1/\X.getD 0 uA=vc/\X.getD 1 uA=vm/\X.getD 2 uA=vs/\X.getD 62 uA=vs/\X.getD 63 uA=I ss.length/\X.getD 64 uA=I ((ss.length:Nat):Int))/\Y.length=81/\Y.getD 8 uA=I 6:=by
 subst hX
 exact chk_out hc hm hs hN (ss.length) 0 tm K (by omega) (by omega) hI
theorem ev26 {H:AH} {cs:List Cod} {m:List (List Int)} {ss:List (List Itm)} {vc vm vs:AV} (hc:CodsR H cs vc) (hm:MemR H m vm) (hs:StrsR H ss vs) (f:Con):Ev Tryz.prog C0 W0 26 [vc,vm,vs,.agg (rowF f)] H=some (I (checkP cs m ss f),H):=by
 obtain ⟨tm,ht,g0,g1,g2,g3,g4⟩:=tm4 vc vm vs (.agg (rowF f)) 81 (by decide)
 rw [fe26,ht]
 rw [<-List.append_nil (ro H)]
 have h56:=fun G=>ev56 f G
 simp only [rowF] at h56
 have h57:=fun L=>ev57 (hc.ro.agree (Agree.app (ro H) L))
 have hlc:=hc.len
 have hlm:=hm.len
 have hls:=hs.len
 unfold checkP
 cases c0:conP f with
 | false =>
   simp (maxSteps:=4000000) -implicitDefEqProofs only [c26,Tryz.f26,aP,g0,g1,g2,g3,g4,rowF,↓fc56,h56,c0,r5,↓evLd,↓cbT,↓cbF,↓evDn,evUp,eu,sevalprocAttr]
 | true =>
   cases c1:allV cs with
   | false =>
     simp (maxSteps:=4000000) -implicitDefEqProofs only [c26,Tryz.f26,aP,g0,g1,g2,g3,g4,rowF,↓fc56,h56,c0,↓fc57,show ∀ gl tm,evalA gl tm (.func 58)=some (.func (.func 58) [] []) from fun _ _=>rfl,h57,c1,r5,↓evLd,↓cbT,↓cbF,↓evDn,evUp,eu,sevalprocAttr]
   | true =>
     simp (maxSteps:=4000000) -implicitDefEqProofs only [c26,Tryz.f26,aP,g0,g1,g2,g3,g4,rowF,↓fc56,h56,c0,↓fc57,show ∀ gl tm,evalA gl tm (.func 58)=some (.func (.func 58) [] []) from fun _ _=>rfl,h57,c1,hls,r5,↓evLd,↓cbT,↓cbF,↓evDn,evUp,eu,sevalprocAttr]
     generalize hX:EvC Tryz.prog C0 W0 _ (Code.loop _) _=Z
     obtain ⟨X,K1,he1,i0,iA,i1,i2,i3,i4,i5,i6,i9⟩:=chk_sum' (vc:=vc) (vm:=vm) hX hs.ro (Nat.lt_trans hs.n (by decide)) ⟨by simp only [ls,g0],Agree.app _ _,Aj5 (by simp only [g0,g1,g2,g3,gB,and_self,sevalprocAttr]) ⟨by simp only [g0,gB,sevalprocAttr]; try rfl,by simp only [g0,gB,sevalprocAttr]; try rfl⟩⟩
     subst he1
     have h60:=ev60 (hm.ro.agree iA)
     unfold sizeP
     cases q0:ltB (ss.length:Int) 1 with
     | true =>
       simp (maxSteps:=4000000) -implicitDefEqProofs only [aP,i0,i1,i2,i3,i9,↓fc60,show ∀ gl tm,evalA gl tm (.func 61)=some (.func (.func 61) [] []) from fun _ _=>rfl,h60,hls,hlc,hlm,r5,↓evLd,q0,↓cbT,↓cbF,↓evDn,evUp,eu,sevalprocAttr]
     | false =>
       cases q1:ltB 4 (ss.length:Int) with
       | true =>
         simp (maxSteps:=4000000) -implicitDefEqProofs only [aP,i0,i1,i2,i3,i9,↓fc60,show ∀ gl tm,evalA gl tm (.func 61)=some (.func (.func 61) [] []) from fun _ _=>rfl,h60,hls,hlc,hlm,r5,↓evLd,q0,q1,↓cbT,↓cbF,↓evDn,evUp,eu,sevalprocAttr]
       | false =>
         cases q2:ltB 4 (cs.length:Int) with
         | true =>
           simp (maxSteps:=4000000) -implicitDefEqProofs only [aP,i0,i1,i2,i3,i9,↓fc60,show ∀ gl tm,evalA gl tm (.func 61)=some (.func (.func 61) [] []) from fun _ _=>rfl,h60,hls,hlc,hlm,r5,↓evLd,q0,q1,q2,↓cbT,↓cbF,↓evDn,evUp,eu,sevalprocAttr]
         | false =>
           cases q3:ltB 24 (sumW ss ss.length) with
           | true =>
             simp (maxSteps:=4000000) -implicitDefEqProofs only [aP,i0,i1,i2,i3,i9,↓fc60,show ∀ gl tm,evalA gl tm (.func 61)=some (.func (.func 61) [] []) from fun _ _=>rfl,h60,hls,hlc,hlm,r5,↓evLd,q0,q1,q2,q3,↓cbT,↓cbF,↓evDn,evUp,eu,sevalprocAttr]
           | false =>
             cases q4:ltB 6 (m.length:Int) with
             | true =>
               simp (maxSteps:=4000000) -implicitDefEqProofs only [aP,i0,i1,i2,i3,i9,↓fc60,show ∀ gl tm,evalA gl tm (.func 61)=some (.func (.func 61) [] []) from fun _ _=>rfl,h60,hls,hlc,hlm,r5,↓evLd,q0,q1,q2,q3,q4,↓cbT,↓cbF,↓evDn,evUp,eu,sevalprocAttr]
             | false =>
               cases q5:shortP m with
               | false =>
                 simp (maxSteps:=4000000) -implicitDefEqProofs only [aP,i0,i1,i2,i3,i9,↓fc60,show ∀ gl tm,evalA gl tm (.func 61)=some (.func (.func 61) [] []) from fun _ _=>rfl,h60,hls,hlc,hlm,r5,↓evLd,q0,q1,q2,q3,q4,q5,↓cbT,↓cbF,↓evDn,evUp,eu,sevalprocAttr]
               | true =>
                 simp (maxSteps:=4000000) -implicitDefEqProofs only [aP,i0,i1,i2,i3,i9,↓fc60,show ∀ gl tm,evalA gl tm (.func 61)=some (.func (.func 61) [] []) from fun _ _=>rfl,h60,hls,hlc,hlm,r5,↓evLd,q0,q1,q2,q3,q4,q5,↓cbT,↓cbF,↓evDn,evUp,eu,sevalprocAttr]
                 generalize hX2:EvC Tryz.prog C0 W0 _ (Code.loop _) _=Z2
                 obtain ⟨X2,K2,Y2,L2,he2,hi2,y0,y1⟩:=chk_out' hX2 hc.ro hm.ro hs.ro (Nat.lt_trans hs.n (by decide)) ⟨by simp only [ls,i0],iA,Aj5 (by simp only [i0,i1,i2,i3,gB,and_self,sevalprocAttr]) (by simp only [i0,gB,sevalprocAttr]; try rfl)⟩
                 subst he2
                 unfold allR
                 cases hf:allF (fun i=>rowR cs m (strAt ss i)) ss.length 0 with
                 | false=>simp (maxSteps:=4000000) -implicitDefEqProofs only [y0,y1,hf,↓cbT,↓cbF,↓evDn,evUp,eu,sevalprocAttr]
                 | true =>
                   obtain ⟨j0,_⟩:=hi2 hf
                   simp (maxSteps:=4000000) -implicitDefEqProofs only [aP,j0,hf,↓cbT,↓cbF,↓evDn,evUp,eu,sevalprocAttr]
end Go.Dv
