/- Part 24 of the walks (own work). -/
import Derived.Test.YtilpjnckfkjkbaaGreatDoorU23
open Bool renaming and_eq_true→az,and_true→fG,false_and→bd,true_and→bf
open Int renaming toNat_natCast→cN
open List renaming append_nil→af
open Option renaming bind_some→ax,getD_some→fE
open Go.Proofs.Tryz renaming prog→aa
set_option maxRecDepth 100000
set_option maxHeartbeats 4000000
set_option linter.unusedSimpArgs false
set_option linter.unusedVariables false
open Go.Proofs.Tryz (f39 f62 f90 func90)
namespace Go.Dv
open Go.Proofs
attribute [local congr] aA bC aT bB bD
noncomputable def OM:Code:=aH [false] (f62.body.getD .skip)
noncomputable def OL:Code:=aH [true,false] (f62.body.getD .skip)
noncomputable def OK:Code:=aH [true,true,false] (f62.body.getD .skip)
noncomputable def OJ:Code:=aH [true,true,true,false] (f62.body.getD .skip)
noncomputable def OI:Code:=aH [true,true,true,true,false] (f62.body.getD .skip)
noncomputable def T62:Code:=aH [true,true,true,true,true] (f62.body.getD .skip)
theorem Oh:c62=.seq OM (.seq OL (.seq OK (.seq OJ (.seq OI T62)))):=by kernel_rfl
theorem Us {tm:List AV} {G:AH} {vm va:AV} (hac:va.cells=[va]) (hao:va.one=true) {k c g b s d e w c2 g2 b2 s2 d2 e2 w2:Int} {ok:Bool} (hlen:tm.length=181) (h5:tm.getD 5 uA=.ptr (G.length+1) 0) (h8:tm.getD 8 uA=.ptr (G.length+2) 0) (h9:tm.getD 9 uA=.bool ok) :
   ∃ tm' K',EvC aa C0 W0 sg T62 (tm,G++[.cells [vm] 24,.cells [I k,I c,I g,I b,I s,I d,I e,va,.int .i32 w] 34,.cells [I k,I c2,I g2,I b2,I s2,I d2,I e2,.nilSlice,.int .i32 w2] 34])=some (.ret,(tm',K'))/\tm'.length=181/\tm'.getD 6 uA=.bool (ok && eqB c c2 && eqB g g2 && eqB b b2 && eqB s s2 && eqB d d2 && eqB e e2 && eqB w w2):=by
 cases ok with
 | false =>simp (maxSteps:=4000000) -implicitDefEqProofs only [T62,f62,aP,hlen,h5,h8,h9,fT,fX,↓hac,↓hao,r5,↓ba,↓aG,aF,eu,sevalprocAttr];exact ⟨_,_,rfl,by simp only [ls,hlen],by simp only [hlen,gB,sevalprocAttr]⟩
 | true =>
   cases q0:eqB c c2 with
   | false =>simp (maxSteps:=4000000) -implicitDefEqProofs only [T62,f62,aP,hlen,h5,h8,h9,fT,fX,↓hac,↓hao,r5,↓ba,q0,↓aG,aF,eu,sevalprocAttr];exact ⟨_,_,rfl,by simp only [ls,hlen],by simp only [hlen,gB,sevalprocAttr]⟩
   | true =>
     cases q1:eqB g g2 with
     | false =>simp (maxSteps:=4000000) -implicitDefEqProofs only [T62,f62,aP,hlen,h5,h8,h9,fT,fX,↓hac,↓hao,r5,↓ba,q0,q1,↓aG,aF,eu,sevalprocAttr];exact ⟨_,_,rfl,by simp only [ls,hlen],by simp only [hlen,gB,sevalprocAttr]⟩
     | true =>
       cases q2:eqB b b2 with
       | false =>simp (maxSteps:=4000000) -implicitDefEqProofs only [T62,f62,aP,hlen,h5,h8,h9,fT,fX,↓hac,↓hao,r5,↓ba,q0,q1,q2,↓aG,aF,eu,sevalprocAttr];exact ⟨_,_,rfl,by simp only [ls,hlen],by simp only [hlen,gB,sevalprocAttr]⟩
       | true =>
         cases q3:eqB s s2 with
         | false =>simp (maxSteps:=4000000) -implicitDefEqProofs only [T62,f62,aP,hlen,h5,h8,h9,fT,fX,↓hac,↓hao,r5,↓ba,q0,q1,q2,q3,↓aG,aF,eu,sevalprocAttr];exact ⟨_,_,rfl,by simp only [ls,hlen],by simp only [hlen,gB,sevalprocAttr]⟩
         | true =>
           cases q4:eqB d d2 with
           | false =>simp (maxSteps:=4000000) -implicitDefEqProofs only [T62,f62,aP,hlen,h5,h8,h9,fT,fX,↓hac,↓hao,r5,↓ba,q0,q1,q2,q3,q4,↓aG,aF,eu,sevalprocAttr];exact ⟨_,_,rfl,by simp only [ls,hlen],by simp only [hlen,gB,sevalprocAttr]⟩
           | true =>
             cases q5:eqB e e2 with
             | false =>simp (maxSteps:=4000000) -implicitDefEqProofs only [T62,f62,aP,hlen,h5,h8,h9,fT,fX,↓hac,↓hao,r5,↓ba,q0,q1,q2,q3,q4,q5,↓aG,aF,eu,sevalprocAttr];exact ⟨_,_,rfl,by simp only [ls,hlen],by simp only [hlen,gB,sevalprocAttr]⟩
             | true =>
               cases q6:eqB w w2 with
               | false =>simp (maxSteps:=4000000) -implicitDefEqProofs only [T62,f62,aP,hlen,h5,h8,h9,fT,fX,↓hac,↓hao,r5,↓ba,q0,q1,q2,q3,q4,q5,q6,↓aG,aF,eu,sevalprocAttr];exact ⟨_,_,rfl,by simp only [ls,hlen],by simp only [hlen,gB,sevalprocAttr]⟩
               | true =>simp (maxSteps:=4000000) -implicitDefEqProofs only [T62,f62,aP,hlen,h5,h8,h9,fT,fX,↓hac,↓hao,r5,↓ba,q0,q1,q2,q3,q4,q5,q6,↓aG,aF,eu,sevalprocAttr];exact ⟨_,_,rfl,by simp only [ls,hlen],by simp only [hlen,gB,sevalprocAttr]⟩
theorem l4 {tm:List AV} {G:AH} {vm va:AV} (hac:va.cells=[va]) (hao:va.one=true) {k c g b s d e w c2 g2 b2 s2 d2 e2 w2:Int} {ok:Bool} {Z:Option (bk × St)} (hZ:EvC aa C0 W0 sg T62 (tm,G++[.cells [vm] 24,.cells [I k,I c,I g,I b,I s,I d,I e,va,.int .i32 w] 34,.cells [I k,I c2,I g2,I b2,I s2,I d2,I e2,.nilSlice,.int .i32 w2] 34])=Z) (hlen:tm.length=181) (h5:tm.getD 5 uA=.ptr (G.length+1) 0) (h8:tm.getD 8 uA=.ptr (G.length+2) 0) (h9:tm.getD 9 uA=.bool ok) :
   ∃ tm' K',Z=some (.ret,(tm',K'))/\tm'.length=181/\tm'.getD 6 uA=.bool (ok && eqB c c2 && eqB g g2 && eqB b b2 && eqB s s2 && eqB d d2 && eqB e e2 && eqB w w2):=by subst hZ;exact Us hac hao hlen h5 h8 h9
theorem Em {H:AH} {m:List (List Int)} {vc vm:AV} (hm:eo H m vm) {x:Itm} {va:AV} (ha:SlS 32 1 H va (x.args.map dH)) (hk:x.kind=1):Ev aa C0 W0 62 [vc,vm,.agg (aJ x va)] H=some (.bool (inB m x.src && inB m x.dst && eqB (yq m x.src) (yq m x.dst) && eqB x.args.length 0 && (eqB x.code 0 && eqB x.grid 0 && eqB x.block 0 && eqB x.ev 0 && eqB x.word 0)),H):=by
 obtain ⟨tm,ht,g0,g1,g2,g3⟩:=tm3 vc vm (.agg (aJ x va)) 181 (by decide);rw [IC,ht];rw [<-af (ro H)];rw [Oh];obtain ⟨kind,code,grid,block,src,dst,ev,args,word⟩:=x;simp only at ha hk ⊢;subst hk;have hla:=kQ ha.ro;have hlm:=hm.ro.len;obtain ⟨hvc,hvo⟩:=hm.vc;have hac:=ha.cells;have hao:=ha.one;have h90:∀ L n,Ev aa C0 W0 90 [I n,.ptr (ro H).length 0] (ro H++(bm.cells [vm] 24::L))=some (.bool (inB m n),ro H++(bm.cells [vm] 24::L)):=fun L n=>IM (hm.ro.aZ (an.app _ _)) (by rw [gj]; rfl) n;have e0:eqB 1 0=false:=rfl;have e1:eqB 1 1=true:=rfl;have e2:eqB 1 2=false:=rfl;have e3:eqB 1 3=false:=rfl;have e4:eqB 1 4=false:=rfl;simp (maxSteps:=4000000) -implicitDefEqProofs only [OM,OL,OK,OJ,OI,f62,aP,g0,g1,g2,g3,aJ,st3,fT,fX,↓hvc,↓hvo,↓hac,↓hao,iy,fB,ed,hla,hlm,h90,bE,cS,cm,↓aS,func90,show f90.body.isSome=true from rfl,↓iq,↓il,e0,e1,e2,e3,e4,↓zzC,zzD,sevalprocAttr];generalize hR:EvC aa C0 W0 _ (Code.region _ _ _) _=R;obtain ⟨t,he,hlen,t0,t1,t4,t5,t7,t8,t9⟩:=J1 hR (by simp only [ls,g0]) (by simp only [g0,gB,sevalprocAttr]) (by simp only [g0,gB,sevalprocAttr]);subst he;simp only [g0,g1,g2,g3,gB,sevalprocAttr] at t0 t1 t4 t5 t7 t8 t9;cases h0:inB m src with
 | false =>simp (maxSteps:=4000000) -implicitDefEqProofs only [aP,hlen,t0,t1,t4,t5,t7,t8,t9,aJ,st3,fT,fX,↓hvc,↓hvo,↓hac,↓hao,iy,fB,ed,hla,hlm,h90,bE,cS,cm,↓aS,func90,show f90.body.isSome=true from rfl,↓iq,↓il,Cd,h0,↓zzC,zzD,sevalprocAttr];generalize hZ:EvC aa C0 W0 _ T62 _=Z;obtain ⟨tm',K',rfl,l6,r6⟩:=l4 hac hao hZ (by simp only [ls,hlen]) (by simp only [hlen,t5,gB,sevalprocAttr]) (by simp only [hlen,t8,gB,sevalprocAttr]) (by simp only [hlen,gB,sevalprocAttr]; try rfl);simp only [ax,r6];simp only [bd,bf,fG,bE,ik]
 | true =>
   cases h1:inB m dst with
   | false =>simp (maxSteps:=4000000) -implicitDefEqProofs only [aP,hlen,t0,t1,t4,t5,t7,t8,t9,aJ,st3,fT,fX,↓hvc,↓hvo,↓hac,↓hao,iy,fB,ed,hla,hlm,h90,bE,cS,cm,↓aS,func90,show f90.body.isSome=true from rfl,↓iq,↓il,Cd,h0,h1,↓zzC,zzD,sevalprocAttr];generalize hZ:EvC aa C0 W0 _ T62 _=Z;obtain ⟨tm',K',rfl,l6,r6⟩:=l4 hac hao hZ (by simp only [ls,hlen]) (by simp only [hlen,t5,gB,sevalprocAttr]) (by simp only [hlen,t8,gB,sevalprocAttr]) (by simp only [hlen,gB,sevalprocAttr]; try rfl);simp only [ax,r6];simp only [bd,bf,fG,bE,ik]
   | true =>
     have b0:=h0;have b1:=h1;unfold inB at b0 b1;rw [az,dC,dB] at b0 b1;obtain ⟨j0,rfl⟩:∃ j:Nat,src=j:=⟨src.toNat,by omega⟩;obtain ⟨j1,rfl⟩:∃ j:Nat,dst=j:=⟨dst.toNat,by omega⟩;obtain ⟨i0,k0,w0,hix0,hrd0,hw0⟩:=hm.ro.at (an.refl _) (j:=j0) (by omega);obtain ⟨i1,k1,w1,hix1,hrd1,hw1⟩:=hm.ro.at (an.refl _) (j:=j1) (by omega);have hl0:=kQ hw0;have hl1:=kQ hw1;have hn0:yq m (j0:Int)=((bV m j0).length:Int):=rfl;have hn1:yq m (j1:Int)=((bV m j1).length:Int):=rfl;rw [hn0,hn1];cases h2:eqB ((bV m j0).length:Int) ((bV m j1).length:Int) with
     | false =>simp (maxSteps:=4000000) -implicitDefEqProofs only [aP,hlen,t0,t1,t4,t5,t7,t8,t9,aJ,st3,fT,fX,↓hvc,↓hvo,↓hac,↓hao,iy,fB,ed,hla,hlm,h90,bE,cS,cm,↓aS,func90,show f90.body.isSome=true from rfl,↓iq,↓il,Cd,h0,h1,hix0,hix1,hrd0,hrd1,hl0,hl1,h2,↓zzC,zzD,sevalprocAttr];generalize hZ:EvC aa C0 W0 _ T62 _=Z;obtain ⟨tm',K',rfl,l6,r6⟩:=l4 hac hao hZ (by simp only [ls,hlen]) (by simp only [hlen,t5,gB,sevalprocAttr]) (by simp only [hlen,t8,gB,sevalprocAttr]) (by simp only [hlen,gB,sevalprocAttr]; try rfl);simp only [ax,r6];simp only [bd,bf,fG,bE,ik]
     | true =>
       cases h3:eqB (args.length:Int) 0 with
       | false =>simp (maxSteps:=4000000) -implicitDefEqProofs only [aP,hlen,t0,t1,t4,t5,t7,t8,t9,aJ,st3,fT,fX,↓hvc,↓hvo,↓hac,↓hao,iy,fB,ed,hla,hlm,h90,bE,cS,cm,↓aS,func90,show f90.body.isSome=true from rfl,↓iq,↓il,Cd,h0,h1,hix0,hix1,hrd0,hrd1,hl0,hl1,h2,h3,↓zzC,zzD,sevalprocAttr];generalize hZ:EvC aa C0 W0 _ T62 _=Z;obtain ⟨tm',K',rfl,l6,r6⟩:=l4 hac hao hZ (by simp only [ls,hlen]) (by simp only [hlen,t5,gB,sevalprocAttr]) (by simp only [hlen,t8,gB,sevalprocAttr]) (by simp only [hlen,gB,sevalprocAttr]; try rfl);simp only [ax,r6];simp only [bd,bf,fG,bE,ik]
       | true =>simp (maxSteps:=4000000) -implicitDefEqProofs only [aP,hlen,t0,t1,t4,t5,t7,t8,t9,aJ,st3,fT,fX,↓hvc,↓hvo,↓hac,↓hao,iy,fB,ed,hla,hlm,h90,bE,cS,cm,↓aS,func90,show f90.body.isSome=true from rfl,↓iq,↓il,Cd,h0,h1,hix0,hix1,hrd0,hrd1,hl0,hl1,h2,h3,↓zzC,zzD,sevalprocAttr];generalize hZ:EvC aa C0 W0 _ T62 _=Z;obtain ⟨tm',K',rfl,l6,r6⟩:=l4 hac hao hZ (by simp only [ls,hlen]) (by simp only [hlen,t5,gB,sevalprocAttr]) (by simp only [hlen,t8,gB,sevalprocAttr]) (by simp only [hlen,gB,sevalprocAttr]; try rfl);simp only [ax,r6];simp only [bd,bf,fG,bE,ik]
theorem AX {H:AH} {cs:List Cod} {m:List (List Int)} {vc vm:AV} (hc:dy H cs vc) (hm:eo H m vm) {x:Itm} {va:AV} (ha:SlS 32 1 H va (x.args.map dH)) (hi32:∀ a∈x.args,fk a) (hk:x.kind=0):Ev aa C0 W0 62 [vc,vm,.agg (aJ x va)] H=some (.bool (leB 0 x.code && ltB x.code cs.length && pq (dj cs x.code.toNat) (dj cs x.code.toNat).name x m && (eqB x.src 0 && eqB x.dst 0 && eqB x.ev 0 && eqB x.word 0)),H):=by
 obtain ⟨tm,ht,g0,g1,g2,g3⟩:=tm3 vc vm (.agg (aJ x va)) 181 (by decide);rw [IC,ht];rw [<-af (ro H)];rw [Oh];obtain ⟨kind,code,grid,block,src,dst,ev,args,word⟩:=x;simp only at ha hk hi32 ⊢;subst hk;have hlc:=hc.ro.len;have hla:=kQ ha.ro;have hlm:=hm.ro.len;obtain ⟨hvc,hvo⟩:=hm.vc;have hac:=ha.cells;have hao:=ha.one;have h90:∀ L n,Ev aa C0 W0 90 [I n,.ptr (ro H).length 0] (ro H++(bm.cells [vm] 24::L))=some (.bool (inB m n),ro H++(bm.cells [vm] 24::L)):=fun L n=>IM (hm.ro.aZ (an.app _ _)) (by rw [gj]; rfl) n;have e0:eqB 0 0=true:=rfl;have e1:eqB 0 1=false:=rfl;have e2:eqB 0 2=false:=rfl;have e3:eqB 0 3=false:=rfl;have e4:eqB 0 4=false:=rfl;simp (maxSteps:=4000000) -implicitDefEqProofs only [OM,OL,OK,OJ,OI,f62,aP,g0,g1,g2,g3,aJ,st3,fT,fX,↓hvc,↓hvo,↓hac,↓hao,iy,fB,ed,hla,hlm,h90,bE,cS,cm,↓aS,func90,show f90.body.isSome=true from rfl,↓iq,↓il,e0,e1,e2,e3,e4,↓zzC,zzD,sevalprocAttr];generalize hR:EvC aa C0 W0 _ (Code.region _ _ _) _=R;obtain ⟨t,he,hlen,t0,t1,t4,t5,t7,t8,t9⟩:=J2 hR (by simp only [ls,g0]) (by simp only [g0,gB,sevalprocAttr]) (by simp only [g0,gB,sevalprocAttr]);subst he;simp only [g0,g1,g2,g3,gB,sevalprocAttr] at t0 t1 t4 t5 t7 t8 t9;cases h0:leB 0 code with
 | false =>simp (maxSteps:=4000000) -implicitDefEqProofs only [aP,hlen,t0,t1,t4,t5,t7,t8,t9,aJ,st3,fT,fX,↓hvc,↓hvo,↓hac,↓hao,iy,fB,ed,hla,hlm,h90,bE,cS,cm,↓aS,func90,show f90.body.isSome=true from rfl,↓iq,↓il,FU,FT,hlc,h0,↓zzC,zzD,sevalprocAttr];generalize hZ:EvC aa C0 W0 _ T62 _=Z;obtain ⟨tm',K',rfl,l6,r6⟩:=l4 hac hao hZ (by simp only [ls,hlen]) (by simp only [hlen,t5,gB,sevalprocAttr]) (by simp only [hlen,t8,gB,sevalprocAttr]) (by simp only [hlen,gB,sevalprocAttr]; try rfl);simp only [ax,r6];simp only [bd,bf,fG,bE,ik]
 | true =>
   cases h1:ltB code (cs.length:Int) with
   | false =>simp (maxSteps:=4000000) -implicitDefEqProofs only [aP,hlen,t0,t1,t4,t5,t7,t8,t9,aJ,st3,fT,fX,↓hvc,↓hvo,↓hac,↓hao,iy,fB,ed,hla,hlm,h90,bE,cS,cm,↓aS,func90,show f90.body.isSome=true from rfl,↓iq,↓il,FU,FT,hlc,h0,h1,↓zzC,zzD,sevalprocAttr];generalize hZ:EvC aa C0 W0 _ T62 _=Z;obtain ⟨tm',K',rfl,l6,r6⟩:=l4 hac hao hZ (by simp only [ls,hlen]) (by simp only [hlen,t5,gB,sevalprocAttr]) (by simp only [hlen,t8,gB,sevalprocAttr]) (by simp only [hlen,gB,sevalprocAttr]; try rfl);simp only [ax,r6];simp only [bd,bf,fG,bE,ik]
   | true =>
     have b0:=h0;have b1:=h1;rw [dC] at b0;rw [dB] at b1;obtain ⟨j,rfl⟩:∃ j:Nat,code=j:=⟨code.toNat,by omega⟩;obtain ⟨i0,k0,vp,vs,vi,hix,hrd,hcd⟩:=hc.ro.at (an.refl _) (j:=j) (by omega);have h65:=fun L=>aer (x:=⟨0,j,grid,block,src,dst,ev,args,word⟩) (hcd.aZ (an.app (ro H) L)) (ha.ro.app L);have h91:=fun L=>ad9 (x:=⟨0,j,grid,block,src,dst,ev,args,word⟩) (nm:=(dj cs j).name) (hcd.aZ (an.app (ro H) L)) (ha.ro.app L) hi32 (hm.ro.aZ (an.app (ro H) L));simp only [bO,dF,aJ] at h65 h91 hrd;rw [show ((j:Int)).toNat=j from cN j];cases h2:pq (dj cs j) (dj cs j).name ⟨0,j,grid,block,src,dst,ev,args,word⟩ m with
     | false =>simp (maxSteps:=4000000) -implicitDefEqProofs only [aP,hlen,t0,t1,t4,t5,t7,t8,t9,aJ,st3,fT,fX,↓hvc,↓hvo,↓hac,↓hao,iy,fB,ed,hla,hlm,h90,bE,cS,cm,↓aS,func90,show f90.body.isSome=true from rfl,↓iq,↓il,FU,FT,hlc,h0,h1,hix,hrd,h65,h91,h2,↓zzC,zzD,sevalprocAttr];generalize hZ:EvC aa C0 W0 _ T62 _=Z;obtain ⟨tm',K',rfl,l6,r6⟩:=l4 hac hao hZ (by simp only [ls,hlen]) (by simp only [hlen,t5,gB,sevalprocAttr]) (by simp only [hlen,t8,gB,sevalprocAttr]) (by simp only [hlen,gB,sevalprocAttr]; try rfl);simp only [ax,r6];simp only [bd,bf,fG,bE,ik]
     | true =>simp (maxSteps:=4000000) -implicitDefEqProofs only [aP,hlen,t0,t1,t4,t5,t7,t8,t9,aJ,st3,fT,fX,↓hvc,↓hvo,↓hac,↓hao,iy,fB,ed,hla,hlm,h90,bE,cS,cm,↓aS,func90,show f90.body.isSome=true from rfl,↓iq,↓il,FU,FT,hlc,h0,h1,hix,hrd,h65,h91,h2,↓zzC,zzD,sevalprocAttr];generalize hZ:EvC aa C0 W0 _ T62 _=Z;obtain ⟨tm',K',rfl,l6,r6⟩:=l4 hac hao hZ (by simp only [ls,hlen]) (by simp only [hlen,t5,gB,sevalprocAttr]) (by simp only [hlen,t8,gB,sevalprocAttr]) (by simp only [hlen,gB,sevalprocAttr]; try rfl);simp only [ax,r6];simp only [bd,bf,fG,bE,ik]
def cC (cs:List Cod) (m:List (List Int)) (x:Itm):Bool:=
 br (eqB x.kind 0) (leB 0 x.code && ltB x.code cs.length && pq (dj cs x.code.toNat) (dj cs x.code.toNat).name x m && (eqB x.src 0 && eqB x.dst 0 && eqB x.ev 0 && eqB x.word 0))
   (br (eqB x.kind 1) (inB m x.src && inB m x.dst && eqB (yq m x.src) (yq m x.dst) && eqB x.args.length 0 && (eqB x.code 0 && eqB x.grid 0 && eqB x.block 0 && eqB x.ev 0 && eqB x.word 0))
     (br (eqB x.kind 2) (inB m x.dst && eqB x.args.length 0 && eqB x.code 0 && eqB x.grid 0 && eqB x.block 0 && eqB x.src 0 && eqB x.ev 0)
       (br (eqB x.kind 3 || eqB x.kind 4) (leB 0 x.ev && ltB x.ev 16 && eqB x.args.length 0 && eqB x.code 0 && eqB x.grid 0 && eqB x.block 0 && eqB x.src 0 && eqB x.dst 0 && eqB x.word 0) false)))
theorem aes {H:AH} {cs:List Cod} {m:List (List Int)} {vc vm:AV} (hc:dy H cs vc) (hm:eo H m vm) {x:Itm} {va:AV} (ha:SlS 32 1 H va (x.args.map dH)) (hi32:∀ a∈x.args,fk a):Ev aa C0 W0 62 [vc,vm,.agg (aJ x va)] H=some (.bool (cC cs m x),H):=by
 have hvc:vc.cells=[vc]:=by obtain ⟨⟨l,e,hs,hc'⟩,n⟩:=hc;exact hs.cells
 unfold cC;cases k0:eqB x.kind 0 with
 | true=>exact AX hc hm ha hi32 ((cP _ _).1 k0)
 | false =>
   cases k1:eqB x.kind 1 with
   | true=>exact Em hm ha ((cP _ _).1 k1)
   | false =>
     cases k2:eqB x.kind 2 with
     | true=>exact El hm ha ((cP _ _).1 k2)
     | false =>
       cases k3:eqB x.kind 3 with
       | true=>exact HW hm ha ((cP _ _).1 k3)
       | false =>
         cases k4:eqB x.kind 4 with
         | true=>exact HV hm ha ((cP _ _).1 k4)
         | false=>exact Ek hm ha k0 k1 k2 k3 k4
theorem nX {tm:List AV} {G:AH} {m:List (List Int)} {va:AV} (hac:va.cells=[va]) (hao:va.one=true) {k c g b s d e w:Int} {R:Option (bk × St)} (hR:EvC aa C0 W0 A9 (aH [true,true,false] c39) (tm,G++[.cells [I k,I c,I g,I b,I s,I d,I e,va,.int .i32 w] 34])=R) (hlen:tm.length=162) (h5:tm.getD 5 uA=.ptr G.length 0) (h7:tm.getD 7 uA=I m.length) :
   ∃ tm',R=some (.normal,(tm',G++[.cells [I k,I c,I g,I b,I s,I d,I e,va,.int .i32 w] 34]))/\tm'.length=162/\tm'.getD 8 uA=.bool (inB m s)/\tm'.getD 9 uA=.bool (inB m d)/\tm'.getD 0 uA=tm.getD 0 uA/\tm'.getD 1 uA=tm.getD 1 uA/\tm'.getD 5 uA=tm.getD 5 uA:=by
 subst hR;unfold inB;cases q0:leB 0 s <;> cases q1:ltB s (m.length:Int) <;> cases q2:leB 0 d <;> cases q3:ltB d (m.length:Int) <;>
   (simp (maxSteps:=4000000) -implicitDefEqProofs only [aH,c39,f39,fE,hlen,h5,h7,PZ,q0,q1,q2,q3,↓hac,↓hao,↓zzC,zzD,sevalprocAttr]
    exact ⟨_,rfl,by simp only [ls,hlen],by simp only [hlen,h5,h7,gB,and_self,sevalprocAttr]⟩)
theorem UQ {H:AH} {cs:List Cod} {m:List (List Int)} {vc vm:AV} (hc:dy H cs vc) (hm:eo H m vm) {x:Itm} {va:AV} (ha:SlS 32 1 H va (x.args.map dH)) (hi32:∀ a∈x.args,fk a) (hk:x.kind=0):Ev aa C0 W0 39 [vc,vm,.agg (aJ x va)] H=some (.bool (eqB x.src 0 && eqB x.dst 0 && eqB x.ev 0 && eqB x.word 0 && leB 0 x.code && ltB x.code cs.length && pq (dj cs x.code.toNat) (dj cs x.code.toNat).name x m),H):=by
 obtain ⟨tm,ht,g0,g1,g2,g3⟩:=tm3 vc vm (.agg (aJ x va)) 162 (by decide);rw [ID,ht];rw [<-af (ro H)];obtain ⟨kind,code,grid,block,src,dst,ev,args,word⟩:=x;simp only at ha hk hi32 ⊢;have hla:=kQ ha.ro;have hlc:=hc.ro.len;have hlm:=hm.ro.len;have hac:=ha.cells;have hao:=ha.one;have h71:=fun L=>IP (x:=⟨kind,code,grid,block,src,dst,ev,args,word⟩) (ha.ro.app L);simp only [aJ] at h71;simp (maxSteps:=4000000) -implicitDefEqProofs only [c39,f39,aP,g0,g1,g2,g3,aJ,ed,fB,st3,hlm,↓hac,↓hao,↓zzC,zzD,sevalprocAttr];generalize hR:EvC aa C0 W0 _ (Code.region _ _ _) _=R;obtain ⟨t,he,hlen,t8,t9,t0,t1,t5⟩:=nX (m:=m) hac hao hR (by simp only [ls,g0]) (by simp only [g0,gB,sevalprocAttr]) (by simp only [g0,gB,sevalprocAttr]);subst he;simp only [g0,g1,g2,g3,gB,sevalprocAttr] at t0 t1 t5;subst hk;have e0:eqB 0 0=true:=rfl;have e1:eqB 0 1=false:=rfl;have e2:eqB 0 2=false:=rfl;have e3:eqB 0 3=false:=rfl;have e4:eqB 0 4=false:=rfl;cases h0:eqB src 0 with
 | false=>simp (maxSteps:=4000000) -implicitDefEqProofs only [aP,hlen,t0,t1,t5,t8,t9,aJ,hla,hlc,dx,dw,↓jq,fY,h71,↓hac,↓hao,e0,e1,e2,e3,e4,h0,↓zzC,zzD,sevalprocAttr]
 | true =>
   cases h1:eqB dst 0 with
   | false=>simp (maxSteps:=4000000) -implicitDefEqProofs only [aP,hlen,t0,t1,t5,t8,t9,aJ,hla,hlc,dx,dw,↓jq,fY,h71,↓hac,↓hao,e0,e1,e2,e3,e4,h0,h1,↓zzC,zzD,sevalprocAttr]
   | true =>
     cases h2:eqB ev 0 with
     | false=>simp (maxSteps:=4000000) -implicitDefEqProofs only [aP,hlen,t0,t1,t5,t8,t9,aJ,hla,hlc,dx,dw,↓jq,fY,h71,↓hac,↓hao,e0,e1,e2,e3,e4,h0,h1,h2,↓zzC,zzD,sevalprocAttr]
     | true =>
       cases h3:eqB word 0 with
       | false=>simp (maxSteps:=4000000) -implicitDefEqProofs only [aP,hlen,t0,t1,t5,t8,t9,aJ,hla,hlc,dx,dw,↓jq,fY,h71,↓hac,↓hao,e0,e1,e2,e3,e4,h0,h1,h2,h3,↓zzC,zzD,sevalprocAttr]
       | true =>
         cases h4:leB 0 code with
         | false=>simp (maxSteps:=4000000) -implicitDefEqProofs only [aP,hlen,t0,t1,t5,t8,t9,aJ,hla,hlc,dx,dw,↓jq,fY,h71,↓hac,↓hao,e0,e1,e2,e3,e4,h0,h1,h2,h3,h4,↓zzC,zzD,sevalprocAttr]
         | true =>
           cases h5:ltB code (cs.length:Int) with
           | false=>simp (maxSteps:=4000000) -implicitDefEqProofs only [aP,hlen,t0,t1,t5,t8,t9,aJ,hla,hlc,dx,dw,↓jq,fY,h71,↓hac,↓hao,e0,e1,e2,e3,e4,h0,h1,h2,h3,h4,h5,↓zzC,zzD,sevalprocAttr]
           | true =>
             have b0:=h4;have b1:=h5;rw [dC] at b0;rw [dB] at b1;obtain ⟨j,rfl⟩:∃ j:Nat,code=j:=⟨code.toNat,by omega⟩;obtain ⟨i0,k0,vp,vs,vi,hix,hrd,hcd⟩:=hc.ro.at (an.refl _) (j:=j) (by omega);have h70:=fun L=>aem (x:=⟨0,j,grid,block,src,dst,ev,args,word⟩) (hcd.aZ (an.app (ro H) L)) (ha.ro.app L);have h69:=fun L=>aen (x:=⟨0,j,grid,block,src,dst,ev,args,word⟩) (nm:=(dj cs j).name) (hcd.aZ (an.app (ro H) L)) (ha.ro.app L) hi32 (hm.ro.aZ (an.app (ro H) L));simp only [bO,dF,aJ] at h70 h69 hrd;rw [show ((j:Int)).toNat=j from cN j];cases h6:pq (dj cs j) (dj cs j).name ⟨0,j,grid,block,src,dst,ev,args,word⟩ m with
             | false=>simp (maxSteps:=4000000) -implicitDefEqProofs only [aP,hlen,t0,t1,t5,t8,t9,aJ,hla,hlc,dx,dw,↓jq,fY,h71,↓hac,↓hao,e0,e1,e2,e3,e4,↓ZF,↓ZG,R7,R8,hix,hrd,h70,h69,h0,h1,h2,h3,h4,h5,h6,↓zzC,zzD,sevalprocAttr]
             | true =>simp (maxSteps:=4000000) -implicitDefEqProofs only [aP,hlen,t0,t1,t5,t8,t9,aJ,hla,hlc,dx,dw,↓jq,fY,h71,↓hac,↓hao,e0,e1,e2,e3,e4,↓ZF,↓ZG,R7,R8,hix,hrd,h70,h69,h0,h1,h2,h3,h4,h5,h6,↓zzC,zzD,sevalprocAttr]
theorem UP {H:AH} {cs:List Cod} {m:List (List Int)} {vc vm:AV} (hc:dy H cs vc) (hm:eo H m vm) {x:Itm} {va:AV} (ha:SlS 32 1 H va (x.args.map dH)) (hi32:∀ a∈x.args,fk a) (hk:x.kind=1):Ev aa C0 W0 39 [vc,vm,.agg (aJ x va)] H=some (.bool (nJ x && eqB x.ev 0 && eqB x.word 0 && inB m x.src && inB m x.dst && eqB (yq m x.src) (yq m x.dst)),H):=by
 obtain ⟨tm,ht,g0,g1,g2,g3⟩:=tm3 vc vm (.agg (aJ x va)) 162 (by decide);rw [ID,ht];rw [<-af (ro H)];obtain ⟨kind,code,grid,block,src,dst,ev,args,word⟩:=x;simp only at ha hk hi32 ⊢;have hla:=kQ ha.ro;have hlc:=hc.ro.len;have hlm:=hm.ro.len;have hac:=ha.cells;have hao:=ha.one;have h71:=fun L=>IP (x:=⟨kind,code,grid,block,src,dst,ev,args,word⟩) (ha.ro.app L);simp only [aJ] at h71;simp (maxSteps:=4000000) -implicitDefEqProofs only [c39,f39,aP,g0,g1,g2,g3,aJ,ed,fB,st3,hlm,↓hac,↓hao,↓zzC,zzD,sevalprocAttr];generalize hR:EvC aa C0 W0 _ (Code.region _ _ _) _=R;obtain ⟨t,he,hlen,t8,t9,t0,t1,t5⟩:=nX (m:=m) hac hao hR (by simp only [ls,g0]) (by simp only [g0,gB,sevalprocAttr]) (by simp only [g0,gB,sevalprocAttr]);subst he;simp only [g0,g1,g2,g3,gB,sevalprocAttr] at t0 t1 t5;subst hk;have e0:eqB 1 0=false:=rfl;have e1:eqB 1 1=true:=rfl;have e2:eqB 1 2=false:=rfl;have e3:eqB 1 3=false:=rfl;have e4:eqB 1 4=false:=rfl;cases h0:nJ ⟨1,code,grid,block,src,dst,ev,args,word⟩ with
 | false=>simp (maxSteps:=4000000) -implicitDefEqProofs only [aP,hlen,t0,t1,t5,t8,t9,aJ,hla,hlc,dx,dw,↓jq,fY,h71,↓hac,↓hao,e0,e1,e2,e3,e4,h0,↓zzC,zzD,sevalprocAttr]
 | true =>
   cases h1:eqB ev 0 with
   | false=>simp (maxSteps:=4000000) -implicitDefEqProofs only [aP,hlen,t0,t1,t5,t8,t9,aJ,hla,hlc,dx,dw,↓jq,fY,h71,↓hac,↓hao,e0,e1,e2,e3,e4,h0,h1,↓zzC,zzD,sevalprocAttr]
   | true =>
     cases h2:eqB word 0 with
     | false=>simp (maxSteps:=4000000) -implicitDefEqProofs only [aP,hlen,t0,t1,t5,t8,t9,aJ,hla,hlc,dx,dw,↓jq,fY,h71,↓hac,↓hao,e0,e1,e2,e3,e4,h0,h1,h2,↓zzC,zzD,sevalprocAttr]
     | true =>
       cases h3:inB m src with
       | false=>simp (maxSteps:=4000000) -implicitDefEqProofs only [aP,hlen,t0,t1,t5,t8,t9,aJ,hla,hlc,dx,dw,↓jq,fY,h71,↓hac,↓hao,e0,e1,e2,e3,e4,h0,h1,h2,h3,↓zzC,zzD,sevalprocAttr]
       | true =>
         cases h4:inB m dst with
         | false=>simp (maxSteps:=4000000) -implicitDefEqProofs only [aP,hlen,t0,t1,t5,t8,t9,aJ,hla,hlc,dx,dw,↓jq,fY,h71,↓hac,↓hao,e0,e1,e2,e3,e4,h0,h1,h2,h3,h4,↓zzC,zzD,sevalprocAttr]
         | true =>
           have b0:=h3;have b1:=h4;unfold inB at b0 b1;rw [az,dC,dB] at b0 b1;obtain ⟨j0,rfl⟩:∃ j:Nat,src=j:=⟨src.toNat,by omega⟩;obtain ⟨j1,rfl⟩:∃ j:Nat,dst=j:=⟨dst.toNat,by omega⟩;obtain ⟨i0,k0,w0,hix0,hrd0,hw0⟩:=hm.ro.at (an.refl _) (j:=j0) (by omega);obtain ⟨i1,k1,w1,hix1,hrd1,hw1⟩:=hm.ro.at (an.refl _) (j:=j1) (by omega);have hl0:=kQ hw0;have hl1:=kQ hw1;have hn0:yq m (j0:Int)=((bV m j0).length:Int):=rfl;have hn1:yq m (j1:Int)=((bV m j1).length:Int):=rfl;rw [hn0,hn1];cases h5:eqB ((bV m j0).length:Int) ((bV m j1).length:Int) with
           | false=>simp (maxSteps:=4000000) -implicitDefEqProofs only [aP,hlen,t0,t1,t5,t8,t9,aJ,hla,hlc,dx,dw,↓jq,fY,h71,↓hac,↓hao,e0,e1,e2,e3,e4,hix0,hix1,hrd0,hrd1,hl0,hl1,h0,h1,h2,h3,h4,h5,↓zzC,zzD,sevalprocAttr]
           | true =>simp (maxSteps:=4000000) -implicitDefEqProofs only [aP,hlen,t0,t1,t5,t8,t9,aJ,hla,hlc,dx,dw,↓jq,fY,h71,↓hac,↓hao,e0,e1,e2,e3,e4,hix0,hix1,hrd0,hrd1,hl0,hl1,h0,h1,h2,h3,h4,h5,↓zzC,zzD,sevalprocAttr]
theorem UO {H:AH} {cs:List Cod} {m:List (List Int)} {vc vm:AV} (hc:dy H cs vc) (hm:eo H m vm) {x:Itm} {va:AV} (ha:SlS 32 1 H va (x.args.map dH)) (hi32:∀ a∈x.args,fk a) (hk:x.kind=2):Ev aa C0 W0 39 [vc,vm,.agg (aJ x va)] H=some (.bool (nJ x && eqB x.ev 0 && eqB x.src 0 && inB m x.dst),H):=by
 obtain ⟨tm,ht,g0,g1,g2,g3⟩:=tm3 vc vm (.agg (aJ x va)) 162 (by decide);rw [ID,ht];rw [<-af (ro H)];obtain ⟨kind,code,grid,block,src,dst,ev,args,word⟩:=x;simp only at ha hk hi32 ⊢;have hla:=kQ ha.ro;have hlc:=hc.ro.len;have hlm:=hm.ro.len;have hac:=ha.cells;have hao:=ha.one;have h71:=fun L=>IP (x:=⟨kind,code,grid,block,src,dst,ev,args,word⟩) (ha.ro.app L);simp only [aJ] at h71;simp (maxSteps:=4000000) -implicitDefEqProofs only [c39,f39,aP,g0,g1,g2,g3,aJ,ed,fB,st3,hlm,↓hac,↓hao,↓zzC,zzD,sevalprocAttr];generalize hR:EvC aa C0 W0 _ (Code.region _ _ _) _=R;obtain ⟨t,he,hlen,t8,t9,t0,t1,t5⟩:=nX (m:=m) hac hao hR (by simp only [ls,g0]) (by simp only [g0,gB,sevalprocAttr]) (by simp only [g0,gB,sevalprocAttr]);subst he;simp only [g0,g1,g2,g3,gB,sevalprocAttr] at t0 t1 t5;subst hk;have e0:eqB 2 0=false:=rfl;have e1:eqB 2 1=false:=rfl;have e2:eqB 2 2=true:=rfl;have e3:eqB 2 3=false:=rfl;have e4:eqB 2 4=false:=rfl;cases h0:nJ ⟨2,code,grid,block,src,dst,ev,args,word⟩ with
 | false=>simp (maxSteps:=4000000) -implicitDefEqProofs only [aP,hlen,t0,t1,t5,t8,t9,aJ,hla,hlc,dx,dw,↓jq,fY,h71,↓hac,↓hao,e0,e1,e2,e3,e4,h0,↓zzC,zzD,sevalprocAttr]
 | true =>
   cases h1:eqB ev 0 with
   | false=>simp (maxSteps:=4000000) -implicitDefEqProofs only [aP,hlen,t0,t1,t5,t8,t9,aJ,hla,hlc,dx,dw,↓jq,fY,h71,↓hac,↓hao,e0,e1,e2,e3,e4,h0,h1,↓zzC,zzD,sevalprocAttr]
   | true =>
     cases h2:eqB src 0 with
     | false=>simp (maxSteps:=4000000) -implicitDefEqProofs only [aP,hlen,t0,t1,t5,t8,t9,aJ,hla,hlc,dx,dw,↓jq,fY,h71,↓hac,↓hao,e0,e1,e2,e3,e4,h0,h1,h2,↓zzC,zzD,sevalprocAttr]
     | true =>
       cases h3:inB m dst with
       | false=>simp (maxSteps:=4000000) -implicitDefEqProofs only [aP,hlen,t0,t1,t5,t8,t9,aJ,hla,hlc,dx,dw,↓jq,fY,h71,↓hac,↓hao,e0,e1,e2,e3,e4,h0,h1,h2,h3,↓zzC,zzD,sevalprocAttr]
       | true =>simp (maxSteps:=4000000) -implicitDefEqProofs only [aP,hlen,t0,t1,t5,t8,t9,aJ,hla,hlc,dx,dw,↓jq,fY,h71,↓hac,↓hao,e0,e1,e2,e3,e4,h0,h1,h2,h3,↓zzC,zzD,sevalprocAttr]
theorem UN {H:AH} {cs:List Cod} {m:List (List Int)} {vc vm:AV} (hc:dy H cs vc) (hm:eo H m vm) {x:Itm} {va:AV} (ha:SlS 32 1 H va (x.args.map dH)) (hi32:∀ a∈x.args,fk a) (hk:x.kind=3):Ev aa C0 W0 39 [vc,vm,.agg (aJ x va)] H=some (.bool (nJ x && eqB x.src 0 && eqB x.dst 0 && eqB x.word 0 && leB 0 x.ev && leB x.ev 15),H):=by
 obtain ⟨tm,ht,g0,g1,g2,g3⟩:=tm3 vc vm (.agg (aJ x va)) 162 (by decide);rw [ID,ht];rw [<-af (ro H)];obtain ⟨kind,code,grid,block,src,dst,ev,args,word⟩:=x;simp only at ha hk hi32 ⊢;have hla:=kQ ha.ro;have hlc:=hc.ro.len;have hlm:=hm.ro.len;have hac:=ha.cells;have hao:=ha.one;have h71:=fun L=>IP (x:=⟨kind,code,grid,block,src,dst,ev,args,word⟩) (ha.ro.app L);simp only [aJ] at h71;simp (maxSteps:=4000000) -implicitDefEqProofs only [c39,f39,aP,g0,g1,g2,g3,aJ,ed,fB,st3,hlm,↓hac,↓hao,↓zzC,zzD,sevalprocAttr];generalize hR:EvC aa C0 W0 _ (Code.region _ _ _) _=R;obtain ⟨t,he,hlen,t8,t9,t0,t1,t5⟩:=nX (m:=m) hac hao hR (by simp only [ls,g0]) (by simp only [g0,gB,sevalprocAttr]) (by simp only [g0,gB,sevalprocAttr]);subst he;simp only [g0,g1,g2,g3,gB,sevalprocAttr] at t0 t1 t5;subst hk;have e0:eqB 3 0=false:=rfl;have e1:eqB 3 1=false:=rfl;have e2:eqB 3 2=false:=rfl;have e3:eqB 3 3=true:=rfl;have e4:eqB 3 4=false:=rfl;cases h0:nJ ⟨3,code,grid,block,src,dst,ev,args,word⟩ with
 | false=>simp (maxSteps:=4000000) -implicitDefEqProofs only [aP,hlen,t0,t1,t5,t8,t9,aJ,hla,hlc,dx,dw,↓jq,fY,h71,↓hac,↓hao,e0,e1,e2,e3,e4,h0,↓zzC,zzD,sevalprocAttr]
 | true =>
   cases h1:eqB src 0 with
   | false=>simp (maxSteps:=4000000) -implicitDefEqProofs only [aP,hlen,t0,t1,t5,t8,t9,aJ,hla,hlc,dx,dw,↓jq,fY,h71,↓hac,↓hao,e0,e1,e2,e3,e4,h0,h1,↓zzC,zzD,sevalprocAttr]
   | true =>
     cases h2:eqB dst 0 with
     | false=>simp (maxSteps:=4000000) -implicitDefEqProofs only [aP,hlen,t0,t1,t5,t8,t9,aJ,hla,hlc,dx,dw,↓jq,fY,h71,↓hac,↓hao,e0,e1,e2,e3,e4,h0,h1,h2,↓zzC,zzD,sevalprocAttr]
     | true =>
       cases h3:eqB word 0 with
       | false=>simp (maxSteps:=4000000) -implicitDefEqProofs only [aP,hlen,t0,t1,t5,t8,t9,aJ,hla,hlc,dx,dw,↓jq,fY,h71,↓hac,↓hao,e0,e1,e2,e3,e4,h0,h1,h2,h3,↓zzC,zzD,sevalprocAttr]
       | true =>
         cases h4:leB 0 ev with
         | false=>simp (maxSteps:=4000000) -implicitDefEqProofs only [aP,hlen,t0,t1,t5,t8,t9,aJ,hla,hlc,dx,dw,↓jq,fY,h71,↓hac,↓hao,e0,e1,e2,e3,e4,h0,h1,h2,h3,h4,↓zzC,zzD,sevalprocAttr]
         | true =>
           cases h5:leB ev 15 with
           | false=>simp (maxSteps:=4000000) -implicitDefEqProofs only [aP,hlen,t0,t1,t5,t8,t9,aJ,hla,hlc,dx,dw,↓jq,fY,h71,↓hac,↓hao,e0,e1,e2,e3,e4,h0,h1,h2,h3,h4,h5,↓zzC,zzD,sevalprocAttr]
           | true =>simp (maxSteps:=4000000) -implicitDefEqProofs only [aP,hlen,t0,t1,t5,t8,t9,aJ,hla,hlc,dx,dw,↓jq,fY,h71,↓hac,↓hao,e0,e1,e2,e3,e4,h0,h1,h2,h3,h4,h5,↓zzC,zzD,sevalprocAttr]
theorem UM {H:AH} {cs:List Cod} {m:List (List Int)} {vc vm:AV} (hc:dy H cs vc) (hm:eo H m vm) {x:Itm} {va:AV} (ha:SlS 32 1 H va (x.args.map dH)) (hi32:∀ a∈x.args,fk a) (hk:x.kind=4):Ev aa C0 W0 39 [vc,vm,.agg (aJ x va)] H=some (.bool (nJ x && eqB x.src 0 && eqB x.dst 0 && eqB x.word 0 && leB 0 x.ev && leB x.ev 15),H):=by
 obtain ⟨tm,ht,g0,g1,g2,g3⟩:=tm3 vc vm (.agg (aJ x va)) 162 (by decide);rw [ID,ht];rw [<-af (ro H)];obtain ⟨kind,code,grid,block,src,dst,ev,args,word⟩:=x;simp only at ha hk hi32 ⊢;have hla:=kQ ha.ro;have hlc:=hc.ro.len;have hlm:=hm.ro.len;have hac:=ha.cells;have hao:=ha.one;have h71:=fun L=>IP (x:=⟨kind,code,grid,block,src,dst,ev,args,word⟩) (ha.ro.app L);simp only [aJ] at h71;simp (maxSteps:=4000000) -implicitDefEqProofs only [c39,f39,aP,g0,g1,g2,g3,aJ,ed,fB,st3,hlm,↓hac,↓hao,↓zzC,zzD,sevalprocAttr];generalize hR:EvC aa C0 W0 _ (Code.region _ _ _) _=R;obtain ⟨t,he,hlen,t8,t9,t0,t1,t5⟩:=nX (m:=m) hac hao hR (by simp only [ls,g0]) (by simp only [g0,gB,sevalprocAttr]) (by simp only [g0,gB,sevalprocAttr]);subst he;simp only [g0,g1,g2,g3,gB,sevalprocAttr] at t0 t1 t5;subst hk;have e0:eqB 4 0=false:=rfl;have e1:eqB 4 1=false:=rfl;have e2:eqB 4 2=false:=rfl;have e3:eqB 4 3=false:=rfl;have e4:eqB 4 4=true:=rfl;cases h0:nJ ⟨4,code,grid,block,src,dst,ev,args,word⟩ with
 | false=>simp (maxSteps:=4000000) -implicitDefEqProofs only [aP,hlen,t0,t1,t5,t8,t9,aJ,hla,hlc,dx,dw,↓jq,fY,h71,↓hac,↓hao,e0,e1,e2,e3,e4,h0,↓zzC,zzD,sevalprocAttr]
 | true =>
   cases h1:eqB src 0 with
   | false=>simp (maxSteps:=4000000) -implicitDefEqProofs only [aP,hlen,t0,t1,t5,t8,t9,aJ,hla,hlc,dx,dw,↓jq,fY,h71,↓hac,↓hao,e0,e1,e2,e3,e4,h0,h1,↓zzC,zzD,sevalprocAttr]
   | true =>
     cases h2:eqB dst 0 with
     | false=>simp (maxSteps:=4000000) -implicitDefEqProofs only [aP,hlen,t0,t1,t5,t8,t9,aJ,hla,hlc,dx,dw,↓jq,fY,h71,↓hac,↓hao,e0,e1,e2,e3,e4,h0,h1,h2,↓zzC,zzD,sevalprocAttr]
     | true =>
       cases h3:eqB word 0 with
       | false=>simp (maxSteps:=4000000) -implicitDefEqProofs only [aP,hlen,t0,t1,t5,t8,t9,aJ,hla,hlc,dx,dw,↓jq,fY,h71,↓hac,↓hao,e0,e1,e2,e3,e4,h0,h1,h2,h3,↓zzC,zzD,sevalprocAttr]
       | true =>
         cases h4:leB 0 ev with
         | false=>simp (maxSteps:=4000000) -implicitDefEqProofs only [aP,hlen,t0,t1,t5,t8,t9,aJ,hla,hlc,dx,dw,↓jq,fY,h71,↓hac,↓hao,e0,e1,e2,e3,e4,h0,h1,h2,h3,h4,↓zzC,zzD,sevalprocAttr]
         | true =>
           cases h5:leB ev 15 with
           | false=>simp (maxSteps:=4000000) -implicitDefEqProofs only [aP,hlen,t0,t1,t5,t8,t9,aJ,hla,hlc,dx,dw,↓jq,fY,h71,↓hac,↓hao,e0,e1,e2,e3,e4,h0,h1,h2,h3,h4,h5,↓zzC,zzD,sevalprocAttr]
           | true =>simp (maxSteps:=4000000) -implicitDefEqProofs only [aP,hlen,t0,t1,t5,t8,t9,aJ,hla,hlc,dx,dw,↓jq,fY,h71,↓hac,↓hao,e0,e1,e2,e3,e4,h0,h1,h2,h3,h4,h5,↓zzC,zzD,sevalprocAttr]
theorem Ib {H:AH} {cs:List Cod} {m:List (List Int)} {vc vm:AV} (hc:dy H cs vc) (hm:eo H m vm) {x:Itm} {va:AV} (ha:SlS 32 1 H va (x.args.map dH)) (hi32:∀ a∈x.args,fk a) (hk:eqB x.kind 0=false/\eqB x.kind 1=false/\eqB x.kind 2=false/\eqB x.kind 3=false/\eqB x.kind 4=false):Ev aa C0 W0 39 [vc,vm,.agg (aJ x va)] H=some (.bool (false),H):=by obtain ⟨tm,ht,g0,g1,g2,g3⟩:=tm3 vc vm (.agg (aJ x va)) 162 (by decide);rw [ID,ht];rw [<-af (ro H)];obtain ⟨kind,code,grid,block,src,dst,ev,args,word⟩:=x;simp only at ha hk hi32 ⊢;have hla:=kQ ha.ro;have hlc:=hc.ro.len;have hlm:=hm.ro.len;have hac:=ha.cells;have hao:=ha.one;have h71:=fun L=>IP (x:=⟨kind,code,grid,block,src,dst,ev,args,word⟩) (ha.ro.app L);simp only [aJ] at h71;simp (maxSteps:=4000000) -implicitDefEqProofs only [c39,f39,aP,g0,g1,g2,g3,aJ,ed,fB,st3,hlm,↓hac,↓hao,↓zzC,zzD,sevalprocAttr];generalize hR:EvC aa C0 W0 _ (Code.region _ _ _) _=R;obtain ⟨t,he,hlen,t8,t9,t0,t1,t5⟩:=nX (m:=m) hac hao hR (by simp only [ls,g0]) (by simp only [g0,gB,sevalprocAttr]) (by simp only [g0,gB,sevalprocAttr]);subst he;simp only [g0,g1,g2,g3,gB,sevalprocAttr] at t0 t1 t5;simp (maxSteps:=4000000) -implicitDefEqProofs only [aP,hlen,t0,t1,t5,t8,t9,aJ,hla,hlc,dx,dw,↓jq,fY,h71,↓hac,↓hao,hk.1,hk.2.1,hk.2.2.1,hk.2.2.2.1,hk.2.2.2.2,↓zzC,zzD,sevalprocAttr]
theorem aeH {H:AH} {cs:List Cod} {m:List (List Int)} {vc vm:AV} (hc:dy H cs vc) (hm:eo H m vm) {x:Itm} {va:AV} (ha:SlS 32 1 H va (x.args.map dH)) (hi32:∀ a∈x.args,fk a):Ev aa C0 W0 39 [vc,vm,.agg (aJ x va)] H=some (.bool (cC cs m x),H):=by
 unfold cC;cases k0:eqB x.kind 0 with
 | true =>rw [UQ hc hm ha hi32 ((cP _ _).1 k0)];refine congrArg (fun b=>some (AV.bool b,H)) ?_;simp only [d7]; ac_rfl
 | false =>
   cases k1:eqB x.kind 1 with
   | true =>rw [UP hc hm ha hi32 ((cP _ _).1 k1)];refine congrArg (fun b=>some (AV.bool b,H)) ?_;unfold nJ;simp only [d7,cM]; ac_rfl
   | false =>
     cases k2:eqB x.kind 2 with
     | true =>rw [UO hc hm ha hi32 ((cP _ _).1 k2)];refine congrArg (fun b=>some (AV.bool b,H)) ?_;unfold nJ;simp only [d7,cM]; ac_rfl
     | false =>
       cases k3:eqB x.kind 3 with
       | true =>rw [UN hc hm ha hi32 ((cP _ _).1 k3),show leB x.ev 15=ltB x.ev 16 from (Bf x.ev 15).symm];refine congrArg (fun b=>some (AV.bool b,H)) ?_;unfold nJ;simp only [d7,cM,Bool.true_or]; ac_rfl
       | false =>
         cases k4:eqB x.kind 4 with
         | true =>rw [UM hc hm ha hi32 ((cP _ _).1 k4),show leB x.ev 15=ltB x.ev 16 from (Bf x.ev 15).symm];refine congrArg (fun b=>some (AV.bool b,H)) ?_;unfold nJ;simp only [d7,cM,Bool.or_true]; ac_rfl
         | false=>exact Ib hc hm ha hi32 ⟨k0,k1,k2,k3,k4⟩
end Go.Dv
