/- Part 23 of the walks (own work). -/
import Derived.Test.YtilpjnckfkjkbaaGreatDoorU22
open Bool renaming false_and→bd,not_eq_false'→iU,not_eq_true'→bl,true_and→bf
open List renaming any_cons→cW,any_nil→dz,any_toArray→cj,append_nil→af,getElem?_append_right→al,length_append→ai,length_set→aq
open Nat renaming add_assoc→bN,add_sub_cancel_left→aN,le_add_right→dI,le_refl→aw,lt_trans→dZ,reduceLT→aR,sub_self→d9,zero_le→aV
open Go.Proofs.Tryz renaming prog→aa
set_option maxRecDepth 100000
set_option maxHeartbeats 4000000
set_option linter.unusedSimpArgs false
set_option linter.unusedVariables false
open Go.Proofs.Tryz (f101 f62 f69 f90 func90)
namespace Go.Dv
open Go.Proofs
attribute [local congr] aA bC aT bB bD
theorem UK {G:AH} {c:Cod} {vp vs vi va:AV} {x:Itm} {nm:ByteArray} {q:Nat} {q1:Nat} {n:Int} (h:eW G c vp vs vi) (ha:SlS 32 1 G va (x.args.map dH)) (hi32:∀ a∈x.args,fk a) (hnp:x.args.length=c.params.length) (hq:G[q]? =some (.cells (dF nm x va) 126)) (hq1:G[q1]? =some (.cells (bO c vp vs vi) 66)) (hN:c.params.length < 2 ^ 60):∀ (d j:Nat) (tm:List AV) (K:AH) (Z:Option (bk × St)),EvC aa C0 W0 plN LV (tm,K)=Z->c.params.length - j=d->j<=c.params.length->an G K->tm.length=73->tm.getD 2 uA=I n->tm.getD 3 uA=.ptr q1 0->tm.getD 4 uA=.ptr q 0->tm.getD 7 uA=I ((j:Nat):Int) ->
   ∃ X Y K1 K2,Z=br (ck (fun j=>jK c x.args n j) (c.params.length) (j)) (some (.exit 0,(X,K1))) (some (.ret,(Y,K2)))/\(X.length=73/\an G K1/\X.getD 2 uA=I n/\X.getD 3 uA=.ptr q1 0/\X.getD 4 uA=.ptr q 0)/\Y.length=73/\Y.getD 6 uA=.bool false:=by
 intro d;induction d with
 | zero =>
   intro j tm K Z hZ hd hj hA hlen h2 h3 h4 h7;subst hZ;have hjl:j=c.params.length:=by omega
   subst hjl;have hlt:ltB (((c.params.length:Nat)):Int) (c.params.length:Nat)=false:=cw (by omega);have hbq1:∀ L k n,ak (K++L) q1 k n=if k+n<=(bO c vp vs vi).length then some (((bO c vp vs vi).drop k).take n) else none:=fun L k n=>eU (hA.get hq1) L k n
   have hbq0:∀ k n,ak K q1 k n=if k+n<=(bO c vp vs vi).length then some (((bO c vp vs vi).drop k).take n) else none:=fun k n=>by have:=hbq1 [] k n; rwa [af] at this
   have hlp:=h.lp;rw [dk (aw _),Gz];simp (maxSteps:=4000000) -implicitDefEqProofs only [sE,f101,aP,hlen,h2,h3,h4,h7,hlt,hbq0,hlp,r5,↓ba,↓aG,aF,eu,sevalprocAttr];exact ⟨_,tm.set 6 (.bool false),_,K,rfl,⟨by first | exact hlen | simp only [aq,hlen],hA,by first | exact h2 | simp only [hlen,h2,gB,sevalprocAttr],by first | exact h3 | simp only [hlen,h3,gB,sevalprocAttr],by first | exact h4 | simp only [hlen,h4,gB,sevalprocAttr]⟩,by simp only [ls,hlen],by simp only [hlen,dK,aR]⟩
 | succ d ih =>
   intro j tm K Z hZ hd hj hA hlen h2 h3 h4 h7;subst hZ;have hjN:j < c.params.length:=by omega
   have hlt:ltB (j:Int) (c.params.length:Nat)=true:=cu (by omega);have hw:=b6 (j:=j) (by omega);obtain ⟨i,k,pn,hix,hrd1,hrd2⟩:=xX h hA hjN;obtain ⟨i2,k2,hix2,hra⟩:=zd ha hA (j:=j) (by omega);have hai:=BM hi32 (j:=j) (by omega);have hwa:IntKind.i64.wrap (fS x.args j)=fS x.args j:=by obtain ⟨a0,a1⟩:=hai; exact pw (by omega)
   have hbq:∀ L k n,ak (K++L) q k n=if k+n<=(dF nm x va).length then some (((dF nm x va).drop k).take n) else none:=fun L k n=>eU (hA.get hq) L k n
   have hbq1:∀ L k n,ak (K++L) q1 k n=if k+n<=(bO c vp vs vi).length then some (((bO c vp vs vi).drop k).take n) else none:=fun L k n=>eU (hA.get hq1) L k n
   have hbq0:∀ k n,ak K q1 k n=if k+n<=(bO c vp vs vi).length then some (((bO c vp vs vi).drop k).take n) else none:=fun k n=>by have:=hbq1 [] k n; rwa [af] at this
   have hlp:=h.lp;rw [cK hjN,Gz];rw [<-af K];cases hp:(jK c x.args n j) with
   | true =>
     simp only [bf];unfold jK at hp;cases hb:iS c (j:Int) with
     | false =>simp (maxSteps:=4000000) -implicitDefEqProofs only [sE,f101,aP,hlen,h2,h3,h4,h7,hlt,hw,hix,hrd1,hix2,hra,hwa,hbq,hbq1,hlp,eK,eJ,eI,eH,dF,r5,↓ba,hb,↓aG,aF,eu,sevalprocAttr];exact ih (j+1) _ _ _ rfl (by omega) (by omega) (by first | exact hA | exact hA.bX _ | exact (hA.bX _).bX _) (by simp only [ls,hlen]) (by simp only [hlen,h2,gB,sevalprocAttr]) (by simp only [hlen,h3,gB,sevalprocAttr]) (by simp only [hlen,h4,gB,sevalprocAttr]) (by simp only [hlen,h7,gB,sevalprocAttr])
     | true =>rw [hb,bf,bl,Bool.or_eq_false_iff] at hp;obtain ⟨hp1,hp2⟩:=hp;simp (maxSteps:=4000000) -implicitDefEqProofs only [sE,f101,aP,hlen,h2,h3,h4,h7,hlt,hw,hix,hrd1,hix2,hra,hwa,hbq,hbq1,hlp,eK,eJ,eI,eH,dF,r5,↓ba,hb,hp1,hp2,↓aG,aF,eu,sevalprocAttr];exact ih (j+1) _ _ _ rfl (by omega) (by omega) (by first | exact hA | exact hA.bX _ | exact (hA.bX _).bX _) (by simp only [ls,hlen]) (by simp only [hlen,h2,gB,sevalprocAttr]) (by simp only [hlen,h3,gB,sevalprocAttr]) (by simp only [hlen,h4,gB,sevalprocAttr]) (by simp only [hlen,h7,gB,sevalprocAttr])
   | false =>
     simp only [bd];unfold jK at hp;rw [iU,Bool.and_eq_true,Bool.or_eq_true] at hp;obtain ⟨hb,hp⟩:=hp;cases hp1:ltB (fS x.args j) 0 with
     | true =>simp (maxSteps:=4000000) -implicitDefEqProofs only [sE,f101,aP,hlen,h2,h3,h4,h7,hlt,hw,hix,hrd1,hix2,hra,hwa,hbq,hbq1,hlp,eK,eJ,eI,eH,dF,r5,↓ba,hb,hp1,↓aG,aF,eu,sevalprocAttr];exact ⟨tm,_,K,_,rfl,⟨hlen,hA,h2,h3,h4⟩,by simp only [ls,hlen],by simp only [hlen,gB,sevalprocAttr]⟩
     | false =>
       rw [hp1] at hp;have hp2:leB n (fS x.args j)=true:=by simpa using hp
       simp (maxSteps:=4000000) -implicitDefEqProofs only [sE,f101,aP,hlen,h2,h3,h4,h7,hlt,hw,hix,hrd1,hix2,hra,hwa,hbq,hbq1,hlp,eK,eJ,eI,eH,dF,r5,↓ba,hb,hp1,hp2,↓aG,aF,eu,sevalprocAttr];exact ⟨tm,_,K,_,rfl,⟨hlen,hA,h2,h3,h4⟩,by simp only [ls,hlen],by simp only [hlen,gB,sevalprocAttr]⟩
theorem aaA {H:AH} {c:Cod} {vp vs vi va:AV} {x:Itm} {nm:ByteArray} (h:eW H c vp vs vi) (ha:SlS 32 1 H va (x.args.map dH)) (hi32:∀ a∈x.args,fk a) (n:Int):Ev aa C0 W0 101 [.agg (bO c vp vs vi),.agg (dF nm x va),I n] H=some (.bool (CW c nm x n),H):=by
 obtain ⟨tm,ht,g0,g1,g2,g3⟩:=tm3 (.agg (bO c vp vs vi)) (.agg (dF nm x va)) (I n) 73 (by decide);rw [ZB,ht];rw [<-af (ro H)];have hre:CW c nm x n=(sEq nm c.name && eqB (x.args.length:Int) (c.params.length:Int) && !ltB x.grid 1 && !ltB 8 x.grid && !ltB x.block 1 && !ltB 32 x.block && ck (fun j=>jK c x.args n j) c.params.length 0):=by unfold CW pN;ac_rfl
 rw [hre];have hlp:=h.ro.lp;have hla:=kQ ha.ro;cases h0:sEq nm c.name with
 | false=>simp (maxSteps:=4000000) -implicitDefEqProofs only [Db,f101,aP,g0,g1,g2,g3,dF,hlp,hla,jI,eK,eJ,eI,eH,dF,r5,↓ba,h0,↓aG,aF,eu,sevalprocAttr]
 | true =>
   cases h1:eqB (x.args.length:Int) (c.params.length:Int) with
   | false=>simp (maxSteps:=4000000) -implicitDefEqProofs only [Db,f101,aP,g0,g1,g2,g3,dF,hlp,hla,jI,eK,eJ,eI,eH,dF,r5,↓ba,h0,h1,↓aG,aF,eu,sevalprocAttr]
   | true =>
     cases h2:ltB x.grid 1 with
     | true=>simp (maxSteps:=4000000) -implicitDefEqProofs only [Db,f101,aP,g0,g1,g2,g3,dF,hlp,hla,jI,eK,eJ,eI,eH,dF,r5,↓ba,h0,h1,h2,↓aG,aF,eu,sevalprocAttr]
     | false =>
       cases h3:ltB 8 x.grid with
       | true=>simp (maxSteps:=4000000) -implicitDefEqProofs only [Db,f101,aP,g0,g1,g2,g3,dF,hlp,hla,jI,eK,eJ,eI,eH,dF,r5,↓ba,h0,h1,h2,h3,↓aG,aF,eu,sevalprocAttr]
       | false =>
         cases h4:ltB x.block 1 with
         | true=>simp (maxSteps:=4000000) -implicitDefEqProofs only [Db,f101,aP,g0,g1,g2,g3,dF,hlp,hla,jI,eK,eJ,eI,eH,dF,r5,↓ba,h0,h1,h2,h3,h4,↓aG,aF,eu,sevalprocAttr]
         | false =>
           cases h5:ltB 32 x.block with
           | true=>simp (maxSteps:=4000000) -implicitDefEqProofs only [Db,f101,aP,g0,g1,g2,g3,dF,hlp,hla,jI,eK,eJ,eI,eH,dF,r5,↓ba,h0,h1,h2,h3,h4,h5,↓aG,aF,eu,sevalprocAttr]
           | false =>
             have hnp:x.args.length=c.params.length:=by rw [cP] at h1; omega
             have hA0:=an.app (ro H) [bm.cells (bO c vp vs vi) 66,bm.cells (dF nm x va) 126];have hq:(ro H++[bm.cells (bO c vp vs vi) 66,bm.cells (dF nm x va) 126])[(ro H).length+1]? =some (.cells (dF nm x va) 126):=by rw [al (dI _ _),aN]; rfl
             have hq1:(ro H++[bm.cells (bO c vp vs vi) 66,bm.cells (dF nm x va) 126])[(ro H).length]? =some (.cells (bO c vp vs vi) 66):=by rw [al (aw _),d9]; rfl
             simp (maxSteps:=4000000) -implicitDefEqProofs only [Db,f101,aP,g0,g1,g2,g3,dF,hlp,hla,jI,eK,eJ,eI,eH,dF,r5,↓ba,h0,h1,h2,h3,h4,h5,↓aG,aF,eu,sevalprocAttr];generalize hX:EvC aa C0 W0 _ (Code.loop _) _=Z;obtain ⟨X,Y,K1,K2,he,xs,y0,y1⟩:=UK (h.ro.aZ hA0) (ha.ro.same hA0) hi32 hnp hq hq1 (dZ h.np (by decide)) _ 0 _ _ _ hX rfl (aV _) (an.refl _) (by simp only [ls,g0,g3]) (by simp only [g0,g3,g3,gB,sevalprocAttr]; try rfl) (by simp only [g0,g3,gB,sevalprocAttr]; try rfl) (by simp only [g0,g3,gB,sevalprocAttr]; try rfl) (by simp only [g0,g3,gB,sevalprocAttr]; try rfl);subst he;cases hf:ck (fun j=>jK c x.args n j) c.params.length 0 <;> simp (maxSteps:=4000000) -implicitDefEqProofs only [xs.1,y0,y1,hf,↓aG,aF,eu,sevalprocAttr]
theorem PC {H:AH} {m:List (List Int)} {v:AV} {q1 q2:Nat} (h:eo H m v) (hN:m.length < 2 ^ 60):∀ (d j:Nat) (tm:List AV) (K:AH) (Z:Option (bk × St)),EvC aa C0 W0 plN SC (tm,K)=Z->m.length - j=d->j<=m.length->an H K->tm.length=30->tm.getD 2 uA=v->tm.getD 3 uA=.ptr q1 0->tm.getD 4 uA=.ptr q2 0->tm.getD 7 uA=I ((j:Nat):Int) ->
   ∃ X Y K1 K2,Z=br (ck (fun j=>!ltB 256 ((bV m j).length:Int)) (m.length) (j)) (some (.exit 0,(X,K1))) (some (.ret,(Y,K2)))/\(X.length=30/\an H K1/\X.getD 2 uA=v/\X.getD 3 uA=.ptr q1 0/\X.getD 4 uA=.ptr q2 0)/\Y.length=30/\Y.getD 6 uA=.bool false:=by
 intro d;induction d with
 | zero =>
   intro j tm K Z hZ hd hj hA hlen h2 h3 h4 h7;subst hZ;have hjl:j=m.length:=by omega
   subst hjl;have hlt:ltB (((m.length:Nat)):Int) (m.length:Nat)=false:=cw (by omega);have hlm:=h.len;rw [dk (aw _),Nf];simp (maxSteps:=4000000) -implicitDefEqProofs only [Dw,f69,aP,hlen,h2,h3,h4,h7,hlt,hlm,r5,↓ba,↓aG,aF,eu,sevalprocAttr];exact ⟨_,tm.set 6 (.bool false),_,K,rfl,⟨by first | exact hlen | simp only [aq,hlen],hA,by first | exact h2 | simp only [hlen,h2,gB,sevalprocAttr],by first | exact h3 | simp only [hlen,h3,gB,sevalprocAttr],by first | exact h4 | simp only [hlen,h4,gB,sevalprocAttr]⟩,by simp only [ls,hlen],by simp only [hlen,dK,aR]⟩
 | succ d ih =>
   intro j tm K Z hZ hd hj hA hlen h2 h3 h4 h7;subst hZ;have hjN:j < m.length:=by omega
   have hlt:ltB (j:Int) (m.length:Nat)=true:=cu (by omega);have hw:=b6 (j:=j) (by omega);have hlm:=h.len;obtain ⟨i,k,w,hix,hrd,hw32⟩:=h.at hA hjN;have hl32:=kQ hw32;rw [cK hjN,Nf];rw [<-af K];cases hp:(!ltB 256 ((bV m j).length:Int)) with
   | true =>simp only [bf];rw [bl] at hp;simp (maxSteps:=4000000) -implicitDefEqProofs only [Dw,f69,aP,hlen,h2,h3,h4,h7,hlt,hw,hix,hrd,hl32,hlm,hp,r5,↓ba,↓aG,aF,eu,sevalprocAttr];exact ih (j+1) _ _ _ rfl (by omega) (by omega) (by first | exact hA | exact hA.bX _ | exact (hA.bX _).bX _) (by simp only [ls,hlen]) (by simp only [hlen,h2,gB,sevalprocAttr]) (by simp only [hlen,h3,gB,sevalprocAttr]) (by simp only [hlen,h4,gB,sevalprocAttr]) (by simp only [hlen,h7,gB,sevalprocAttr])
   | false =>simp only [bd];rw [iU] at hp;simp (maxSteps:=4000000) -implicitDefEqProofs only [Dw,f69,aP,hlen,h2,h3,h4,h7,hlt,hw,hix,hrd,hl32,hlm,hp,r5,↓ba,↓aG,aF,eu,sevalprocAttr];exact ⟨tm,_,K,_,rfl,⟨hlen,hA,h2,h3,h4⟩,by simp only [ls,hlen],by simp only [hlen,gB,sevalprocAttr]⟩
theorem aen {H:AH} {c:Cod} {vp vs vi va:AV} {x:Itm} {nm:ByteArray} (h:eW H c vp vs vi) (ha:SlS 32 1 H va (x.args.map dH)) (hi32:∀ a∈x.args,fk a) {m:List (List Int)} {vm:AV} (hm:eo H m vm):Ev aa C0 W0 69 [.agg (bO c vp vs vi),.agg (dF nm x va),vm] H=some (.bool (pq c nm x m),H):=by
 rw [Rb];obtain ⟨tm,ht,g0,g1,g2,g3⟩:=tm3 (.agg (bO c vp vs vi)) (.agg (dF nm x va)) vm 30 (by decide);rw [acP,ht];rw [<-af (ro H)];unfold L9 lO;have hlm:=hm.ro.len;have hA0:=an.app (ro H) [bm.cells (bO c vp vs vi) 66,bm.cells (dF nm x va) 126];have hq:(ro H++[bm.cells (bO c vp vs vi) 66,bm.cells (dF nm x va) 126])[(ro H).length+1]? =some (.cells (dF nm x va) 126):=by rw [al (dI _ _),aN]; rfl
 have hq1:(ro H++[bm.cells (bO c vp vs vi) 66,bm.cells (dF nm x va) 126])[(ro H).length]? =some (.cells (bO c vp vs vi) 66):=by rw [al (aw _),d9]; rfl
 simp (maxSteps:=4000000) -implicitDefEqProofs only [c69,f69,aP,g0,g1,g2,g3,hlm,↓TE,jI,dF,r5,↓ba,↓aG,aF,eu,sevalprocAttr];generalize hX:EvC aa C0 W0 _ (Code.loop _) _=Z;obtain ⟨X,Y,K1,K2,he,xs,y0,y1⟩:=PC (hm.ro.aZ hA0) (dZ hm.n (by decide)) _ 0 _ _ _ hX rfl (aV _) (an.refl _) (by simp only [ls,g0,g3]) (by simp only [g0,g3,g3,gB,sevalprocAttr]; try rfl) (by simp only [g0,g3,gB,sevalprocAttr]; try rfl) (by simp only [g0,g3,gB,sevalprocAttr]; try rfl) (by simp only [g0,g3,gB,sevalprocAttr]; try rfl);subst he;cases hf:ck (fun j=>!ltB 256 ((bV m j).length:Int)) m.length 0 with
 | false=>simp (maxSteps:=4000000) -implicitDefEqProofs only [y0,y1,hf,↓aG,aF,eu,sevalprocAttr]
 | true =>
   obtain ⟨x0,xA,x2,x3,x4⟩:=xs;have hbq1:∀ k n,ak K1 (ro H).length k n=if k+n<=(bO c vp vs vi).length then some (((bO c vp vs vi).drop k).take n) else none:=fun k n=>by have:=eU (xA.get hq1) [] k n; rwa [af] at this
   have hbq2:∀ k n,ak K1 ((ro H).length+1) k n=if k+n<=(dF nm x va).length then some (((dF nm x va).drop k).take n) else none:=fun k n=>by have:=eU (xA.get hq) [] k n; rwa [af] at this
   have h101:=aaA (nm:=nm) ((h.ro.aZ hA0).aZ xA) ((ha.ro.same hA0).same xA) hi32 (m.length:Int);simp only [bO,dF] at h101;cases h6:leB (m.length:Int) 6 <;> simp (maxSteps:=4000000) -implicitDefEqProofs only [aP,hf,h6,x0,x2,x3,x4,hbq1,hbq2,hlm,↓TE,h101,jI,dF,r5,↓ba,↓aG,aF,eu,sevalprocAttr]
theorem fB:d8 aa 34=some (.agg [I 0,I 0,I 0,I 0,I 0,I 0,I 0,.nilSlice,.int .i32 0]):=by kernel_rfl
theorem HZ {tm:List AV} {G:AH} {vm va:AV} {k c g b s d e w:Int} {R:Option (bk × St)} (hR:EvC aa C0 W0 sg (aH [true,true,true,true,false,true,false,true,true,true,true,true,false,false] c62) (tm,G++[.cells [vm] 24,.cells [I k,I c,I g,I b,I s,I d,I e,va,.int .i32 w] 34,.cells [I k,I 0,I 0,I 0,I 0,I 0,I 0,.nilSlice,.int .i32 0] 34])=R) (hlen:tm.length=181) (h5:tm.getD 5 uA=.ptr (G.length+1) 0) (h8:tm.getD 8 uA=.ptr (G.length+2) 0) :
   ∃ tm',R=some (.normal,(tm',G++[.cells [vm] 24,.cells [I k,I c,I g,I b,I s,I d,I e,va,.int .i32 w] 34,.cells [I k,I 0,I 0,I 0,I 0,I d,I 0,.nilSlice,.int .i32 w] 34]))/\tm'.length=181/\tm'.getD 0 uA=tm.getD 0 uA/\tm'.getD 1 uA=tm.getD 1 uA/\tm'.getD 4 uA=tm.getD 4 uA/\tm'.getD 5 uA=tm.getD 5 uA/\tm'.getD 7 uA=tm.getD 7 uA/\tm'.getD 8 uA=tm.getD 8 uA/\tm'.getD 9 uA=tm.getD 9 uA:=by subst hR;simp (maxSteps:=4000000) -implicitDefEqProofs only [c62,f62,aP,hlen,h5,h8,↓cD Ky,EC,cj,cW,dz,bZ,st3,fT,r5,↓ba,↓aG,aF,eu,sevalprocAttr,↓dW,↓dS,↓gK,↓eP,↓dU,↓eR,↓da,↓dX,↓bP,↓bz,↓cg,↓eT,↓de,↓dY,↓bR,↓bQ,↓ch,↓dJ,↓cJ,dg,bH,ai,bN,cd,cI,dh];exact ⟨_,rfl,by simp only [ls,hlen],by simp only [hlen,h5,h8,gB,and_self,sevalprocAttr]⟩
theorem J1 {tm:List AV} {G:AH} {vm va:AV} {k c g b s d e w:Int} {R:Option (bk × St)} (hR:EvC aa C0 W0 sg (aH [true,true,true,true,false,true,false,true,true,true,false,false] c62) (tm,G++[.cells [vm] 24,.cells [I k,I c,I g,I b,I s,I d,I e,va,.int .i32 w] 34,.cells [I k,I 0,I 0,I 0,I 0,I 0,I 0,.nilSlice,.int .i32 0] 34])=R) (hlen:tm.length=181) (h5:tm.getD 5 uA=.ptr (G.length+1) 0) (h8:tm.getD 8 uA=.ptr (G.length+2) 0) :
   ∃ tm',R=some (.normal,(tm',G++[.cells [vm] 24,.cells [I k,I c,I g,I b,I s,I d,I e,va,.int .i32 w] 34,.cells [I k,I 0,I 0,I 0,I s,I d,I 0,.nilSlice,.int .i32 0] 34]))/\tm'.length=181/\tm'.getD 0 uA=tm.getD 0 uA/\tm'.getD 1 uA=tm.getD 1 uA/\tm'.getD 4 uA=tm.getD 4 uA/\tm'.getD 5 uA=tm.getD 5 uA/\tm'.getD 7 uA=tm.getD 7 uA/\tm'.getD 8 uA=tm.getD 8 uA/\tm'.getD 9 uA=tm.getD 9 uA:=by subst hR;simp (maxSteps:=4000000) -implicitDefEqProofs only [c62,f62,aP,hlen,h5,h8,↓cD PV,Lf,cj,cW,dz,bZ,st3,fT,r5,↓ba,↓aG,aF,eu,sevalprocAttr,↓dW,↓dS,↓gK,↓eP,↓dU,↓eR,↓da,↓dX,↓bP,↓bz,↓cg,↓eT,↓de,↓dY,↓bR,↓bQ,↓ch,↓dJ,↓cJ,dg,bH,ai,bN,cd,cI,dh];exact ⟨_,rfl,by simp only [ls,hlen],by simp only [hlen,h5,h8,gB,and_self,sevalprocAttr]⟩
theorem J2 {tm:List AV} {G:AH} {vm va:AV} {k c g b s d e w:Int} {R:Option (bk × St)} (hR:EvC aa C0 W0 sg (aH [true,true,true,true,false,true,false,true,false,false] c62) (tm,G++[.cells [vm] 24,.cells [I k,I c,I g,I b,I s,I d,I e,va,.int .i32 w] 34,.cells [I k,I 0,I 0,I 0,I 0,I 0,I 0,.nilSlice,.int .i32 0] 34])=R) (hlen:tm.length=181) (h5:tm.getD 5 uA=.ptr (G.length+1) 0) (h8:tm.getD 8 uA=.ptr (G.length+2) 0) :
   ∃ tm',R=some (.normal,(tm',G++[.cells [vm] 24,.cells [I k,I c,I g,I b,I s,I d,I e,va,.int .i32 w] 34,.cells [I k,I c,I g,I b,I 0,I 0,I 0,.nilSlice,.int .i32 0] 34]))/\tm'.length=181/\tm'.getD 0 uA=tm.getD 0 uA/\tm'.getD 1 uA=tm.getD 1 uA/\tm'.getD 4 uA=tm.getD 4 uA/\tm'.getD 5 uA=tm.getD 5 uA/\tm'.getD 7 uA=tm.getD 7 uA/\tm'.getD 8 uA=tm.getD 8 uA/\tm'.getD 9 uA=tm.getD 9 uA:=by subst hR;simp (maxSteps:=4000000) -implicitDefEqProofs only [c62,f62,aP,hlen,h5,h8,↓cD PW,Lg,cj,cW,dz,bZ,st3,fT,r5,↓ba,↓aG,aF,eu,sevalprocAttr,↓dW,↓dS,↓gK,↓eP,↓dU,↓eR,↓da,↓dX,↓bP,↓bz,↓cg,↓eT,↓de,↓dY,↓bR,↓bQ,↓ch,↓dJ,↓cJ,dg,bH,ai,bN,cd,cI,dh];exact ⟨_,rfl,by simp only [ls,hlen],by simp only [hlen,h5,h8,gB,and_self,sevalprocAttr]⟩
def inB (m:List (List Int)) (n:Int):Bool:=leB 0 n && ltB n (m.length:Int)
def yq (m:List (List Int)) (n:Int):Int:=((bV m n.toNat).length:Int)
theorem bE (a:Int):eqB a a=true:=by rw [cP]
theorem eo.vc {H:AH} {m:List (List Int)} {v:AV} (h:eo H m v):v.cells=[v]/\v.one=true:=by obtain ⟨⟨l,e,hs,hc⟩,n,_⟩:=h;exact ⟨hs.cells,hs.one⟩
theorem iy (k:Int):iV aa 34 [(0,I k)]=some (.agg [I k,I 0,I 0,I 0,I 0,I 0,I 0,.nilSlice,.int .i32 0]):=by kernel_rfl
theorem IM {H:AH} {m:List (List Int)} {vm:AV} (hm:eo H m vm) {i k:Nat} (hb:ak H i k 1=some [vm]) (n:Int):Ev aa C0 W0 90 [I n,.ptr i k] H=some (.bool (inB m n),H):=by obtain ⟨tm,ht,g0,g1,g2⟩:=tm2 (I n) (.ptr i k) 12 (by decide);rw [acx,ht];rw [<-af (ro H)];have hb':∀ L,ak (ro H++L) i k 1=some [vm]:=fun L=>iH (s5 hb) (an.refl _) L;have hlm:=hm.ro.len;unfold inB;cases h0:leB 0 n <;> simp (maxSteps:=4000000) -implicitDefEqProofs only [c90,f90,aP,g0,g1,g2,hb',hlm,h0,r5,↓ba,↓aG,aF,eu,sevalprocAttr]
theorem El {H:AH} {m:List (List Int)} {vc vm:AV} (hm:eo H m vm) {x:Itm} {va:AV} (ha:SlS 32 1 H va (x.args.map dH)) (hk:x.kind=2):Ev aa C0 W0 62 [vc,vm,.agg (aJ x va)] H=some (.bool (inB m x.dst && eqB x.args.length 0 && eqB x.code 0 && eqB x.grid 0 && eqB x.block 0 && eqB x.src 0 && eqB x.ev 0),H):=by
 obtain ⟨tm,ht,g0,g1,g2,g3⟩:=tm3 vc vm (.agg (aJ x va)) 181 (by decide);rw [IC,ht];rw [<-af (ro H)];obtain ⟨kind,code,grid,block,src,dst,ev,args,word⟩:=x;simp only at ha hk ⊢;subst hk;have hla:=kQ ha.ro;have hlm:=hm.ro.len;obtain ⟨hvc,hvo⟩:=hm.vc;have hac:=ha.cells;have hao:=ha.one;have h90:∀ L n,Ev aa C0 W0 90 [I n,.ptr (ro H).length 0] (ro H++(bm.cells [vm] 24::L))=some (.bool (inB m n),ro H++(bm.cells [vm] 24::L)):=fun L n=>IM (hm.ro.aZ (an.app _ _)) (by rw [gj]; rfl) n;have e0:eqB 2 0=false:=rfl;have e1:eqB 2 1=false:=rfl;have e2:eqB 2 2=true:=rfl;simp (maxSteps:=4000000) -implicitDefEqProofs only [c62,f62,aP,g0,g1,g2,g3,aJ,st3,fT,fX,↓hvc,↓hvo,↓hac,↓hao,iy,fB,ed,hla,hlm,h90,bE,cS,cm,↓aS,func90,show f90.body.isSome=true from rfl,↓iq,↓il,r5,↓ba,e0,e1,e2,↓aG,aF,eu,sevalprocAttr];generalize hR:EvC aa C0 W0 _ (Code.region _ _ _) _=R;obtain ⟨t,he,hlen,t0,t1,t4,t5,t7,t8,t9⟩:=HZ hR (by simp only [ls,g0]) (by simp only [g0,gB,sevalprocAttr]) (by simp only [g0,gB,sevalprocAttr]);subst he;simp only [g0,g1,g2,g3,gB,sevalprocAttr] at t0 t1 t4 t5 t7 t8 t9;cases h0:inB m dst with
 | false=>simp (maxSteps:=4000000) -implicitDefEqProofs only [aP,hlen,t0,t1,t4,t5,t7,t8,t9,aJ,st3,fT,fX,↓hvc,↓hvo,↓hac,↓hao,iy,fB,ed,hla,hlm,h90,bE,cS,cm,↓aS,func90,show f90.body.isSome=true from rfl,↓iq,↓il,r5,↓ba,h0,↓aG,aF,eu,sevalprocAttr]
 | true =>
   cases h1:eqB (args.length:Int) 0 with
   | false=>simp (maxSteps:=4000000) -implicitDefEqProofs only [aP,hlen,t0,t1,t4,t5,t7,t8,t9,aJ,st3,fT,fX,↓hvc,↓hvo,↓hac,↓hao,iy,fB,ed,hla,hlm,h90,bE,cS,cm,↓aS,func90,show f90.body.isSome=true from rfl,↓iq,↓il,r5,↓ba,h0,h1,↓aG,aF,eu,sevalprocAttr]
   | true =>
     cases h2:eqB code 0 with
     | false=>simp (maxSteps:=4000000) -implicitDefEqProofs only [aP,hlen,t0,t1,t4,t5,t7,t8,t9,aJ,st3,fT,fX,↓hvc,↓hvo,↓hac,↓hao,iy,fB,ed,hla,hlm,h90,bE,cS,cm,↓aS,func90,show f90.body.isSome=true from rfl,↓iq,↓il,r5,↓ba,h0,h1,h2,↓aG,aF,eu,sevalprocAttr]
     | true =>
       cases h3:eqB grid 0 with
       | false=>simp (maxSteps:=4000000) -implicitDefEqProofs only [aP,hlen,t0,t1,t4,t5,t7,t8,t9,aJ,st3,fT,fX,↓hvc,↓hvo,↓hac,↓hao,iy,fB,ed,hla,hlm,h90,bE,cS,cm,↓aS,func90,show f90.body.isSome=true from rfl,↓iq,↓il,r5,↓ba,h0,h1,h2,h3,↓aG,aF,eu,sevalprocAttr]
       | true =>
         cases h4:eqB block 0 with
         | false=>simp (maxSteps:=4000000) -implicitDefEqProofs only [aP,hlen,t0,t1,t4,t5,t7,t8,t9,aJ,st3,fT,fX,↓hvc,↓hvo,↓hac,↓hao,iy,fB,ed,hla,hlm,h90,bE,cS,cm,↓aS,func90,show f90.body.isSome=true from rfl,↓iq,↓il,r5,↓ba,h0,h1,h2,h3,h4,↓aG,aF,eu,sevalprocAttr]
         | true =>
           cases h5:eqB src 0 with
           | false=>simp (maxSteps:=4000000) -implicitDefEqProofs only [aP,hlen,t0,t1,t4,t5,t7,t8,t9,aJ,st3,fT,fX,↓hvc,↓hvo,↓hac,↓hao,iy,fB,ed,hla,hlm,h90,bE,cS,cm,↓aS,func90,show f90.body.isSome=true from rfl,↓iq,↓il,r5,↓ba,h0,h1,h2,h3,h4,h5,↓aG,aF,eu,sevalprocAttr]
           | true =>
             cases h6:eqB ev 0 with
             | false=>simp (maxSteps:=4000000) -implicitDefEqProofs only [aP,hlen,t0,t1,t4,t5,t7,t8,t9,aJ,st3,fT,fX,↓hvc,↓hvo,↓hac,↓hao,iy,fB,ed,hla,hlm,h90,bE,cS,cm,↓aS,func90,show f90.body.isSome=true from rfl,↓iq,↓il,r5,↓ba,h0,h1,h2,h3,h4,h5,h6,↓aG,aF,eu,sevalprocAttr]
             | true =>simp (maxSteps:=4000000) -implicitDefEqProofs only [aP,hlen,t0,t1,t4,t5,t7,t8,t9,aJ,st3,fT,fX,↓hvc,↓hvo,↓hac,↓hao,iy,fB,ed,hla,hlm,h90,bE,cS,cm,↓aS,func90,show f90.body.isSome=true from rfl,↓iq,↓il,r5,↓ba,h0,h1,h2,h3,h4,h5,h6,↓aG,aF,eu,sevalprocAttr]
theorem HW {H:AH} {m:List (List Int)} {vc vm:AV} (hm:eo H m vm) {x:Itm} {va:AV} (ha:SlS 32 1 H va (x.args.map dH)) (hk:x.kind=3):Ev aa C0 W0 62 [vc,vm,.agg (aJ x va)] H=some (.bool (leB 0 x.ev && ltB x.ev 16 && eqB x.args.length 0 && eqB x.code 0 && eqB x.grid 0 && eqB x.block 0 && eqB x.src 0 && eqB x.dst 0 && eqB x.word 0),H):=by
 obtain ⟨tm,ht,g0,g1,g2,g3⟩:=tm3 vc vm (.agg (aJ x va)) 181 (by decide);rw [IC,ht];rw [<-af (ro H)];obtain ⟨kind,code,grid,block,src,dst,ev,args,word⟩:=x;simp only at ha hk ⊢;subst hk;have hla:=kQ ha.ro;have hlm:=hm.ro.len;obtain ⟨hvc,hvo⟩:=hm.vc;have hac:=ha.cells;have hao:=ha.one;have h90:∀ L n,Ev aa C0 W0 90 [I n,.ptr (ro H).length 0] (ro H++(bm.cells [vm] 24::L))=some (.bool (inB m n),ro H++(bm.cells [vm] 24::L)):=fun L n=>IM (hm.ro.aZ (an.app _ _)) (by rw [gj]; rfl) n;have e0:eqB 3 0=false:=rfl;have e1:eqB 3 1=false:=rfl;have e2:eqB 3 2=false:=rfl;have e3:eqB 3 3=true:=rfl;have e4:eqB 3 4=false:=rfl;cases h0:leB 0 ev with
 | false=>simp (maxSteps:=4000000) -implicitDefEqProofs only [c62,f62,aP,g0,g1,g2,g3,aJ,st3,fT,fX,↓hvc,↓hvo,↓hac,↓hao,iy,fB,ed,hla,hlm,h90,bE,cS,cm,↓aS,func90,show f90.body.isSome=true from rfl,↓iq,↓il,r5,↓ba,e0,e1,e2,e3,e4,h0,↓aG,aF,eu,sevalprocAttr]
 | true =>
   cases h1:ltB ev 16 with
   | false=>simp (maxSteps:=4000000) -implicitDefEqProofs only [c62,f62,aP,g0,g1,g2,g3,aJ,st3,fT,fX,↓hvc,↓hvo,↓hac,↓hao,iy,fB,ed,hla,hlm,h90,bE,cS,cm,↓aS,func90,show f90.body.isSome=true from rfl,↓iq,↓il,r5,↓ba,e0,e1,e2,e3,e4,h0,h1,↓aG,aF,eu,sevalprocAttr]
   | true =>
     cases h2:eqB (args.length:Int) 0 with
     | false=>simp (maxSteps:=4000000) -implicitDefEqProofs only [c62,f62,aP,g0,g1,g2,g3,aJ,st3,fT,fX,↓hvc,↓hvo,↓hac,↓hao,iy,fB,ed,hla,hlm,h90,bE,cS,cm,↓aS,func90,show f90.body.isSome=true from rfl,↓iq,↓il,r5,↓ba,e0,e1,e2,e3,e4,h0,h1,h2,↓aG,aF,eu,sevalprocAttr]
     | true =>
       cases h3:eqB code 0 with
       | false=>simp (maxSteps:=4000000) -implicitDefEqProofs only [c62,f62,aP,g0,g1,g2,g3,aJ,st3,fT,fX,↓hvc,↓hvo,↓hac,↓hao,iy,fB,ed,hla,hlm,h90,bE,cS,cm,↓aS,func90,show f90.body.isSome=true from rfl,↓iq,↓il,r5,↓ba,e0,e1,e2,e3,e4,h0,h1,h2,h3,↓aG,aF,eu,sevalprocAttr]
       | true =>
         cases h4:eqB grid 0 with
         | false=>simp (maxSteps:=4000000) -implicitDefEqProofs only [c62,f62,aP,g0,g1,g2,g3,aJ,st3,fT,fX,↓hvc,↓hvo,↓hac,↓hao,iy,fB,ed,hla,hlm,h90,bE,cS,cm,↓aS,func90,show f90.body.isSome=true from rfl,↓iq,↓il,r5,↓ba,e0,e1,e2,e3,e4,h0,h1,h2,h3,h4,↓aG,aF,eu,sevalprocAttr]
         | true =>
           cases h5:eqB block 0 with
           | false=>simp (maxSteps:=4000000) -implicitDefEqProofs only [c62,f62,aP,g0,g1,g2,g3,aJ,st3,fT,fX,↓hvc,↓hvo,↓hac,↓hao,iy,fB,ed,hla,hlm,h90,bE,cS,cm,↓aS,func90,show f90.body.isSome=true from rfl,↓iq,↓il,r5,↓ba,e0,e1,e2,e3,e4,h0,h1,h2,h3,h4,h5,↓aG,aF,eu,sevalprocAttr]
           | true =>
             cases h6:eqB src 0 with
             | false=>simp (maxSteps:=4000000) -implicitDefEqProofs only [c62,f62,aP,g0,g1,g2,g3,aJ,st3,fT,fX,↓hvc,↓hvo,↓hac,↓hao,iy,fB,ed,hla,hlm,h90,bE,cS,cm,↓aS,func90,show f90.body.isSome=true from rfl,↓iq,↓il,r5,↓ba,e0,e1,e2,e3,e4,h0,h1,h2,h3,h4,h5,h6,↓aG,aF,eu,sevalprocAttr]
             | true =>
               cases h7:eqB dst 0 with
               | false=>simp (maxSteps:=4000000) -implicitDefEqProofs only [c62,f62,aP,g0,g1,g2,g3,aJ,st3,fT,fX,↓hvc,↓hvo,↓hac,↓hao,iy,fB,ed,hla,hlm,h90,bE,cS,cm,↓aS,func90,show f90.body.isSome=true from rfl,↓iq,↓il,r5,↓ba,e0,e1,e2,e3,e4,h0,h1,h2,h3,h4,h5,h6,h7,↓aG,aF,eu,sevalprocAttr]
               | true =>
                 cases h8:eqB word 0 with
                 | false=>simp (maxSteps:=4000000) -implicitDefEqProofs only [c62,f62,aP,g0,g1,g2,g3,aJ,st3,fT,fX,↓hvc,↓hvo,↓hac,↓hao,iy,fB,ed,hla,hlm,h90,bE,cS,cm,↓aS,func90,show f90.body.isSome=true from rfl,↓iq,↓il,r5,↓ba,e0,e1,e2,e3,e4,h0,h1,h2,h3,h4,h5,h6,h7,h8,↓aG,aF,eu,sevalprocAttr]
                 | true =>simp (maxSteps:=4000000) -implicitDefEqProofs only [c62,f62,aP,g0,g1,g2,g3,aJ,st3,fT,fX,↓hvc,↓hvo,↓hac,↓hao,iy,fB,ed,hla,hlm,h90,bE,cS,cm,↓aS,func90,show f90.body.isSome=true from rfl,↓iq,↓il,r5,↓ba,e0,e1,e2,e3,e4,h0,h1,h2,h3,h4,h5,h6,h7,h8,↓aG,aF,eu,sevalprocAttr]
theorem HV {H:AH} {m:List (List Int)} {vc vm:AV} (hm:eo H m vm) {x:Itm} {va:AV} (ha:SlS 32 1 H va (x.args.map dH)) (hk:x.kind=4):Ev aa C0 W0 62 [vc,vm,.agg (aJ x va)] H=some (.bool (leB 0 x.ev && ltB x.ev 16 && eqB x.args.length 0 && eqB x.code 0 && eqB x.grid 0 && eqB x.block 0 && eqB x.src 0 && eqB x.dst 0 && eqB x.word 0),H):=by
 obtain ⟨tm,ht,g0,g1,g2,g3⟩:=tm3 vc vm (.agg (aJ x va)) 181 (by decide);rw [IC,ht];rw [<-af (ro H)];obtain ⟨kind,code,grid,block,src,dst,ev,args,word⟩:=x;simp only at ha hk ⊢;subst hk;have hla:=kQ ha.ro;have hlm:=hm.ro.len;obtain ⟨hvc,hvo⟩:=hm.vc;have hac:=ha.cells;have hao:=ha.one;have h90:∀ L n,Ev aa C0 W0 90 [I n,.ptr (ro H).length 0] (ro H++(bm.cells [vm] 24::L))=some (.bool (inB m n),ro H++(bm.cells [vm] 24::L)):=fun L n=>IM (hm.ro.aZ (an.app _ _)) (by rw [gj]; rfl) n;have e0:eqB 4 0=false:=rfl;have e1:eqB 4 1=false:=rfl;have e2:eqB 4 2=false:=rfl;have e3:eqB 4 3=false:=rfl;have e4:eqB 4 4=true:=rfl;cases h0:leB 0 ev with
 | false=>simp (maxSteps:=4000000) -implicitDefEqProofs only [c62,f62,aP,g0,g1,g2,g3,aJ,st3,fT,fX,↓hvc,↓hvo,↓hac,↓hao,iy,fB,ed,hla,hlm,h90,bE,cS,cm,↓aS,func90,show f90.body.isSome=true from rfl,↓iq,↓il,r5,↓ba,e0,e1,e2,e3,e4,h0,↓aG,aF,eu,sevalprocAttr]
 | true =>
   cases h1:ltB ev 16 with
   | false=>simp (maxSteps:=4000000) -implicitDefEqProofs only [c62,f62,aP,g0,g1,g2,g3,aJ,st3,fT,fX,↓hvc,↓hvo,↓hac,↓hao,iy,fB,ed,hla,hlm,h90,bE,cS,cm,↓aS,func90,show f90.body.isSome=true from rfl,↓iq,↓il,r5,↓ba,e0,e1,e2,e3,e4,h0,h1,↓aG,aF,eu,sevalprocAttr]
   | true =>
     cases h2:eqB (args.length:Int) 0 with
     | false=>simp (maxSteps:=4000000) -implicitDefEqProofs only [c62,f62,aP,g0,g1,g2,g3,aJ,st3,fT,fX,↓hvc,↓hvo,↓hac,↓hao,iy,fB,ed,hla,hlm,h90,bE,cS,cm,↓aS,func90,show f90.body.isSome=true from rfl,↓iq,↓il,r5,↓ba,e0,e1,e2,e3,e4,h0,h1,h2,↓aG,aF,eu,sevalprocAttr]
     | true =>
       cases h3:eqB code 0 with
       | false=>simp (maxSteps:=4000000) -implicitDefEqProofs only [c62,f62,aP,g0,g1,g2,g3,aJ,st3,fT,fX,↓hvc,↓hvo,↓hac,↓hao,iy,fB,ed,hla,hlm,h90,bE,cS,cm,↓aS,func90,show f90.body.isSome=true from rfl,↓iq,↓il,r5,↓ba,e0,e1,e2,e3,e4,h0,h1,h2,h3,↓aG,aF,eu,sevalprocAttr]
       | true =>
         cases h4:eqB grid 0 with
         | false=>simp (maxSteps:=4000000) -implicitDefEqProofs only [c62,f62,aP,g0,g1,g2,g3,aJ,st3,fT,fX,↓hvc,↓hvo,↓hac,↓hao,iy,fB,ed,hla,hlm,h90,bE,cS,cm,↓aS,func90,show f90.body.isSome=true from rfl,↓iq,↓il,r5,↓ba,e0,e1,e2,e3,e4,h0,h1,h2,h3,h4,↓aG,aF,eu,sevalprocAttr]
         | true =>
           cases h5:eqB block 0 with
           | false=>simp (maxSteps:=4000000) -implicitDefEqProofs only [c62,f62,aP,g0,g1,g2,g3,aJ,st3,fT,fX,↓hvc,↓hvo,↓hac,↓hao,iy,fB,ed,hla,hlm,h90,bE,cS,cm,↓aS,func90,show f90.body.isSome=true from rfl,↓iq,↓il,r5,↓ba,e0,e1,e2,e3,e4,h0,h1,h2,h3,h4,h5,↓aG,aF,eu,sevalprocAttr]
           | true =>
             cases h6:eqB src 0 with
             | false=>simp (maxSteps:=4000000) -implicitDefEqProofs only [c62,f62,aP,g0,g1,g2,g3,aJ,st3,fT,fX,↓hvc,↓hvo,↓hac,↓hao,iy,fB,ed,hla,hlm,h90,bE,cS,cm,↓aS,func90,show f90.body.isSome=true from rfl,↓iq,↓il,r5,↓ba,e0,e1,e2,e3,e4,h0,h1,h2,h3,h4,h5,h6,↓aG,aF,eu,sevalprocAttr]
             | true =>
               cases h7:eqB dst 0 with
               | false=>simp (maxSteps:=4000000) -implicitDefEqProofs only [c62,f62,aP,g0,g1,g2,g3,aJ,st3,fT,fX,↓hvc,↓hvo,↓hac,↓hao,iy,fB,ed,hla,hlm,h90,bE,cS,cm,↓aS,func90,show f90.body.isSome=true from rfl,↓iq,↓il,r5,↓ba,e0,e1,e2,e3,e4,h0,h1,h2,h3,h4,h5,h6,h7,↓aG,aF,eu,sevalprocAttr]
               | true =>
                 cases h8:eqB word 0 with
                 | false=>simp (maxSteps:=4000000) -implicitDefEqProofs only [c62,f62,aP,g0,g1,g2,g3,aJ,st3,fT,fX,↓hvc,↓hvo,↓hac,↓hao,iy,fB,ed,hla,hlm,h90,bE,cS,cm,↓aS,func90,show f90.body.isSome=true from rfl,↓iq,↓il,r5,↓ba,e0,e1,e2,e3,e4,h0,h1,h2,h3,h4,h5,h6,h7,h8,↓aG,aF,eu,sevalprocAttr]
                 | true =>simp (maxSteps:=4000000) -implicitDefEqProofs only [c62,f62,aP,g0,g1,g2,g3,aJ,st3,fT,fX,↓hvc,↓hvo,↓hac,↓hao,iy,fB,ed,hla,hlm,h90,bE,cS,cm,↓aS,func90,show f90.body.isSome=true from rfl,↓iq,↓il,r5,↓ba,e0,e1,e2,e3,e4,h0,h1,h2,h3,h4,h5,h6,h7,h8,↓aG,aF,eu,sevalprocAttr]
theorem Ek {H:AH} {m:List (List Int)} {vc vm:AV} (hm:eo H m vm) {x:Itm} {va:AV} (ha:SlS 32 1 H va (x.args.map dH)) (k0:eqB x.kind 0=false) (k1:eqB x.kind 1=false) (k2:eqB x.kind 2=false) (k3:eqB x.kind 3=false) (k4:eqB x.kind 4=false):Ev aa C0 W0 62 [vc,vm,.agg (aJ x va)] H=some (.bool (false),H):=by obtain ⟨tm,ht,g0,g1,g2,g3⟩:=tm3 vc vm (.agg (aJ x va)) 181 (by decide);rw [IC,ht];rw [<-af (ro H)];obtain ⟨kind,code,grid,block,src,dst,ev,args,word⟩:=x;simp only at ha k0 k1 k2 k3 k4 ⊢;have hla:=kQ ha.ro;have hlm:=hm.ro.len;obtain ⟨hvc,hvo⟩:=hm.vc;have hac:=ha.cells;have hao:=ha.one;have h90:∀ L n,Ev aa C0 W0 90 [I n,.ptr (ro H).length 0] (ro H++(bm.cells [vm] 24::L))=some (.bool (inB m n),ro H++(bm.cells [vm] 24::L)):=fun L n=>IM (hm.ro.aZ (an.app _ _)) (by rw [gj]; rfl) n;simp (maxSteps:=4000000) -implicitDefEqProofs only [c62,f62,aP,g0,g1,g2,g3,aJ,st3,fT,fX,↓hvc,↓hvo,↓hac,↓hao,iy,fB,ed,hla,hlm,h90,bE,cS,cm,↓aS,func90,show f90.body.isSome=true from rfl,↓iq,↓il,r5,↓ba,k0,k1,k2,k3,k4,↓aG,aF,eu,sevalprocAttr]
end Go.Dv
