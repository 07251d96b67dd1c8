/- Part 22 of the walks (own work). -/
import Derived.Test.YtilpjnckfkjkbaaGreatDoorZ21
set_option maxRecDepth 100000
set_option maxHeartbeats 4000000
set_option linter.unusedSimpArgs false
set_option linter.unusedVariables false
namespace Go.Dv
open Go.Proofs
attribute [local congr] bind_congr_first cb_congr condA_congr gd_congr br_congr
theorem fitm_l {H:AH} {m:List (List Int)} {v:AV} {q1 q2:Nat} (h:MemR H m v) (hN:m.length < 2 ^ 60):∀ (d j:Nat) (tm:List AV) (K:AH),m.length - j=d->j<=m.length->Agree H K->tm.length=52->tm.getD 2 uA=v->tm.getD 3 uA=.ptr q1 0->tm.getD 4 uA=.ptr q2 0->tm.getD 20 uA=v->tm.getD 21 uA=I m.length->tm.getD 22 uA=I ((j:Nat):Int) ->
   ∃ X Y K1 K2,EvC Tryz.prog C0 W0 plN l91_0 (tm,K)=br (allF (fun j=>!ltB 256 ((bufOf m j).length:Int)) (m.length) (j)) (some (.exit 0,(X,K1))) (some (.ret,(Y,K2)))/\(X.length=52/\Agree H K1/\X.getD 2 uA=v/\X.getD 3 uA=.ptr q1 0/\X.getD 4 uA=.ptr q2 0/\X.getD 20 uA=v/\X.getD 21 uA=I m.length)/\Y.length=52/\Y.getD 6 uA=.bool false:=by
 intro d
 induction d with
 | zero =>
   intro j tm K hd hj hA hlen h2 h3 h4 h20 h21 h22
   have hjl:j=m.length:=by omega
   subst hjl
   have hlt:ltB (((m.length:Nat)):Int) (m.length:Nat)=false:=ltB_f (by omega)
   have hlm:=h.len
   rw [allF_end (Nat.le_refl _),el91_0]
   simp (maxSteps:=4000000) -implicitDefEqProofs only [b91_0,Tryz.f91,aP,hlen,h2,h3,h4,h20,h21,h22,hlt,hlm,r5,↓evLd,↓evDn,evUp,eu,sevalprocAttr]
   exact ⟨_,tm.set 6 (.bool false),_,K,rfl,⟨by first | exact hlen | simp only [List.length_set,hlen],hA,by first | exact h2 | simp only [hlen,h2,gB,sevalprocAttr],by first | exact h3 | simp only [hlen,h3,gB,sevalprocAttr],by first | exact h4 | simp only [hlen,h4,gB,sevalprocAttr],by first | exact h20 | simp only [hlen,h20,gB,sevalprocAttr],by first | exact h21 | simp only [hlen,h21,gB,sevalprocAttr]⟩,by simp only [ls,hlen],by simp only [hlen,gs_self,Nat.reduceLT]⟩
 | succ d ih =>
   intro j tm K hd hj hA hlen h2 h3 h4 h20 h21 h22
   have hjN:j < m.length:=by omega
   have hlt:ltB (j:Int) (m.length:Nat)=true:=ltB_t (by omega)
   have hw:=inc_i (j:=j) (by omega)
   have hlm:=h.len
   obtain ⟨i,k,w,hix,hrd,hw32⟩:=h.at hA hjN
   have hl32:=sl32 hw32
   rw [allF_step hjN,el91_0]
   rw [<-List.append_nil K]
   cases hp:(!ltB 256 ((bufOf m j).length:Int)) with
   | true =>
     simp only [Bool.true_and]
     rw [Bool.not_eq_true'] at hp
     simp (maxSteps:=4000000) -implicitDefEqProofs only [b91_0,Tryz.f91,aP,hlen,h2,h3,h4,h20,h21,h22,hlt,hw,hix,hrd,hl32,hlm,hp,r5,↓evLd,↓evDn,evUp,eu,sevalprocAttr]
     exact ih (j+1) _ _ (by omega) (by omega) (by first | exact hA | exact hA.appR _ | exact (hA.appR _).appR _) (by simp only [ls,hlen]) (by simp only [hlen,h2,gB,sevalprocAttr]) (by simp only [hlen,h3,gB,sevalprocAttr]) (by simp only [hlen,h4,gB,sevalprocAttr]) (by simp only [hlen,h20,gB,sevalprocAttr]) (by simp only [hlen,h21,gB,sevalprocAttr]) (by simp only [hlen,h22,gB,sevalprocAttr])
   | false =>
     simp only [Bool.false_and]
     rw [Bool.not_eq_false'] at hp
     simp (maxSteps:=4000000) -implicitDefEqProofs only [b91_0,Tryz.f91,aP,hlen,h2,h3,h4,h20,h21,h22,hlt,hw,hix,hrd,hl32,hlm,hp,r5,↓evLd,↓evDn,evUp,eu,sevalprocAttr]
     exact ⟨tm,_,K,_,rfl,⟨hlen,hA,h2,h3,h4,h20,h21⟩,by simp only [ls,hlen],by simp only [hlen,gB,sevalprocAttr]⟩
theorem fitm_l' {H:AH} {m:List (List Int)} {v:AV} {q1 q2:Nat} {tm:List AV} {K:AH} {Z:Option (AExit × St)} (hX:EvC Tryz.prog C0 W0 plN l91_0 (tm,K)=Z) (h:MemR H m v) (hN:m.length < 2 ^ 60) (hA:Agree H K) (hlen:tm.length=52) (h2:tm.getD 2 uA=v) (h3:tm.getD 3 uA=.ptr q1 0) (h4:tm.getD 4 uA=.ptr q2 0) (h20:tm.getD 20 uA=v) (h21:tm.getD 21 uA=I m.length) (h22:tm.getD 22 uA=I ((0:Nat):Int)) :
   ∃ X Y K1 K2,Z=br (allF (fun j=>!ltB 256 ((bufOf m j).length:Int)) (m.length) (0)) (some (.exit 0,(X,K1))) (some (.ret,(Y,K2)))/\(X.length=52/\Agree H K1/\X.getD 2 uA=v/\X.getD 3 uA=.ptr q1 0/\X.getD 4 uA=.ptr q2 0/\X.getD 20 uA=v/\X.getD 21 uA=I m.length)/\Y.length=52/\Y.getD 6 uA=.bool false:=by
 subst hX
 exact fitm_l h hN (m.length) 0 tm K (by omega) (by omega) hA hlen h2 h3 h4 h20 h21 h22
theorem fitt_l {G:AH} {c:Cod} {vp vs vi va:AV} {x:Itm} {nm:ByteArray} {q:Nat} {m:List (List Int)} {vm:AV} (h:CodR G c vp vs vi) (ha:SlS 32 1 G va (x.args.map row1)) (hi32:∀ a∈x.args,i32R a) (hnp:x.args.length=c.params.length) (hq:G[q]? =some (.cells (rowL nm x va) 126)) (hm:MemR G m vm) (hN:c.params.length < 2 ^ 60):∀ (d j:Nat) (tm:List AV) (K:AH),c.params.length - j=d->j<=c.params.length->Agree G K->tm.length=52->tm.getD 2 uA=vm->tm.getD 4 uA=.ptr q 0->tm.getD 31 uA=vp->tm.getD 32 uA=I c.params.length->tm.getD 33 uA=I ((j:Nat):Int) ->
   ∃ X Y K1 K2,EvC Tryz.prog C0 W0 plN l91_1 (tm,K)=br (allF (fun j=>topP c x.args (m.length:Int) j) (c.params.length) (j)) (some (.exit 2,(X,K1))) (some (.ret,(Y,K2)))/\(X.length=52/\Agree G K1/\X.getD 2 uA=vm/\X.getD 4 uA=.ptr q 0/\X.getD 31 uA=vp/\X.getD 32 uA=I c.params.length)/\Y.length=52/\Y.getD 6 uA=.bool false:=by
 intro d
 induction d with
 | zero =>
   intro j tm K hd hj hA hlen h2 h4 h31 h32 h33
   have hjl:j=c.params.length:=by omega
   subst hjl
   have hlt:ltB (((c.params.length:Nat)):Int) (c.params.length:Nat)=false:=ltB_f (by omega)
   rw [allF_end (Nat.le_refl _),el91_1]
   simp (maxSteps:=4000000) -implicitDefEqProofs only [b91_1,Tryz.f91,aP,hlen,h2,h4,h31,h32,h33,hlt,↓evDn,evUp,eu,sevalprocAttr]
   exact ⟨_,tm.set 6 (.bool false),_,K,rfl,⟨by first | exact hlen | simp only [List.length_set,hlen],hA,by first | exact h2 | simp only [hlen,h2,gB,sevalprocAttr],by first | exact h4 | simp only [hlen,h4,gB,sevalprocAttr],by first | exact h31 | simp only [hlen,h31,gB,sevalprocAttr],by first | exact h32 | simp only [hlen,h32,gB,sevalprocAttr]⟩,by simp only [ls,hlen],by simp only [hlen,gs_self,Nat.reduceLT]⟩
 | succ d ih =>
   intro j tm K hd hj hA hlen h2 h4 h31 h32 h33
   have hjN:j < c.params.length:=by omega
   have hlt:ltB (j:Int) (c.params.length:Nat)=true:=ltB_t (by omega)
   have hw:=inc_i (j:=j) (by omega)
   obtain ⟨i,k,pn,hix,hrd1,hrd2⟩:=prb_at h hA hjN
   obtain ⟨i2,k2,hix2,hra⟩:=arg_at ha hA (j:=j) (by omega)
   have hai:=arg_i32 hi32 (j:=j) (by omega)
   have hwa:IntKind.i64.wrap (argAt x.args j)=argAt x.args j:=by obtain ⟨a0,a1⟩:=hai; exact wr_i (by omega)
   have hbq:∀ L k n,rdCells (K++L) q k n=if k+n<=(rowL nm x va).length then some (((rowL nm x va).drop k).take n) else none:=fun L k n=>obj_rd (hA.get hq) L k n
   have hlm:=hm.len
   rw [allF_step hjN,el91_1]
   rw [<-List.append_nil K]
   cases hp:(topP c x.args (m.length:Int) j) with
   | true =>
     simp only [Bool.true_and]
     unfold topP at hp
     cases hb:bufAt c (j:Int) with
     | false =>
       simp (maxSteps:=4000000) -implicitDefEqProofs only [b91_1,Tryz.f91,aP,hlen,h2,h4,h31,h32,h33,hlt,hw,hix,hrd1,hrd2,hix2,hra,hwa,hbq,hlm,z74,st74,fa126_0,fa126_1,fa126_2,fa126_3,rowL,r5,↓evLd,hb,↓evDn,evUp,eu,sevalprocAttr]
       exact ih (j+1) _ _ (by omega) (by omega) (by first | exact hA | exact hA.appR _ | exact (hA.appR _).appR _) (by simp only [ls,hlen]) (by simp only [hlen,h2,gB,sevalprocAttr]) (by simp only [hlen,h4,gB,sevalprocAttr]) (by simp only [hlen,h31,gB,sevalprocAttr]) (by simp only [hlen,h32,gB,sevalprocAttr]) (by simp only [hlen,h33,gB,sevalprocAttr])
     | true =>
       rw [hb,Bool.true_and,Bool.not_eq_true'] at hp
       simp (maxSteps:=4000000) -implicitDefEqProofs only [b91_1,Tryz.f91,aP,hlen,h2,h4,h31,h32,h33,hlt,hw,hix,hrd1,hrd2,hix2,hra,hwa,hbq,hlm,z74,st74,fa126_0,fa126_1,fa126_2,fa126_3,rowL,r5,↓evLd,hb,hp,↓evDn,evUp,eu,sevalprocAttr]
       exact ih (j+1) _ _ (by omega) (by omega) (by first | exact hA | exact hA.appR _ | exact (hA.appR _).appR _) (by simp only [ls,hlen]) (by simp only [hlen,h2,gB,sevalprocAttr]) (by simp only [hlen,h4,gB,sevalprocAttr]) (by simp only [hlen,h31,gB,sevalprocAttr]) (by simp only [hlen,h32,gB,sevalprocAttr]) (by simp only [hlen,h33,gB,sevalprocAttr])
   | false =>
     simp only [Bool.false_and]
     unfold topP at hp
     rw [Bool.not_eq_false',Bool.and_eq_true] at hp
     obtain ⟨hb,hp2⟩:=hp
     simp (maxSteps:=4000000) -implicitDefEqProofs only [b91_1,Tryz.f91,aP,hlen,h2,h4,h31,h32,h33,hlt,hw,hix,hrd1,hrd2,hix2,hra,hwa,hbq,hlm,z74,st74,fa126_0,fa126_1,fa126_2,fa126_3,rowL,r5,↓evLd,hb,hp2,↓evDn,evUp,eu,sevalprocAttr]
     exact ⟨tm,_,K,_,rfl,⟨hlen,hA,h2,h4,h31,h32⟩,by simp only [ls,hlen],by simp only [hlen,gB,sevalprocAttr]⟩
theorem fitt_l' {G:AH} {c:Cod} {vp vs vi va:AV} {x:Itm} {nm:ByteArray} {q:Nat} {m:List (List Int)} {vm:AV} {tm:List AV} {K:AH} {Z:Option (AExit × St)} (hX:EvC Tryz.prog C0 W0 plN l91_1 (tm,K)=Z) (h:CodR G c vp vs vi) (ha:SlS 32 1 G va (x.args.map row1)) (hi32:∀ a∈x.args,i32R a) (hnp:x.args.length=c.params.length) (hq:G[q]? =some (.cells (rowL nm x va) 126)) (hm:MemR G m vm) (hN:c.params.length < 2 ^ 60) (hA:Agree G K) (hlen:tm.length=52) (h2:tm.getD 2 uA=vm) (h4:tm.getD 4 uA=.ptr q 0) (h31:tm.getD 31 uA=vp) (h32:tm.getD 32 uA=I c.params.length) (h33:tm.getD 33 uA=I ((0:Nat):Int)) :
   ∃ X Y K1 K2,Z=br (allF (fun j=>topP c x.args (m.length:Int) j) (c.params.length) (0)) (some (.exit 2,(X,K1))) (some (.ret,(Y,K2)))/\(X.length=52/\Agree G K1/\X.getD 2 uA=vm/\X.getD 4 uA=.ptr q 0/\X.getD 31 uA=vp/\X.getD 32 uA=I c.params.length)/\Y.length=52/\Y.getD 6 uA=.bool false:=by
 subst hX
 exact fitt_l h ha hi32 hnp hq hm hN (c.params.length) 0 tm K (by omega) (by omega) hA hlen h2 h4 h31 h32 h33
theorem ev91 {H:AH} {c:Cod} {vp vs vi va:AV} {x:Itm} {nm:ByteArray} (h:CodR H c vp vs vi) (ha:SlS 32 1 H va (x.args.map row1)) (hi32:∀ a∈x.args,i32R a) {m:List (List Int)} {vm:AV} (hm:MemR H m vm):Ev Tryz.prog C0 W0 91 [.agg (rowC c vp vs vi),.agg (rowL nm x va),vm] H=some (.bool (fitsL c nm x m),H):=by
 obtain ⟨tm,ht,g0,g1,g2,g3⟩:=tm3 (.agg (rowC c vp vs vi)) (.agg (rowL nm x va)) vm 52 (by decide)
 rw [fe91,ht]
 rw [<-List.append_nil (ro H)]
 unfold fitsL
 have hlp:=h.ro.lp
 have hlm:=hm.ro.len
 have h108:=fun L=>ev108 (nm:=nm) (h.ro.agree (Agree.app (ro H) L)) (ha.ro.same (Agree.app (ro H) L)) hi32
 simp only [rowC,rowL] at h108
 cases h0:fits6 c nm x with
 | false=>simp (maxSteps:=4000000) -implicitDefEqProofs only [c91,Tryz.f91,aP,g0,g1,g2,g3,hlp,hlm,↓fc108,h108,ld126,rowL,r5,↓evLd,h0,↓evDn,evUp,eu,sevalprocAttr]
 | true =>
   cases h1:ltB 6 (m.length:Int) with
   | true=>simp (maxSteps:=4000000) -implicitDefEqProofs only [c91,Tryz.f91,aP,g0,g1,g2,g3,hlp,hlm,↓fc108,h108,ld126,rowL,r5,↓evLd,h0,h1,↓evDn,evUp,eu,sevalprocAttr]
   | false =>
     have hnp:x.args.length=c.params.length:=by
       unfold fits6 sizesP at h0
       rw [Bool.and_eq_true,Bool.and_eq_true] at h0
       have:=h0.1.2
       rw [eqB_iff] at this; omega
     have hA0:=Agree.app (ro H) [AObj.cells (rowC c vp vs vi) 66,AObj.cells (rowL nm x va) 126]
     have hq:(ro H++[AObj.cells (rowC c vp vs vi) 66,AObj.cells (rowL nm x va) 126])[(ro H).length+1]? =some (.cells (rowL nm x va) 126):=by rw [List.getElem?_append_right (Nat.le_add_right _ _),Nat.add_sub_cancel_left]; rfl
     have hq1:(ro H++[AObj.cells (rowC c vp vs vi) 66,AObj.cells (rowL nm x va) 126])[(ro H).length]? =some (.cells (rowC c vp vs vi) 66):=by rw [List.getElem?_append_right (Nat.le_refl _),Nat.sub_self]; rfl
     simp (maxSteps:=4000000) -implicitDefEqProofs only [c91,Tryz.f91,aP,g0,g1,g2,g3,hlp,hlm,↓fc108,h108,ld126,rowL,r5,↓evLd,h0,h1,↓evDn,evUp,eu,sevalprocAttr]
     generalize hX:EvC Tryz.prog C0 W0 _ (Code.loop _) _=Z
     obtain ⟨X,Y,K1,K2,he,xs,y0,y1⟩:=fitm_l'  hX (hm.ro.agree hA0) (Nat.lt_trans hm.n (by decide)) (Agree.refl _) (by simp only [ls,g0,g3]) (by simp only [g0,g3,g3,gB,sevalprocAttr]; try rfl) (by simp only [g0,g3,gB,sevalprocAttr]; try rfl) (by simp only [g0,g3,gB,sevalprocAttr]; try rfl) (by simp only [g0,g3,g3,gB,sevalprocAttr]; try rfl) (by simp only [g0,g3,gB,sevalprocAttr]; try rfl) (by simp only [g0,g3,gB,sevalprocAttr]; try rfl)
     subst he
     unfold shortP
     cases hf:allF (fun j=>!ltB 256 ((bufOf m j).length:Int)) m.length 0 with
     | false=>simp (maxSteps:=4000000) -implicitDefEqProofs only [y0,y1,hf,↓evDn,evUp,eu,sevalprocAttr]
     | true =>
       obtain ⟨x0,xA,x2,x3,x4,x5⟩:=xs
       have hbq1:∀ k n,rdCells K1 (ro H).length k n=if k+n<=(rowC c vp vs vi).length then some (((rowC c vp vs vi).drop k).take n) else none:=fun k n=>by have:=obj_rd (xA.get hq1) [] k n; rwa [List.append_nil] at this
       simp (maxSteps:=4000000) -implicitDefEqProofs only [aP,hf,x0,x2,x3,x4,hbq1,hlp,r5,↓evLd,↓evDn,evUp,eu,sevalprocAttr]
       generalize hX:EvC Tryz.prog C0 W0 _ (Code.loop _) _=Z
       obtain ⟨X2,Y2,K3,K4,he,xs,z0,z1⟩:=fitt_l'  hX (h.ro.agree hA0) (ha.ro.same hA0) hi32 hnp hq (hm.ro.agree hA0) (Nat.lt_trans h.np (by decide)) (xA) (by simp only [ls,x0]) (by simp only [x0,x2,gB,sevalprocAttr]; try rfl) (by simp only [x0,x4,gB,sevalprocAttr]; try rfl) (by simp only [x0,gB,sevalprocAttr]; try rfl) (by simp only [x0,gB,sevalprocAttr]; try rfl) (by simp only [x0,gB,sevalprocAttr]; try rfl)
       subst he
       cases hf2:allF (fun j=>topP c x.args (m.length:Int) j) c.params.length 0 <;> simp (maxSteps:=4000000) -implicitDefEqProofs only [xs.1,z0,z1,hf2,↓evDn,evUp,eu,sevalprocAttr]
theorem rfit_l {G:AH} {c:Cod} {vp vs vi va:AV} {x:Itm} {nm:ByteArray} {q:Nat} {q1:Nat} {n:Int} (h:CodR G c vp vs vi) (ha:SlS 32 1 G va (x.args.map row1)) (hi32:∀ a∈x.args,i32R a) (hnp:x.args.length=c.params.length) (hq:G[q]? =some (.cells (rowL nm x va) 126)) (hq1:G[q1]? =some (.cells (rowC c vp vs vi) 66)) (hN:c.params.length < 2 ^ 60):∀ (d j:Nat) (tm:List AV) (K:AH),c.params.length - j=d->j<=c.params.length->Agree G K->tm.length=73->tm.getD 2 uA=I n->tm.getD 3 uA=.ptr q1 0->tm.getD 4 uA=.ptr q 0->tm.getD 7 uA=I ((j:Nat):Int) ->
   ∃ X Y K1 K2,EvC Tryz.prog C0 W0 plN l101_0 (tm,K)=br (allF (fun j=>argP c x.args n j) (c.params.length) (j)) (some (.exit 0,(X,K1))) (some (.ret,(Y,K2)))/\(X.length=73/\Agree G K1/\X.getD 2 uA=I n/\X.getD 3 uA=.ptr q1 0/\X.getD 4 uA=.ptr q 0)/\Y.length=73/\Y.getD 6 uA=.bool false:=by
 intro d
 induction d with
 | zero =>
   intro j tm K hd hj hA hlen h2 h3 h4 h7
   have hjl:j=c.params.length:=by omega
   subst hjl
   have hlt:ltB (((c.params.length:Nat)):Int) (c.params.length:Nat)=false:=ltB_f (by omega)
   have hbq1:∀ L k n,rdCells (K++L) q1 k n=if k+n<=(rowC c vp vs vi).length then some (((rowC c vp vs vi).drop k).take n) else none:=fun L k n=>obj_rd (hA.get hq1) L k n
   have hbq0:∀ k n,rdCells K q1 k n=if k+n<=(rowC c vp vs vi).length then some (((rowC c vp vs vi).drop k).take n) else none:=fun k n=>by have:=hbq1 [] k n; rwa [List.append_nil] at this
   have hlp:=h.lp
   rw [allF_end (Nat.le_refl _),el101_0]
   simp (maxSteps:=4000000) -implicitDefEqProofs only [b101_0,Tryz.f101,aP,hlen,h2,h3,h4,h7,hlt,hbq0,hlp,r5,↓evLd,↓evDn,evUp,eu,sevalprocAttr]
   exact ⟨_,tm.set 6 (.bool false),_,K,rfl,⟨by first | exact hlen | simp only [List.length_set,hlen],hA,by first | exact h2 | simp only [hlen,h2,gB,sevalprocAttr],by first | exact h3 | simp only [hlen,h3,gB,sevalprocAttr],by first | exact h4 | simp only [hlen,h4,gB,sevalprocAttr]⟩,by simp only [ls,hlen],by simp only [hlen,gs_self,Nat.reduceLT]⟩
 | succ d ih =>
   intro j tm K hd hj hA hlen h2 h3 h4 h7
   have hjN:j < c.params.length:=by omega
   have hlt:ltB (j:Int) (c.params.length:Nat)=true:=ltB_t (by omega)
   have hw:=inc_i (j:=j) (by omega)
   obtain ⟨i,k,pn,hix,hrd1,hrd2⟩:=prb_at h hA hjN
   obtain ⟨i2,k2,hix2,hra⟩:=arg_at ha hA (j:=j) (by omega)
   have hai:=arg_i32 hi32 (j:=j) (by omega)
   have hwa:IntKind.i64.wrap (argAt x.args j)=argAt x.args j:=by obtain ⟨a0,a1⟩:=hai; exact wr_i (by omega)
   have hbq:∀ L k n,rdCells (K++L) q k n=if k+n<=(rowL nm x va).length then some (((rowL nm x va).drop k).take n) else none:=fun L k n=>obj_rd (hA.get hq) L k n
   have hbq1:∀ L k n,rdCells (K++L) q1 k n=if k+n<=(rowC c vp vs vi).length then some (((rowC c vp vs vi).drop k).take n) else none:=fun L k n=>obj_rd (hA.get hq1) L k n
   have hbq0:∀ k n,rdCells K q1 k n=if k+n<=(rowC c vp vs vi).length then some (((rowC c vp vs vi).drop k).take n) else none:=fun k n=>by have:=hbq1 [] k n; rwa [List.append_nil] at this
   have hlp:=h.lp
   rw [allF_step hjN,el101_0]
   rw [<-List.append_nil K]
   cases hp:(argP c x.args n j) with
   | true =>
     simp only [Bool.true_and]
     unfold argP at hp
     cases hb:bufAt c (j:Int) with
     | false =>
       simp (maxSteps:=4000000) -implicitDefEqProofs only [b101_0,Tryz.f101,aP,hlen,h2,h3,h4,h7,hlt,hw,hix,hrd1,hix2,hra,hwa,hbq,hbq1,hlp,fa126_0,fa126_1,fa126_2,fa126_3,rowL,r5,↓evLd,hb,↓evDn,evUp,eu,sevalprocAttr]
       exact ih (j+1) _ _ (by omega) (by omega) (by first | exact hA | exact hA.appR _ | exact (hA.appR _).appR _) (by simp only [ls,hlen]) (by simp only [hlen,h2,gB,sevalprocAttr]) (by simp only [hlen,h3,gB,sevalprocAttr]) (by simp only [hlen,h4,gB,sevalprocAttr]) (by simp only [hlen,h7,gB,sevalprocAttr])
     | true =>
       rw [hb,Bool.true_and,Bool.not_eq_true',Bool.or_eq_false_iff] at hp
       obtain ⟨hp1,hp2⟩:=hp
       simp (maxSteps:=4000000) -implicitDefEqProofs only [b101_0,Tryz.f101,aP,hlen,h2,h3,h4,h7,hlt,hw,hix,hrd1,hix2,hra,hwa,hbq,hbq1,hlp,fa126_0,fa126_1,fa126_2,fa126_3,rowL,r5,↓evLd,hb,hp1,hp2,↓evDn,evUp,eu,sevalprocAttr]
       exact ih (j+1) _ _ (by omega) (by omega) (by first | exact hA | exact hA.appR _ | exact (hA.appR _).appR _) (by simp only [ls,hlen]) (by simp only [hlen,h2,gB,sevalprocAttr]) (by simp only [hlen,h3,gB,sevalprocAttr]) (by simp only [hlen,h4,gB,sevalprocAttr]) (by simp only [hlen,h7,gB,sevalprocAttr])
   | false =>
     simp only [Bool.false_and]
     unfold argP at hp
     rw [Bool.not_eq_false',Bool.and_eq_true,Bool.or_eq_true] at hp
     obtain ⟨hb,hp⟩:=hp
     cases hp1:ltB (argAt x.args j) 0 with
     | true =>
       simp (maxSteps:=4000000) -implicitDefEqProofs only [b101_0,Tryz.f101,aP,hlen,h2,h3,h4,h7,hlt,hw,hix,hrd1,hix2,hra,hwa,hbq,hbq1,hlp,fa126_0,fa126_1,fa126_2,fa126_3,rowL,r5,↓evLd,hb,hp1,↓evDn,evUp,eu,sevalprocAttr]
       exact ⟨tm,_,K,_,rfl,⟨hlen,hA,h2,h3,h4⟩,by simp only [ls,hlen],by simp only [hlen,gB,sevalprocAttr]⟩
     | false =>
       rw [hp1] at hp
       have hp2:leB n (argAt x.args j)=true:=by simpa using hp
       simp (maxSteps:=4000000) -implicitDefEqProofs only [b101_0,Tryz.f101,aP,hlen,h2,h3,h4,h7,hlt,hw,hix,hrd1,hix2,hra,hwa,hbq,hbq1,hlp,fa126_0,fa126_1,fa126_2,fa126_3,rowL,r5,↓evLd,hb,hp1,hp2,↓evDn,evUp,eu,sevalprocAttr]
       exact ⟨tm,_,K,_,rfl,⟨hlen,hA,h2,h3,h4⟩,by simp only [ls,hlen],by simp only [hlen,gB,sevalprocAttr]⟩
theorem rfit_l' {G:AH} {c:Cod} {vp vs vi va:AV} {x:Itm} {nm:ByteArray} {q:Nat} {q1:Nat} {n:Int} {tm:List AV} {K:AH} {Z:Option (AExit × St)} (hX:EvC Tryz.prog C0 W0 plN l101_0 (tm,K)=Z) (h:CodR G c vp vs vi) (ha:SlS 32 1 G va (x.args.map row1)) (hi32:∀ a∈x.args,i32R a) (hnp:x.args.length=c.params.length) (hq:G[q]? =some (.cells (rowL nm x va) 126)) (hq1:G[q1]? =some (.cells (rowC c vp vs vi) 66)) (hN:c.params.length < 2 ^ 60) (hA:Agree G K) (hlen:tm.length=73) (h2:tm.getD 2 uA=I n) (h3:tm.getD 3 uA=.ptr q1 0) (h4:tm.getD 4 uA=.ptr q 0) (h7:tm.getD 7 uA=I ((0:Nat):Int)) :
   ∃ X Y K1 K2,Z=br (allF (fun j=>argP c x.args n j) (c.params.length) (0)) (some (.exit 0,(X,K1))) (some (.ret,(Y,K2)))/\(X.length=73/\Agree G K1/\X.getD 2 uA=I n/\X.getD 3 uA=.ptr q1 0/\X.getD 4 uA=.ptr q 0)/\Y.length=73/\Y.getD 6 uA=.bool false:=by
 subst hX
 exact rfit_l h ha hi32 hnp hq hq1 hN (c.params.length) 0 tm K (by omega) (by omega) hA hlen h2 h3 h4 h7
theorem ev101 {H:AH} {c:Cod} {vp vs vi va:AV} {x:Itm} {nm:ByteArray} (h:CodR H c vp vs vi) (ha:SlS 32 1 H va (x.args.map row1)) (hi32:∀ a∈x.args,i32R a) (n:Int):Ev Tryz.prog C0 W0 101 [.agg (rowC c vp vs vi),.agg (rowL nm x va),I n] H=some (.bool (fitsN c nm x n),H):=by
 obtain ⟨tm,ht,g0,g1,g2,g3⟩:=tm3 (.agg (rowC c vp vs vi)) (.agg (rowL nm x va)) (I n) 73 (by decide)
 rw [fe101,ht]
 rw [<-List.append_nil (ro H)]
 have hre:fitsN c nm x n=(sEq nm c.name && eqB (x.args.length:Int) (c.params.length:Int) && !ltB x.grid 1 && !ltB 8 x.grid && !ltB x.block 1 && !ltB 32 x.block && allF (fun j=>argP c x.args n j) c.params.length 0):=by
   unfold fitsN sizesP
   ac_rfl
 rw [hre]
 have hlp:=h.ro.lp
 have hla:=sl32 ha.ro
 cases h0:sEq nm c.name with
 | false=>simp (maxSteps:=4000000) -implicitDefEqProofs only [c101,Tryz.f101,aP,g0,g1,g2,g3,rowL,hlp,hla,ld126,fa126_0,fa126_1,fa126_2,fa126_3,rowL,r5,↓evLd,h0,↓evDn,evUp,eu,sevalprocAttr]
 | true =>
   cases h1:eqB (x.args.length:Int) (c.params.length:Int) with
   | false=>simp (maxSteps:=4000000) -implicitDefEqProofs only [c101,Tryz.f101,aP,g0,g1,g2,g3,rowL,hlp,hla,ld126,fa126_0,fa126_1,fa126_2,fa126_3,rowL,r5,↓evLd,h0,h1,↓evDn,evUp,eu,sevalprocAttr]
   | true =>
     cases h2:ltB x.grid 1 with
     | true=>simp (maxSteps:=4000000) -implicitDefEqProofs only [c101,Tryz.f101,aP,g0,g1,g2,g3,rowL,hlp,hla,ld126,fa126_0,fa126_1,fa126_2,fa126_3,rowL,r5,↓evLd,h0,h1,h2,↓evDn,evUp,eu,sevalprocAttr]
     | false =>
       cases h3:ltB 8 x.grid with
       | true=>simp (maxSteps:=4000000) -implicitDefEqProofs only [c101,Tryz.f101,aP,g0,g1,g2,g3,rowL,hlp,hla,ld126,fa126_0,fa126_1,fa126_2,fa126_3,rowL,r5,↓evLd,h0,h1,h2,h3,↓evDn,evUp,eu,sevalprocAttr]
       | false =>
         cases h4:ltB x.block 1 with
         | true=>simp (maxSteps:=4000000) -implicitDefEqProofs only [c101,Tryz.f101,aP,g0,g1,g2,g3,rowL,hlp,hla,ld126,fa126_0,fa126_1,fa126_2,fa126_3,rowL,r5,↓evLd,h0,h1,h2,h3,h4,↓evDn,evUp,eu,sevalprocAttr]
         | false =>
           cases h5:ltB 32 x.block with
           | true=>simp (maxSteps:=4000000) -implicitDefEqProofs only [c101,Tryz.f101,aP,g0,g1,g2,g3,rowL,hlp,hla,ld126,fa126_0,fa126_1,fa126_2,fa126_3,rowL,r5,↓evLd,h0,h1,h2,h3,h4,h5,↓evDn,evUp,eu,sevalprocAttr]
           | false =>
             have hnp:x.args.length=c.params.length:=by rw [eqB_iff] at h1; omega
             have hA0:=Agree.app (ro H) [AObj.cells (rowC c vp vs vi) 66,AObj.cells (rowL nm x va) 126]
             have hq:(ro H++[AObj.cells (rowC c vp vs vi) 66,AObj.cells (rowL nm x va) 126])[(ro H).length+1]? =some (.cells (rowL nm x va) 126):=by rw [List.getElem?_append_right (Nat.le_add_right _ _),Nat.add_sub_cancel_left]; rfl
             have hq1:(ro H++[AObj.cells (rowC c vp vs vi) 66,AObj.cells (rowL nm x va) 126])[(ro H).length]? =some (.cells (rowC c vp vs vi) 66):=by rw [List.getElem?_append_right (Nat.le_refl _),Nat.sub_self]; rfl
             simp (maxSteps:=4000000) -implicitDefEqProofs only [c101,Tryz.f101,aP,g0,g1,g2,g3,rowL,hlp,hla,ld126,fa126_0,fa126_1,fa126_2,fa126_3,rowL,r5,↓evLd,h0,h1,h2,h3,h4,h5,↓evDn,evUp,eu,sevalprocAttr]
             generalize hX:EvC Tryz.prog C0 W0 _ (Code.loop _) _=Z
             obtain ⟨X,Y,K1,K2,he,xs,y0,y1⟩:=rfit_l'  hX (h.ro.agree hA0) (ha.ro.same hA0) hi32 hnp hq hq1 (Nat.lt_trans h.np (by decide)) (Agree.refl _) (by simp only [ls,g0,g3]) (by simp only [g0,g3,g3,gB,sevalprocAttr]; try rfl) (by simp only [g0,g3,gB,sevalprocAttr]; try rfl) (by simp only [g0,g3,gB,sevalprocAttr]; try rfl) (by simp only [g0,g3,gB,sevalprocAttr]; try rfl)
             subst he
             cases hf:allF (fun j=>argP c x.args n j) c.params.length 0 <;> simp (maxSteps:=4000000) -implicitDefEqProofs only [xs.1,y0,y1,hf,↓evDn,evUp,eu,sevalprocAttr]
theorem rfitm_l {H:AH} {m:List (List Int)} {v:AV} {q1 q2:Nat} (h:MemR H m v) (hN:m.length < 2 ^ 60):∀ (d j:Nat) (tm:List AV) (K:AH),m.length - j=d->j<=m.length->Agree H K->tm.length=30->tm.getD 2 uA=v->tm.getD 3 uA=.ptr q1 0->tm.getD 4 uA=.ptr q2 0->tm.getD 7 uA=I ((j:Nat):Int) ->
   ∃ X Y K1 K2,EvC Tryz.prog C0 W0 plN l69_0 (tm,K)=br (allF (fun j=>!ltB 256 ((bufOf m j).length:Int)) (m.length) (j)) (some (.exit 0,(X,K1))) (some (.ret,(Y,K2)))/\(X.length=30/\Agree H K1/\X.getD 2 uA=v/\X.getD 3 uA=.ptr q1 0/\X.getD 4 uA=.ptr q2 0)/\Y.length=30/\Y.getD 6 uA=.bool false:=by
 intro d
 induction d with
 | zero =>
   intro j tm K hd hj hA hlen h2 h3 h4 h7
   have hjl:j=m.length:=by omega
   subst hjl
   have hlt:ltB (((m.length:Nat)):Int) (m.length:Nat)=false:=ltB_f (by omega)
   have hlm:=h.len
   rw [allF_end (Nat.le_refl _),el69_0]
   simp (maxSteps:=4000000) -implicitDefEqProofs only [b69_0,Tryz.f69,aP,hlen,h2,h3,h4,h7,hlt,hlm,r5,↓evLd,↓evDn,evUp,eu,sevalprocAttr]
   exact ⟨_,tm.set 6 (.bool false),_,K,rfl,⟨by first | exact hlen | simp only [List.length_set,hlen],hA,by first | exact h2 | simp only [hlen,h2,gB,sevalprocAttr],by first | exact h3 | simp only [hlen,h3,gB,sevalprocAttr],by first | exact h4 | simp only [hlen,h4,gB,sevalprocAttr]⟩,by simp only [ls,hlen],by simp only [hlen,gs_self,Nat.reduceLT]⟩
 | succ d ih =>
   intro j tm K hd hj hA hlen h2 h3 h4 h7
   have hjN:j < m.length:=by omega
   have hlt:ltB (j:Int) (m.length:Nat)=true:=ltB_t (by omega)
   have hw:=inc_i (j:=j) (by omega)
   have hlm:=h.len
   obtain ⟨i,k,w,hix,hrd,hw32⟩:=h.at hA hjN
   have hl32:=sl32 hw32
   rw [allF_step hjN,el69_0]
   rw [<-List.append_nil K]
   cases hp:(!ltB 256 ((bufOf m j).length:Int)) with
   | true =>
     simp only [Bool.true_and]
     rw [Bool.not_eq_true'] at hp
     simp (maxSteps:=4000000) -implicitDefEqProofs only [b69_0,Tryz.f69,aP,hlen,h2,h3,h4,h7,hlt,hw,hix,hrd,hl32,hlm,hp,r5,↓evLd,↓evDn,evUp,eu,sevalprocAttr]
     exact ih (j+1) _ _ (by omega) (by omega) (by first | exact hA | exact hA.appR _ | exact (hA.appR _).appR _) (by simp only [ls,hlen]) (by simp only [hlen,h2,gB,sevalprocAttr]) (by simp only [hlen,h3,gB,sevalprocAttr]) (by simp only [hlen,h4,gB,sevalprocAttr]) (by simp only [hlen,h7,gB,sevalprocAttr])
   | false =>
     simp only [Bool.false_and]
     rw [Bool.not_eq_false'] at hp
     simp (maxSteps:=4000000) -implicitDefEqProofs only [b69_0,Tryz.f69,aP,hlen,h2,h3,h4,h7,hlt,hw,hix,hrd,hl32,hlm,hp,r5,↓evLd,↓evDn,evUp,eu,sevalprocAttr]
     exact ⟨tm,_,K,_,rfl,⟨hlen,hA,h2,h3,h4⟩,by simp only [ls,hlen],by simp only [hlen,gB,sevalprocAttr]⟩
theorem rfitm_l' {H:AH} {m:List (List Int)} {v:AV} {q1 q2:Nat} {tm:List AV} {K:AH} {Z:Option (AExit × St)} (hX:EvC Tryz.prog C0 W0 plN l69_0 (tm,K)=Z) (h:MemR H m v) (hN:m.length < 2 ^ 60) (hA:Agree H K) (hlen:tm.length=30) (h2:tm.getD 2 uA=v) (h3:tm.getD 3 uA=.ptr q1 0) (h4:tm.getD 4 uA=.ptr q2 0) (h7:tm.getD 7 uA=I ((0:Nat):Int)) :
   ∃ X Y K1 K2,Z=br (allF (fun j=>!ltB 256 ((bufOf m j).length:Int)) (m.length) (0)) (some (.exit 0,(X,K1))) (some (.ret,(Y,K2)))/\(X.length=30/\Agree H K1/\X.getD 2 uA=v/\X.getD 3 uA=.ptr q1 0/\X.getD 4 uA=.ptr q2 0)/\Y.length=30/\Y.getD 6 uA=.bool false:=by
 subst hX
 exact rfitm_l h hN (m.length) 0 tm K (by omega) (by omega) hA hlen h2 h3 h4 h7
theorem ev69 {H:AH} {c:Cod} {vp vs vi va:AV} {x:Itm} {nm:ByteArray} (h:CodR H c vp vs vi) (ha:SlS 32 1 H va (x.args.map row1)) (hi32:∀ a∈x.args,i32R a) {m:List (List Int)} {vm:AV} (hm:MemR H m vm):Ev Tryz.prog C0 W0 69 [.agg (rowC c vp vs vi),.agg (rowL nm x va),vm] H=some (.bool (fitsL c nm x m),H):=by
 rw [fits_eq]
 obtain ⟨tm,ht,g0,g1,g2,g3⟩:=tm3 (.agg (rowC c vp vs vi)) (.agg (rowL nm x va)) vm 30 (by decide)
 rw [fe69,ht]
 rw [<-List.append_nil (ro H)]
 unfold fitsM shortP
 have hlm:=hm.ro.len
 have hA0:=Agree.app (ro H) [AObj.cells (rowC c vp vs vi) 66,AObj.cells (rowL nm x va) 126]
 have hq:(ro H++[AObj.cells (rowC c vp vs vi) 66,AObj.cells (rowL nm x va) 126])[(ro H).length+1]? =some (.cells (rowL nm x va) 126):=by rw [List.getElem?_append_right (Nat.le_add_right _ _),Nat.add_sub_cancel_left]; rfl
 have hq1:(ro H++[AObj.cells (rowC c vp vs vi) 66,AObj.cells (rowL nm x va) 126])[(ro H).length]? =some (.cells (rowC c vp vs vi) 66):=by rw [List.getElem?_append_right (Nat.le_refl _),Nat.sub_self]; rfl
 simp (maxSteps:=4000000) -implicitDefEqProofs only [c69,Tryz.f69,aP,g0,g1,g2,g3,hlm,↓fc101,ld126,rowL,r5,↓evLd,↓evDn,evUp,eu,sevalprocAttr]
 generalize hX:EvC Tryz.prog C0 W0 _ (Code.loop _) _=Z
 obtain ⟨X,Y,K1,K2,he,xs,y0,y1⟩:=rfitm_l'  hX (hm.ro.agree hA0) (Nat.lt_trans hm.n (by decide)) (Agree.refl _) (by simp only [ls,g0,g3]) (by simp only [g0,g3,g3,gB,sevalprocAttr]; try rfl) (by simp only [g0,g3,gB,sevalprocAttr]; try rfl) (by simp only [g0,g3,gB,sevalprocAttr]; try rfl) (by simp only [g0,g3,gB,sevalprocAttr]; try rfl)
 subst he
 cases hf:allF (fun j=>!ltB 256 ((bufOf m j).length:Int)) m.length 0 with
 | false=>simp (maxSteps:=4000000) -implicitDefEqProofs only [y0,y1,hf,↓evDn,evUp,eu,sevalprocAttr]
 | true =>
   obtain ⟨x0,xA,x2,x3,x4⟩:=xs
   have hbq1:∀ k n,rdCells K1 (ro H).length k n=if k+n<=(rowC c vp vs vi).length then some (((rowC c vp vs vi).drop k).take n) else none:=fun k n=>by have:=obj_rd (xA.get hq1) [] k n; rwa [List.append_nil] at this
   have hbq2:∀ k n,rdCells K1 ((ro H).length+1) k n=if k+n<=(rowL nm x va).length then some (((rowL nm x va).drop k).take n) else none:=fun k n=>by have:=obj_rd (xA.get hq) [] k n; rwa [List.append_nil] at this
   have h101:=ev101 (nm:=nm) ((h.ro.agree hA0).agree xA) ((ha.ro.same hA0).same xA) hi32 (m.length:Int)
   simp only [rowC,rowL] at h101
   cases h6:leB (m.length:Int) 6 <;> simp (maxSteps:=4000000) -implicitDefEqProofs only [aP,hf,h6,x0,x2,x3,x4,hbq1,hbq2,hlm,↓fc101,h101,ld126,rowL,r5,↓evLd,↓evDn,evUp,eu,sevalprocAttr]
theorem z34':zeroA Tryz.prog 34=some (.agg [I 0,I 0,I 0,I 0,I 0,I 0,I 0,.nilSlice,.int .i32 0]):=by kernel_rfl
theorem reg62_12 {tm:List AV} {G:AH} (hlen:tm.length=181) (h5:tm.getD 5 uA=.ptr (G.length+1) 0) (h8:tm.getD 8 uA=.ptr (G.length+2) 0) (vm va:AV) (k c g b s d e w:Int) :
   ∃ tm',EvC Tryz.prog C0 W0 pl62 (atPath [true,true,true,true,false,true,false,true,true,true,true,true,false,false] c62) (tm,G++[.cells [vm] 24,.cells [I k,I c,I g,I b,I s,I d,I e,va,.int .i32 w] 34,.cells [I k,I 0,I 0,I 0,I 0,I 0,I 0,.nilSlice,.int .i32 0] 34])=some (.normal,(tm',G++[.cells [vm] 24,.cells [I k,I c,I g,I b,I s,I d,I e,va,.int .i32 w] 34,.cells [I k,I 0,I 0,I 0,I 0,I d,I 0,.nilSlice,.int .i32 w] 34]))/\tm'.length=181/\tm'.getD 0 uA=tm.getD 0 uA/\tm'.getD 1 uA=tm.getD 1 uA/\tm'.getD 4 uA=tm.getD 4 uA/\tm'.getD 5 uA=tm.getD 5 uA/\tm'.getD 7 uA=tm.getD 7 uA/\tm'.getD 8 uA=tm.getD 8 uA/\tm'.getD 9 uA=tm.getD 9 uA:=by
 simp (maxSteps:=4000000) -implicitDefEqProofs only [c62,Tryz.f62,aP,hlen,h5,h8,↓EvC_plan plr62_12,p62_12,List.any_toArray,List.any_cons,List.any_nil,allocates,st3,st21,r5,↓evLd,↓evDn,evUp,eu,sevalprocAttr,↓rp_done,↓rp_take,↓rp_rd,↓rp_all,↓rp_join,↓ra_nil,↓ra_first,↓ra_next,↓quietO_none,↓quietO_guardB,↓readO_none,↓q_move,↓q_assign,↓q_field,↓q_fieldAddr,↓q_indexAddr,↓q_nilCheck,↓q_pickB,↓q_extract,put_slot,put_slot_app,List.length_append,Nat.add_assoc,stBeq_self,set_order,keepV_eq]
 exact ⟨_,rfl,by simp only [ls,hlen],by simp only [hlen,h5,h8,gB,and_self,sevalprocAttr]⟩
theorem reg62_9 {tm:List AV} {G:AH} (hlen:tm.length=181) (h5:tm.getD 5 uA=.ptr (G.length+1) 0) (h8:tm.getD 8 uA=.ptr (G.length+2) 0) (vm va:AV) (k c g b s d e w:Int) :
   ∃ tm',EvC Tryz.prog C0 W0 pl62 (atPath [true,true,true,true,false,true,false,true,true,true,false,false] c62) (tm,G++[.cells [vm] 24,.cells [I k,I c,I g,I b,I s,I d,I e,va,.int .i32 w] 34,.cells [I k,I 0,I 0,I 0,I 0,I 0,I 0,.nilSlice,.int .i32 0] 34])=some (.normal,(tm',G++[.cells [vm] 24,.cells [I k,I c,I g,I b,I s,I d,I e,va,.int .i32 w] 34,.cells [I k,I 0,I 0,I 0,I s,I d,I 0,.nilSlice,.int .i32 0] 34]))/\tm'.length=181/\tm'.getD 0 uA=tm.getD 0 uA/\tm'.getD 1 uA=tm.getD 1 uA/\tm'.getD 4 uA=tm.getD 4 uA/\tm'.getD 5 uA=tm.getD 5 uA/\tm'.getD 7 uA=tm.getD 7 uA/\tm'.getD 8 uA=tm.getD 8 uA/\tm'.getD 9 uA=tm.getD 9 uA:=by
 simp (maxSteps:=4000000) -implicitDefEqProofs only [c62,Tryz.f62,aP,hlen,h5,h8,↓EvC_plan plr62_9,p62_9,List.any_toArray,List.any_cons,List.any_nil,allocates,st3,st21,r5,↓evLd,↓evDn,evUp,eu,sevalprocAttr,↓rp_done,↓rp_take,↓rp_rd,↓rp_all,↓rp_join,↓ra_nil,↓ra_first,↓ra_next,↓quietO_none,↓quietO_guardB,↓readO_none,↓q_move,↓q_assign,↓q_field,↓q_fieldAddr,↓q_indexAddr,↓q_nilCheck,↓q_pickB,↓q_extract,put_slot,put_slot_app,List.length_append,Nat.add_assoc,stBeq_self,set_order,keepV_eq]
 exact ⟨_,rfl,by simp only [ls,hlen],by simp only [hlen,h5,h8,gB,and_self,sevalprocAttr]⟩
theorem reg62_6 {tm:List AV} {G:AH} (hlen:tm.length=181) (h5:tm.getD 5 uA=.ptr (G.length+1) 0) (h8:tm.getD 8 uA=.ptr (G.length+2) 0) (vm va:AV) (k c g b s d e w:Int) :
   ∃ tm',EvC Tryz.prog C0 W0 pl62 (atPath [true,true,true,true,false,true,false,true,false,false] c62) (tm,G++[.cells [vm] 24,.cells [I k,I c,I g,I b,I s,I d,I e,va,.int .i32 w] 34,.cells [I k,I 0,I 0,I 0,I 0,I 0,I 0,.nilSlice,.int .i32 0] 34])=some (.normal,(tm',G++[.cells [vm] 24,.cells [I k,I c,I g,I b,I s,I d,I e,va,.int .i32 w] 34,.cells [I k,I c,I g,I b,I 0,I 0,I 0,.nilSlice,.int .i32 0] 34]))/\tm'.length=181/\tm'.getD 0 uA=tm.getD 0 uA/\tm'.getD 1 uA=tm.getD 1 uA/\tm'.getD 4 uA=tm.getD 4 uA/\tm'.getD 5 uA=tm.getD 5 uA/\tm'.getD 7 uA=tm.getD 7 uA/\tm'.getD 8 uA=tm.getD 8 uA/\tm'.getD 9 uA=tm.getD 9 uA:=by
 simp (maxSteps:=4000000) -implicitDefEqProofs only [c62,Tryz.f62,aP,hlen,h5,h8,↓EvC_plan plr62_6,p62_6,List.any_toArray,List.any_cons,List.any_nil,allocates,st3,st21,r5,↓evLd,↓evDn,evUp,eu,sevalprocAttr,↓rp_done,↓rp_take,↓rp_rd,↓rp_all,↓rp_join,↓ra_nil,↓ra_first,↓ra_next,↓quietO_none,↓quietO_guardB,↓readO_none,↓q_move,↓q_assign,↓q_field,↓q_fieldAddr,↓q_indexAddr,↓q_nilCheck,↓q_pickB,↓q_extract,put_slot,put_slot_app,List.length_append,Nat.add_assoc,stBeq_self,set_order,keepV_eq]
 exact ⟨_,rfl,by simp only [ls,hlen],by simp only [hlen,h5,h8,gB,and_self,sevalprocAttr]⟩
theorem reg62_12' {tm:List AV} {G:AH} {vm va:AV} {k c g b s d e w:Int} {R:Option (AExit × St)} (hR:EvC Tryz.prog C0 W0 pl62 (atPath [true,true,true,true,false,true,false,true,true,true,true,true,false,false] c62) (tm,G++[.cells [vm] 24,.cells [I k,I c,I g,I b,I s,I d,I e,va,.int .i32 w] 34,.cells [I k,I 0,I 0,I 0,I 0,I 0,I 0,.nilSlice,.int .i32 0] 34])=R) (hlen:tm.length=181) (h5:tm.getD 5 uA=.ptr (G.length+1) 0) (h8:tm.getD 8 uA=.ptr (G.length+2) 0) :
   ∃ tm',R=some (.normal,(tm',G++[.cells [vm] 24,.cells [I k,I c,I g,I b,I s,I d,I e,va,.int .i32 w] 34,.cells [I k,I 0,I 0,I 0,I 0,I d,I 0,.nilSlice,.int .i32 w] 34]))/\tm'.length=181/\tm'.getD 0 uA=tm.getD 0 uA/\tm'.getD 1 uA=tm.getD 1 uA/\tm'.getD 4 uA=tm.getD 4 uA/\tm'.getD 5 uA=tm.getD 5 uA/\tm'.getD 7 uA=tm.getD 7 uA/\tm'.getD 8 uA=tm.getD 8 uA/\tm'.getD 9 uA=tm.getD 9 uA:=by
 subst hR
 exact reg62_12 hlen h5 h8 vm va k c g b s d e w
theorem reg62_9' {tm:List AV} {G:AH} {vm va:AV} {k c g b s d e w:Int} {R:Option (AExit × St)} (hR:EvC Tryz.prog C0 W0 pl62 (atPath [true,true,true,true,false,true,false,true,true,true,false,false] c62) (tm,G++[.cells [vm] 24,.cells [I k,I c,I g,I b,I s,I d,I e,va,.int .i32 w] 34,.cells [I k,I 0,I 0,I 0,I 0,I 0,I 0,.nilSlice,.int .i32 0] 34])=R) (hlen:tm.length=181) (h5:tm.getD 5 uA=.ptr (G.length+1) 0) (h8:tm.getD 8 uA=.ptr (G.length+2) 0) :
   ∃ tm',R=some (.normal,(tm',G++[.cells [vm] 24,.cells [I k,I c,I g,I b,I s,I d,I e,va,.int .i32 w] 34,.cells [I k,I 0,I 0,I 0,I s,I d,I 0,.nilSlice,.int .i32 0] 34]))/\tm'.length=181/\tm'.getD 0 uA=tm.getD 0 uA/\tm'.getD 1 uA=tm.getD 1 uA/\tm'.getD 4 uA=tm.getD 4 uA/\tm'.getD 5 uA=tm.getD 5 uA/\tm'.getD 7 uA=tm.getD 7 uA/\tm'.getD 8 uA=tm.getD 8 uA/\tm'.getD 9 uA=tm.getD 9 uA:=by
 subst hR
 exact reg62_9 hlen h5 h8 vm va k c g b s d e w
theorem reg62_6' {tm:List AV} {G:AH} {vm va:AV} {k c g b s d e w:Int} {R:Option (AExit × St)} (hR:EvC Tryz.prog C0 W0 pl62 (atPath [true,true,true,true,false,true,false,true,false,false] c62) (tm,G++[.cells [vm] 24,.cells [I k,I c,I g,I b,I s,I d,I e,va,.int .i32 w] 34,.cells [I k,I 0,I 0,I 0,I 0,I 0,I 0,.nilSlice,.int .i32 0] 34])=R) (hlen:tm.length=181) (h5:tm.getD 5 uA=.ptr (G.length+1) 0) (h8:tm.getD 8 uA=.ptr (G.length+2) 0) :
   ∃ tm',R=some (.normal,(tm',G++[.cells [vm] 24,.cells [I k,I c,I g,I b,I s,I d,I e,va,.int .i32 w] 34,.cells [I k,I c,I g,I b,I 0,I 0,I 0,.nilSlice,.int .i32 0] 34]))/\tm'.length=181/\tm'.getD 0 uA=tm.getD 0 uA/\tm'.getD 1 uA=tm.getD 1 uA/\tm'.getD 4 uA=tm.getD 4 uA/\tm'.getD 5 uA=tm.getD 5 uA/\tm'.getD 7 uA=tm.getD 7 uA/\tm'.getD 8 uA=tm.getD 8 uA/\tm'.getD 9 uA=tm.getD 9 uA:=by
 subst hR
 exact reg62_6 hlen h5 h8 vm va k c g b s d e w
def inB (m:List (List Int)) (n:Int):Bool:=leB 0 n && ltB n (m.length:Int)
def lenB (m:List (List Int)) (n:Int):Int:=((bufOf m n.toNat).length:Int)
theorem eqB_self (a:Int):eqB a a=true:=by rw [eqB_iff]
theorem MemR.vc {H:AH} {m:List (List Int)} {v:AV} (h:MemR H m v):v.cells=[v]/\v.one=true:=by
 obtain ⟨⟨l,e,hs,hc⟩,n,_⟩:=h
 exact ⟨hs.cells,hs.one⟩
theorem bl34 (k:Int):buildA Tryz.prog 34 [(0,I k)]=some (.agg [I k,I 0,I 0,I 0,I 0,I 0,I 0,.nilSlice,.int .i32 0]):=by kernel_rfl
theorem ev90 {H:AH} {m:List (List Int)} {vm:AV} (hm:MemR H m vm) {i k:Nat} (hb:rdCells H i k 1=some [vm]) (n:Int):Ev Tryz.prog C0 W0 90 [I n,.ptr i k] H=some (.bool (inB m n),H):=by
 obtain ⟨tm,ht,g0,g1,g2⟩:=tm2 (I n) (.ptr i k) 12 (by decide)
 rw [fe90,ht]
 rw [<-List.append_nil (ro H)]
 have hb':∀ L,rdCells (ro H++L) i k 1=some [vm]:=fun L=>row_rd (ro_rd hb) (Agree.refl _) L
 have hlm:=hm.ro.len
 unfold inB
 cases h0:leB 0 n <;> simp (maxSteps:=4000000) -implicitDefEqProofs only [c90,Tryz.f90,aP,g0,g1,g2,hb',hlm,h0,r5,↓evLd,↓evDn,evUp,eu,sevalprocAttr]
theorem right_fill {H:AH} {m:List (List Int)} {vc vm:AV} (hm:MemR H m vm) {x:Itm} {va:AV} (ha:SlS 32 1 H va (x.args.map row1)) (hk:x.kind=2):Ev Tryz.prog C0 W0 62 [vc,vm,.agg (rowX x va)] H=some (.bool (inB m x.dst && eqB x.args.length 0 && eqB x.code 0 && eqB x.grid 0 && eqB x.block 0 && eqB x.src 0 && eqB x.ev 0),H):=by
 obtain ⟨tm,ht,g0,g1,g2,g3⟩:=tm3 vc vm (.agg (rowX x va)) 181 (by decide)
 rw [fe62,ht]
 rw [<-List.append_nil (ro H)]
 obtain ⟨kind,code,grid,block,src,dst,ev,args,word⟩:=x
 simp only at ha hk ⊢
 subst hk
 have hla:=sl32 ha.ro
 have hlm:=hm.ro.len
 obtain ⟨hvc,hvo⟩:=hm.vc
 have hac:=ha.cells
 have hao:=ha.one
 have h90:∀ L n,Ev Tryz.prog C0 W0 90 [I n,.ptr (ro H).length 0] (ro H++(AObj.cells [vm] 24::L))=some (.bool (inB m n),ro H++(AObj.cells [vm] 24::L)):=fun L n=>ev90 (hm.ro.agree (Agree.app _ _)) (by rw [rd_app0]; rfl) n
 have e0:eqB 2 0=false:=rfl
 have e1:eqB 2 1=false:=rfl
 have e2:eqB 2 2=true:=rfl
 simp (maxSteps:=4000000) -implicitDefEqProofs only [c62,Tryz.f62,aP,g0,g1,g2,g3,rowX,st3,st21,st32,↓hvc,↓hvo,↓hac,↓hao,bl34,z34',st34,hla,hlm,h90,eqB_self,plr62_7,plr62_10,↓callA_value,Tryz.func90,show Tryz.f90.body.isSome=true from rfl,↓fc65,↓fc91,r5,↓evLd,e0,e1,e2,↓evDn,evUp,eu,sevalprocAttr]
 generalize hR:EvC Tryz.prog C0 W0 _ (Code.region _ _ _) _=R
 obtain ⟨t,he,hlen,t0,t1,t4,t5,t7,t8,t9⟩:=reg62_12' hR (by simp only [ls,g0]) (by simp only [g0,gB,sevalprocAttr]) (by simp only [g0,gB,sevalprocAttr])
 subst he
 simp only [g0,g1,g2,g3,gB,sevalprocAttr] at t0 t1 t4 t5 t7 t8 t9
 cases h0:inB m dst with
 | false=>simp (maxSteps:=4000000) -implicitDefEqProofs only [aP,hlen,t0,t1,t4,t5,t7,t8,t9,rowX,st3,st21,st32,↓hvc,↓hvo,↓hac,↓hao,bl34,z34',st34,hla,hlm,h90,eqB_self,plr62_7,plr62_10,↓callA_value,Tryz.func90,show Tryz.f90.body.isSome=true from rfl,↓fc65,↓fc91,r5,↓evLd,h0,↓evDn,evUp,eu,sevalprocAttr]
 | true =>
   cases h1:eqB (args.length:Int) 0 with
   | false=>simp (maxSteps:=4000000) -implicitDefEqProofs only [aP,hlen,t0,t1,t4,t5,t7,t8,t9,rowX,st3,st21,st32,↓hvc,↓hvo,↓hac,↓hao,bl34,z34',st34,hla,hlm,h90,eqB_self,plr62_7,plr62_10,↓callA_value,Tryz.func90,show Tryz.f90.body.isSome=true from rfl,↓fc65,↓fc91,r5,↓evLd,h0,h1,↓evDn,evUp,eu,sevalprocAttr]
   | true =>
     cases h2:eqB code 0 with
     | false=>simp (maxSteps:=4000000) -implicitDefEqProofs only [aP,hlen,t0,t1,t4,t5,t7,t8,t9,rowX,st3,st21,st32,↓hvc,↓hvo,↓hac,↓hao,bl34,z34',st34,hla,hlm,h90,eqB_self,plr62_7,plr62_10,↓callA_value,Tryz.func90,show Tryz.f90.body.isSome=true from rfl,↓fc65,↓fc91,r5,↓evLd,h0,h1,h2,↓evDn,evUp,eu,sevalprocAttr]
     | true =>
       cases h3:eqB grid 0 with
       | false=>simp (maxSteps:=4000000) -implicitDefEqProofs only [aP,hlen,t0,t1,t4,t5,t7,t8,t9,rowX,st3,st21,st32,↓hvc,↓hvo,↓hac,↓hao,bl34,z34',st34,hla,hlm,h90,eqB_self,plr62_7,plr62_10,↓callA_value,Tryz.func90,show Tryz.f90.body.isSome=true from rfl,↓fc65,↓fc91,r5,↓evLd,h0,h1,h2,h3,↓evDn,evUp,eu,sevalprocAttr]
       | true =>
         cases h4:eqB block 0 with
         | false=>simp (maxSteps:=4000000) -implicitDefEqProofs only [aP,hlen,t0,t1,t4,t5,t7,t8,t9,rowX,st3,st21,st32,↓hvc,↓hvo,↓hac,↓hao,bl34,z34',st34,hla,hlm,h90,eqB_self,plr62_7,plr62_10,↓callA_value,Tryz.func90,show Tryz.f90.body.isSome=true from rfl,↓fc65,↓fc91,r5,↓evLd,h0,h1,h2,h3,h4,↓evDn,evUp,eu,sevalprocAttr]
         | true =>
           cases h5:eqB src 0 with
           | false=>simp (maxSteps:=4000000) -implicitDefEqProofs only [aP,hlen,t0,t1,t4,t5,t7,t8,t9,rowX,st3,st21,st32,↓hvc,↓hvo,↓hac,↓hao,bl34,z34',st34,hla,hlm,h90,eqB_self,plr62_7,plr62_10,↓callA_value,Tryz.func90,show Tryz.f90.body.isSome=true from rfl,↓fc65,↓fc91,r5,↓evLd,h0,h1,h2,h3,h4,h5,↓evDn,evUp,eu,sevalprocAttr]
           | true =>
             cases h6:eqB ev 0 with
             | false=>simp (maxSteps:=4000000) -implicitDefEqProofs only [aP,hlen,t0,t1,t4,t5,t7,t8,t9,rowX,st3,st21,st32,↓hvc,↓hvo,↓hac,↓hao,bl34,z34',st34,hla,hlm,h90,eqB_self,plr62_7,plr62_10,↓callA_value,Tryz.func90,show Tryz.f90.body.isSome=true from rfl,↓fc65,↓fc91,r5,↓evLd,h0,h1,h2,h3,h4,h5,h6,↓evDn,evUp,eu,sevalprocAttr]
             | true =>
               simp (maxSteps:=4000000) -implicitDefEqProofs only [aP,hlen,t0,t1,t4,t5,t7,t8,t9,rowX,st3,st21,st32,↓hvc,↓hvo,↓hac,↓hao,bl34,z34',st34,hla,hlm,h90,eqB_self,plr62_7,plr62_10,↓callA_value,Tryz.func90,show Tryz.f90.body.isSome=true from rfl,↓fc65,↓fc91,r5,↓evLd,h0,h1,h2,h3,h4,h5,h6,↓evDn,evUp,eu,sevalprocAttr]
end Go.Dv
