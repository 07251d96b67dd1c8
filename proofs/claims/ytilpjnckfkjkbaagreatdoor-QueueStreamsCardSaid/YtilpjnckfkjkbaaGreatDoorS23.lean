/- Part 23 of the walks (own work). -/
import Derived.Test.YtilpjnckfkjkbaaGreatDoorS22
open Bool renaming and_eq_true→aD,false_and→bd,not_eq_false'→iB,not_eq_true'→ba,true_and→aZ
open List renaming any_cons→eE,any_nil→fi,any_toArray→dz,append_nil→af,getElem?_append_right→aw,length_append→ai,length_set→ar
open Nat renaming add_assoc→bV,add_sub_cancel_left→bE,le_add_right→cm,le_refl→ax,lt_trans→dB,reduceLT→aM,sub_self→dI
open Go.Proofs.Tryz renaming prog→aa
set_option maxRecDepth 100000
set_option maxHeartbeats 4000000
set_option linter.unusedSimpArgs false
set_option linter.unusedVariables false
namespace Go.Dv
open Go.Proofs
attribute [local congr] aH bP bj bO bQ
theorem Sv {H:AH} {m:List (List Int)} {v:AV} {q1 q2:Nat} (h:dc H m v) (hN:m.length < 2 ^ 60):∀ (d j:Nat) (tm:List AV) (K:AH),m.length - j=d->j<=m.length->al H K->tm.length=52->tm.getD 2 uA=v->tm.getD 3 uA=.ptr q1 0->tm.getD 4 uA=.ptr q2 0->tm.getD 20 uA=v->tm.getD 21 uA=I m.length->tm.getD 22 uA=I ((j:Nat):Int) ->
   ∃ X Y K1 K2,EvC aa C0 W0 plN Jr (tm,K)=br (bA (fun j=>!ltB 256 ((bG m j).length:Int)) (m.length) (j)) (some (.exit 0,(X,K1))) (some (.ret,(Y,K2)))/\(X.length=52/\al H K1/\X.getD 2 uA=v/\X.getD 3 uA=.ptr q1 0/\X.getD 4 uA=.ptr q2 0/\X.getD 20 uA=v/\X.getD 21 uA=I m.length)/\Y.length=52/\Y.getD 6 uA=.bool false:=by
 intro d
 induction d with
 | zero =>
   intro j tm K hd hj hA hlen h2 h3 h4 h20 h21 h22
   have hjl:j=m.length:=by omega
   subst hjl
   have hlt:ltB (((m.length:Nat)):Int) (m.length:Nat)=false:=db (by omega)
   have hlm:=h.len
   rw [cN (ax _),KX]
   simp (maxSteps:=4000000) -implicitDefEqProofs only [Cf,Tryz.f91,aP,hlen,h2,h3,h4,h20,h21,h22,hlt,hlm,r5,↓az,↓ao,an,eu,sevalprocAttr]
   exact ⟨_,tm.set 6 (.bool false),_,K,rfl,⟨by first | exact hlen | simp only [ar,hlen],hA,by first | exact h2 | simp only [hlen,h2,gB,sevalprocAttr],by first | exact h3 | simp only [hlen,h3,gB,sevalprocAttr],by first | exact h4 | simp only [hlen,h4,gB,sevalprocAttr],by first | exact h20 | simp only [hlen,h20,gB,sevalprocAttr],by first | exact h21 | simp only [hlen,h21,gB,sevalprocAttr]⟩,by simp only [ls,hlen],by simp only [hlen,dq,aM]⟩
 | succ d ih =>
   intro j tm K hd hj hA hlen h2 h3 h4 h20 h21 h22
   have hjN:j < m.length:=by omega
   have hlt:ltB (j:Int) (m.length:Nat)=true:=cQ (by omega)
   have hw:=cD (j:=j) (by omega)
   have hlm:=h.len
   obtain ⟨i,k,w,hix,hrd,hw32⟩:=h.at hA hjN
   have hl32:=kn hw32
   rw [ch hjN,KX]
   rw [<-af K]
   cases hp:(!ltB 256 ((bG m j).length:Int)) with
   | true =>
     simp only [aZ]
     rw [ba] at hp
     simp (maxSteps:=4000000) -implicitDefEqProofs only [Cf,Tryz.f91,aP,hlen,h2,h3,h4,h20,h21,h22,hlt,hw,hix,hrd,hl32,hlm,hp,r5,↓az,↓ao,an,eu,sevalprocAttr]
     exact ih (j+1) _ _ (by omega) (by omega) (by first | exact hA | exact hA.bS _ | exact (hA.bS _).bS _) (by simp only [ls,hlen]) (by simp only [hlen,h2,gB,sevalprocAttr]) (by simp only [hlen,h3,gB,sevalprocAttr]) (by simp only [hlen,h4,gB,sevalprocAttr]) (by simp only [hlen,h20,gB,sevalprocAttr]) (by simp only [hlen,h21,gB,sevalprocAttr]) (by simp only [hlen,h22,gB,sevalprocAttr])
   | false =>
     simp only [bd]
     rw [iB] at hp
     simp (maxSteps:=4000000) -implicitDefEqProofs only [Cf,Tryz.f91,aP,hlen,h2,h3,h4,h20,h21,h22,hlt,hw,hix,hrd,hl32,hlm,hp,r5,↓az,↓ao,an,eu,sevalprocAttr]
     exact ⟨tm,_,K,_,rfl,⟨hlen,hA,h2,h3,h4,h20,h21⟩,by simp only [ls,hlen],by simp only [hlen,gB,sevalprocAttr]⟩
theorem O4 {H:AH} {m:List (List Int)} {v:AV} {q1 q2:Nat} {tm:List AV} {K:AH} {Z:Option (bu × St)} (hX:EvC aa C0 W0 plN Jr (tm,K)=Z) (h:dc H m v) (hN:m.length < 2 ^ 60) (hA:al H K) (hlen:tm.length=52) (h2:tm.getD 2 uA=v) (h3:tm.getD 3 uA=.ptr q1 0) (h4:tm.getD 4 uA=.ptr q2 0) (h20:tm.getD 20 uA=v) (h21:tm.getD 21 uA=I m.length) (h22:tm.getD 22 uA=I ((0:Nat):Int)) :
   ∃ X Y K1 K2,Z=br (bA (fun j=>!ltB 256 ((bG m j).length:Int)) (m.length) (0)) (some (.exit 0,(X,K1))) (some (.ret,(Y,K2)))/\(X.length=52/\al H K1/\X.getD 2 uA=v/\X.getD 3 uA=.ptr q1 0/\X.getD 4 uA=.ptr q2 0/\X.getD 20 uA=v/\X.getD 21 uA=I m.length)/\Y.length=52/\Y.getD 6 uA=.bool false:=by
 subst hX
 exact Sv h hN (m.length) 0 tm K (by omega) (by omega) hA hlen h2 h3 h4 h20 h21 h22
theorem Su {G:AH} {c:Cod} {vp vs vi va:AV} {x:Itm} {nm:ByteArray} {q:Nat} {m:List (List Int)} {vm:AV} (h:dO G c vp vs vi) (ha:SlS 32 1 G va (x.args.map dh)) (hi32:∀ a∈x.args,eD a) (hnp:x.args.length=c.params.length) (hq:G[q]? =some (.cells (cU nm x va) 126)) (hm:dc G m vm) (hN:c.params.length < 2 ^ 60):∀ (d j:Nat) (tm:List AV) (K:AH),c.params.length - j=d->j<=c.params.length->al G K->tm.length=52->tm.getD 2 uA=vm->tm.getD 4 uA=.ptr q 0->tm.getD 31 uA=vp->tm.getD 32 uA=I c.params.length->tm.getD 33 uA=I ((j:Nat):Int) ->
   ∃ X Y K1 K2,EvC aa C0 W0 plN Jq (tm,K)=br (bA (fun j=>zL c x.args (m.length:Int) j) (c.params.length) (j)) (some (.exit 2,(X,K1))) (some (.ret,(Y,K2)))/\(X.length=52/\al G K1/\X.getD 2 uA=vm/\X.getD 4 uA=.ptr q 0/\X.getD 31 uA=vp/\X.getD 32 uA=I c.params.length)/\Y.length=52/\Y.getD 6 uA=.bool false:=by
 intro d
 induction d with
 | zero =>
   intro j tm K hd hj hA hlen h2 h4 h31 h32 h33
   have hjl:j=c.params.length:=by omega
   subst hjl
   have hlt:ltB (((c.params.length:Nat)):Int) (c.params.length:Nat)=false:=db (by omega)
   rw [cN (ax _),KW]
   simp (maxSteps:=4000000) -implicitDefEqProofs only [zx,Tryz.f91,aP,hlen,h2,h4,h31,h32,h33,hlt,↓ao,an,eu,sevalprocAttr]
   exact ⟨_,tm.set 6 (.bool false),_,K,rfl,⟨by first | exact hlen | simp only [ar,hlen],hA,by first | exact h2 | simp only [hlen,h2,gB,sevalprocAttr],by first | exact h4 | simp only [hlen,h4,gB,sevalprocAttr],by first | exact h31 | simp only [hlen,h31,gB,sevalprocAttr],by first | exact h32 | simp only [hlen,h32,gB,sevalprocAttr]⟩,by simp only [ls,hlen],by simp only [hlen,dq,aM]⟩
 | succ d ih =>
   intro j tm K hd hj hA hlen h2 h4 h31 h32 h33
   have hjN:j < c.params.length:=by omega
   have hlt:ltB (j:Int) (c.params.length:Nat)=true:=cQ (by omega)
   have hw:=cD (j:=j) (by omega)
   obtain ⟨i,k,pn,hix,hrd1,hrd2⟩:=zW h hA hjN
   obtain ⟨i2,k2,hix2,hra⟩:=AI ha hA (j:=j) (by omega)
   have hai:=AG hi32 (j:=j) (by omega)
   have hwa:IntKind.i64.wrap (gg x.args j)=gg x.args j:=by obtain ⟨a0,a1⟩:=hai; exact qN (by omega)
   have hbq:∀ L k n,ak (K++L) q k n=if k+n<=(cU nm x va).length then some (((cU nm x va).drop k).take n) else none:=fun L k n=>eQ (hA.get hq) L k n
   have hlm:=hm.len
   rw [ch hjN,KW]
   rw [<-af K]
   cases hp:(zL c x.args (m.length:Int) j) with
   | true =>
     simp only [aZ]
     unfold zL at hp
     cases hb:iU c (j:Int) with
     | false =>
       simp (maxSteps:=4000000) -implicitDefEqProofs only [zx,Tryz.f91,aP,hlen,h2,h4,h31,h32,h33,hlt,hw,hix,hrd1,hrd2,hix2,hra,hwa,hbq,hlm,z74,vu,ef,ed,ec,d9,cU,r5,↓az,hb,↓ao,an,eu,sevalprocAttr]
       exact ih (j+1) _ _ (by omega) (by omega) (by first | exact hA | exact hA.bS _ | exact (hA.bS _).bS _) (by simp only [ls,hlen]) (by simp only [hlen,h2,gB,sevalprocAttr]) (by simp only [hlen,h4,gB,sevalprocAttr]) (by simp only [hlen,h31,gB,sevalprocAttr]) (by simp only [hlen,h32,gB,sevalprocAttr]) (by simp only [hlen,h33,gB,sevalprocAttr])
     | true =>
       rw [hb,aZ,ba] at hp
       simp (maxSteps:=4000000) -implicitDefEqProofs only [zx,Tryz.f91,aP,hlen,h2,h4,h31,h32,h33,hlt,hw,hix,hrd1,hrd2,hix2,hra,hwa,hbq,hlm,z74,vu,ef,ed,ec,d9,cU,r5,↓az,hb,hp,↓ao,an,eu,sevalprocAttr]
       exact ih (j+1) _ _ (by omega) (by omega) (by first | exact hA | exact hA.bS _ | exact (hA.bS _).bS _) (by simp only [ls,hlen]) (by simp only [hlen,h2,gB,sevalprocAttr]) (by simp only [hlen,h4,gB,sevalprocAttr]) (by simp only [hlen,h31,gB,sevalprocAttr]) (by simp only [hlen,h32,gB,sevalprocAttr]) (by simp only [hlen,h33,gB,sevalprocAttr])
   | false =>
     simp only [bd]
     unfold zL at hp
     rw [iB,aD] at hp
     obtain ⟨hb,hp2⟩:=hp
     simp (maxSteps:=4000000) -implicitDefEqProofs only [zx,Tryz.f91,aP,hlen,h2,h4,h31,h32,h33,hlt,hw,hix,hrd1,hrd2,hix2,hra,hwa,hbq,hlm,z74,vu,ef,ed,ec,d9,cU,r5,↓az,hb,hp2,↓ao,an,eu,sevalprocAttr]
     exact ⟨tm,_,K,_,rfl,⟨hlen,hA,h2,h4,h31,h32⟩,by simp only [ls,hlen],by simp only [hlen,gB,sevalprocAttr]⟩
theorem O2 {G:AH} {c:Cod} {vp vs vi va:AV} {x:Itm} {nm:ByteArray} {q:Nat} {m:List (List Int)} {vm:AV} {tm:List AV} {K:AH} {Z:Option (bu × St)} (hX:EvC aa C0 W0 plN Jq (tm,K)=Z) (h:dO G c vp vs vi) (ha:SlS 32 1 G va (x.args.map dh)) (hi32:∀ a∈x.args,eD a) (hnp:x.args.length=c.params.length) (hq:G[q]? =some (.cells (cU nm x va) 126)) (hm:dc G m vm) (hN:c.params.length < 2 ^ 60) (hA:al G K) (hlen:tm.length=52) (h2:tm.getD 2 uA=vm) (h4:tm.getD 4 uA=.ptr q 0) (h31:tm.getD 31 uA=vp) (h32:tm.getD 32 uA=I c.params.length) (h33:tm.getD 33 uA=I ((0:Nat):Int)) :
   ∃ X Y K1 K2,Z=br (bA (fun j=>zL c x.args (m.length:Int) j) (c.params.length) (0)) (some (.exit 2,(X,K1))) (some (.ret,(Y,K2)))/\(X.length=52/\al G K1/\X.getD 2 uA=vm/\X.getD 4 uA=.ptr q 0/\X.getD 31 uA=vp/\X.getD 32 uA=I c.params.length)/\Y.length=52/\Y.getD 6 uA=.bool false:=by
 subst hX
 exact Su h ha hi32 hnp hq hm hN (c.params.length) 0 tm K (by omega) (by omega) hA hlen h2 h4 h31 h32 h33
theorem ZS {H:AH} {c:Cod} {vp vs vi va:AV} {x:Itm} {nm:ByteArray} (h:dO H c vp vs vi) (ha:SlS 32 1 H va (x.args.map dh)) (hi32:∀ a∈x.args,eD a) {m:List (List Int)} {vm:AV} (hm:dc H m vm):Ev aa C0 W0 91 [.agg (bF c vp vs vi),.agg (cU nm x va),vm] H=some (.bool (oY c nm x m),H):=by
 obtain ⟨tm,ht,g0,g1,g2,g3⟩:=tm3 (.agg (bF c vp vs vi)) (.agg (cU nm x va)) vm 52 (by decide)
 rw [YA,ht]
 rw [<-af (ro H)]
 unfold oY
 have hlp:=h.ro.lp
 have hlm:=hm.ro.len
 have h108:=fun L=>WM (nm:=nm) (h.ro.aX (al.app (ro H) L)) (ha.ro.same (al.app (ro H) L)) hi32
 simp only [bF,cU] at h108
 cases h0:u7 c nm x with
 | false=>simp (maxSteps:=4000000) -implicitDefEqProofs only [c91,Tryz.f91,aP,g0,g1,g2,g3,hlp,hlm,↓J3,h108,jn,cU,r5,↓az,h0,↓ao,an,eu,sevalprocAttr]
 | true =>
   cases h1:ltB 6 (m.length:Int) with
   | true=>simp (maxSteps:=4000000) -implicitDefEqProofs only [c91,Tryz.f91,aP,g0,g1,g2,g3,hlp,hlm,↓J3,h108,jn,cU,r5,↓az,h0,h1,↓ao,an,eu,sevalprocAttr]
   | false =>
     have hnp:x.args.length=c.params.length:=by
       unfold u7 ph at h0
       rw [aD,aD] at h0
       have:=h0.1.2
       rw [cX] at this; omega
     have hA0:=al.app (ro H) [bo.cells (bF c vp vs vi) 66,bo.cells (cU nm x va) 126]
     have hq:(ro H++[bo.cells (bF c vp vs vi) 66,bo.cells (cU nm x va) 126])[(ro H).length+1]? =some (.cells (cU nm x va) 126):=by rw [aw (cm _ _),bE]; rfl
     have hq1:(ro H++[bo.cells (bF c vp vs vi) 66,bo.cells (cU nm x va) 126])[(ro H).length]? =some (.cells (bF c vp vs vi) 66):=by rw [aw (ax _),dI]; rfl
     simp (maxSteps:=4000000) -implicitDefEqProofs only [c91,Tryz.f91,aP,g0,g1,g2,g3,hlp,hlm,↓J3,h108,jn,cU,r5,↓az,h0,h1,↓ao,an,eu,sevalprocAttr]
     generalize hX:EvC aa C0 W0 _ (Code.loop _) _=Z
     obtain ⟨X,Y,K1,K2,he,xs,y0,y1⟩:=O4  hX (hm.ro.aX hA0) (dB hm.n (by decide)) (al.refl _) (by simp only [ls,g0,g3]) (by simp only [g0,g3,g3,gB,sevalprocAttr]; try rfl) (by simp only [g0,g3,gB,sevalprocAttr]; try rfl) (by simp only [g0,g3,gB,sevalprocAttr]; try rfl) (by simp only [g0,g3,g3,gB,sevalprocAttr]; try rfl) (by simp only [g0,g3,gB,sevalprocAttr]; try rfl) (by simp only [g0,g3,gB,sevalprocAttr]; try rfl)
     subst he
     unfold lf
     cases hf:bA (fun j=>!ltB 256 ((bG m j).length:Int)) m.length 0 with
     | false=>simp (maxSteps:=4000000) -implicitDefEqProofs only [y0,y1,hf,↓ao,an,eu,sevalprocAttr]
     | true =>
       obtain ⟨x0,xA,x2,x3,x4,x5⟩:=xs
       have hbq1:∀ k n,ak K1 (ro H).length k n=if k+n<=(bF c vp vs vi).length then some (((bF c vp vs vi).drop k).take n) else none:=fun k n=>by have:=eQ (xA.get hq1) [] k n; rwa [af] at this
       simp (maxSteps:=4000000) -implicitDefEqProofs only [aP,hf,x0,x2,x3,x4,hbq1,hlp,r5,↓az,↓ao,an,eu,sevalprocAttr]
       generalize hX:EvC aa C0 W0 _ (Code.loop _) _=Z
       obtain ⟨X2,Y2,K3,K4,he,xs,z0,z1⟩:=O2  hX (h.ro.aX hA0) (ha.ro.same hA0) hi32 hnp hq (hm.ro.aX hA0) (dB h.np (by decide)) (xA) (by simp only [ls,x0]) (by simp only [x0,x2,gB,sevalprocAttr]; try rfl) (by simp only [x0,x4,gB,sevalprocAttr]; try rfl) (by simp only [x0,gB,sevalprocAttr]; try rfl) (by simp only [x0,gB,sevalprocAttr]; try rfl) (by simp only [x0,gB,sevalprocAttr]; try rfl)
       subst he
       cases hf2:bA (fun j=>zL c x.args (m.length:Int) j) c.params.length 0 <;> simp (maxSteps:=4000000) -implicitDefEqProofs only [xs.1,z0,z1,hf2,↓ao,an,eu,sevalprocAttr]
theorem Rc {G:AH} {c:Cod} {vp vs vi va:AV} {x:Itm} {nm:ByteArray} {q:Nat} {q1:Nat} {n:Int} (h:dO G c vp vs vi) (ha:SlS 32 1 G va (x.args.map dh)) (hi32:∀ a∈x.args,eD a) (hnp:x.args.length=c.params.length) (hq:G[q]? =some (.cells (cU nm x va) 126)) (hq1:G[q1]? =some (.cells (bF c vp vs vi) 66)) (hN:c.params.length < 2 ^ 60):∀ (d j:Nat) (tm:List AV) (K:AH),c.params.length - j=d->j<=c.params.length->al G K->tm.length=73->tm.getD 2 uA=I n->tm.getD 3 uA=.ptr q1 0->tm.getD 4 uA=.ptr q 0->tm.getD 7 uA=I ((j:Nat):Int) ->
   ∃ X Y K1 K2,EvC aa C0 W0 plN DE (tm,K)=br (bA (fun j=>jb c x.args n j) (c.params.length) (j)) (some (.exit 0,(X,K1))) (some (.ret,(Y,K2)))/\(X.length=73/\al G K1/\X.getD 2 uA=I n/\X.getD 3 uA=.ptr q1 0/\X.getD 4 uA=.ptr q 0)/\Y.length=73/\Y.getD 6 uA=.bool false:=by
 intro d
 induction d with
 | zero =>
   intro j tm K hd hj hA hlen h2 h3 h4 h7
   have hjl:j=c.params.length:=by omega
   subst hjl
   have hlt:ltB (((c.params.length:Nat)):Int) (c.params.length:Nat)=false:=db (by omega)
   have hbq1:∀ L k n,ak (K++L) q1 k n=if k+n<=(bF c vp vs vi).length then some (((bF c vp vs vi).drop k).take n) else none:=fun L k n=>eQ (hA.get hq1) L k n
   have hbq0:∀ k n,ak K q1 k n=if k+n<=(bF c vp vs vi).length then some (((bF c vp vs vi).drop k).take n) else none:=fun k n=>by have:=hbq1 [] k n; rwa [af] at this
   have hlp:=h.lp
   rw [cN (ax _),Fc]
   simp (maxSteps:=4000000) -implicitDefEqProofs only [r4,Tryz.f101,aP,hlen,h2,h3,h4,h7,hlt,hbq0,hlp,r5,↓az,↓ao,an,eu,sevalprocAttr]
   exact ⟨_,tm.set 6 (.bool false),_,K,rfl,⟨by first | exact hlen | simp only [ar,hlen],hA,by first | exact h2 | simp only [hlen,h2,gB,sevalprocAttr],by first | exact h3 | simp only [hlen,h3,gB,sevalprocAttr],by first | exact h4 | simp only [hlen,h4,gB,sevalprocAttr]⟩,by simp only [ls,hlen],by simp only [hlen,dq,aM]⟩
 | succ d ih =>
   intro j tm K hd hj hA hlen h2 h3 h4 h7
   have hjN:j < c.params.length:=by omega
   have hlt:ltB (j:Int) (c.params.length:Nat)=true:=cQ (by omega)
   have hw:=cD (j:=j) (by omega)
   obtain ⟨i,k,pn,hix,hrd1,hrd2⟩:=zW h hA hjN
   obtain ⟨i2,k2,hix2,hra⟩:=AI ha hA (j:=j) (by omega)
   have hai:=AG hi32 (j:=j) (by omega)
   have hwa:IntKind.i64.wrap (gg x.args j)=gg x.args j:=by obtain ⟨a0,a1⟩:=hai; exact qN (by omega)
   have hbq:∀ L k n,ak (K++L) q k n=if k+n<=(cU nm x va).length then some (((cU nm x va).drop k).take n) else none:=fun L k n=>eQ (hA.get hq) L k n
   have hbq1:∀ L k n,ak (K++L) q1 k n=if k+n<=(bF c vp vs vi).length then some (((bF c vp vs vi).drop k).take n) else none:=fun L k n=>eQ (hA.get hq1) L k n
   have hbq0:∀ k n,ak K q1 k n=if k+n<=(bF c vp vs vi).length then some (((bF c vp vs vi).drop k).take n) else none:=fun k n=>by have:=hbq1 [] k n; rwa [af] at this
   have hlp:=h.lp
   rw [ch hjN,Fc]
   rw [<-af K]
   cases hp:(jb c x.args n j) with
   | true =>
     simp only [aZ]
     unfold jb at hp
     cases hb:iU c (j:Int) with
     | false =>
       simp (maxSteps:=4000000) -implicitDefEqProofs only [r4,Tryz.f101,aP,hlen,h2,h3,h4,h7,hlt,hw,hix,hrd1,hix2,hra,hwa,hbq,hbq1,hlp,ef,ed,ec,d9,cU,r5,↓az,hb,↓ao,an,eu,sevalprocAttr]
       exact ih (j+1) _ _ (by omega) (by omega) (by first | exact hA | exact hA.bS _ | exact (hA.bS _).bS _) (by simp only [ls,hlen]) (by simp only [hlen,h2,gB,sevalprocAttr]) (by simp only [hlen,h3,gB,sevalprocAttr]) (by simp only [hlen,h4,gB,sevalprocAttr]) (by simp only [hlen,h7,gB,sevalprocAttr])
     | true =>
       rw [hb,aZ,ba,Bool.or_eq_false_iff] at hp
       obtain ⟨hp1,hp2⟩:=hp
       simp (maxSteps:=4000000) -implicitDefEqProofs only [r4,Tryz.f101,aP,hlen,h2,h3,h4,h7,hlt,hw,hix,hrd1,hix2,hra,hwa,hbq,hbq1,hlp,ef,ed,ec,d9,cU,r5,↓az,hb,hp1,hp2,↓ao,an,eu,sevalprocAttr]
       exact ih (j+1) _ _ (by omega) (by omega) (by first | exact hA | exact hA.bS _ | exact (hA.bS _).bS _) (by simp only [ls,hlen]) (by simp only [hlen,h2,gB,sevalprocAttr]) (by simp only [hlen,h3,gB,sevalprocAttr]) (by simp only [hlen,h4,gB,sevalprocAttr]) (by simp only [hlen,h7,gB,sevalprocAttr])
   | false =>
     simp only [bd]
     unfold jb at hp
     rw [iB,aD,Bool.or_eq_true] at hp
     obtain ⟨hb,hp⟩:=hp
     cases hp1:ltB (gg x.args j) 0 with
     | true =>
       simp (maxSteps:=4000000) -implicitDefEqProofs only [r4,Tryz.f101,aP,hlen,h2,h3,h4,h7,hlt,hw,hix,hrd1,hix2,hra,hwa,hbq,hbq1,hlp,ef,ed,ec,d9,cU,r5,↓az,hb,hp1,↓ao,an,eu,sevalprocAttr]
       exact ⟨tm,_,K,_,rfl,⟨hlen,hA,h2,h3,h4⟩,by simp only [ls,hlen],by simp only [hlen,gB,sevalprocAttr]⟩
     | false =>
       rw [hp1] at hp
       have hp2:leB n (gg x.args j)=true:=by simpa using hp
       simp (maxSteps:=4000000) -implicitDefEqProofs only [r4,Tryz.f101,aP,hlen,h2,h3,h4,h7,hlt,hw,hix,hrd1,hix2,hra,hwa,hbq,hbq1,hlp,ef,ed,ec,d9,cU,r5,↓az,hb,hp1,hp2,↓ao,an,eu,sevalprocAttr]
       exact ⟨tm,_,K,_,rfl,⟨hlen,hA,h2,h3,h4⟩,by simp only [ls,hlen],by simp only [hlen,gB,sevalprocAttr]⟩
theorem Ng {G:AH} {c:Cod} {vp vs vi va:AV} {x:Itm} {nm:ByteArray} {q:Nat} {q1:Nat} {n:Int} {tm:List AV} {K:AH} {Z:Option (bu × St)} (hX:EvC aa C0 W0 plN DE (tm,K)=Z) (h:dO G c vp vs vi) (ha:SlS 32 1 G va (x.args.map dh)) (hi32:∀ a∈x.args,eD a) (hnp:x.args.length=c.params.length) (hq:G[q]? =some (.cells (cU nm x va) 126)) (hq1:G[q1]? =some (.cells (bF c vp vs vi) 66)) (hN:c.params.length < 2 ^ 60) (hA:al G K) (hlen:tm.length=73) (h2:tm.getD 2 uA=I n) (h3:tm.getD 3 uA=.ptr q1 0) (h4:tm.getD 4 uA=.ptr q 0) (h7:tm.getD 7 uA=I ((0:Nat):Int)) :
   ∃ X Y K1 K2,Z=br (bA (fun j=>jb c x.args n j) (c.params.length) (0)) (some (.exit 0,(X,K1))) (some (.ret,(Y,K2)))/\(X.length=73/\al G K1/\X.getD 2 uA=I n/\X.getD 3 uA=.ptr q1 0/\X.getD 4 uA=.ptr q 0)/\Y.length=73/\Y.getD 6 uA=.bool false:=by
 subst hX
 exact Rc h ha hi32 hnp hq hq1 hN (c.params.length) 0 tm K (by omega) (by omega) hA hlen h2 h3 h4 h7
theorem WQ {H:AH} {c:Cod} {vp vs vi va:AV} {x:Itm} {nm:ByteArray} (h:dO H c vp vs vi) (ha:SlS 32 1 H va (x.args.map dh)) (hi32:∀ a∈x.args,eD a) (n:Int):Ev aa C0 W0 101 [.agg (bF c vp vs vi),.agg (cU nm x va),I n] H=some (.bool (BP c nm x n),H):=by
 obtain ⟨tm,ht,g0,g1,g2,g3⟩:=tm3 (.agg (bF c vp vs vi)) (.agg (cU nm x va)) (I n) 73 (by decide)
 rw [VV,ht]
 rw [<-af (ro H)]
 have hre:BP c nm x n=(sEq nm c.name && eqB (x.args.length:Int) (c.params.length:Int) && !ltB x.grid 1 && !ltB 8 x.grid && !ltB x.block 1 && !ltB 32 x.block && bA (fun j=>jb c x.args n j) c.params.length 0):=by
   unfold BP ph
   ac_rfl
 rw [hre]
 have hlp:=h.ro.lp
 have hla:=kn ha.ro
 cases h0:sEq nm c.name with
 | false=>simp (maxSteps:=4000000) -implicitDefEqProofs only [B4,Tryz.f101,aP,g0,g1,g2,g3,cU,hlp,hla,jn,ef,ed,ec,d9,cU,r5,↓az,h0,↓ao,an,eu,sevalprocAttr]
 | true =>
   cases h1:eqB (x.args.length:Int) (c.params.length:Int) with
   | false=>simp (maxSteps:=4000000) -implicitDefEqProofs only [B4,Tryz.f101,aP,g0,g1,g2,g3,cU,hlp,hla,jn,ef,ed,ec,d9,cU,r5,↓az,h0,h1,↓ao,an,eu,sevalprocAttr]
   | true =>
     cases h2:ltB x.grid 1 with
     | true=>simp (maxSteps:=4000000) -implicitDefEqProofs only [B4,Tryz.f101,aP,g0,g1,g2,g3,cU,hlp,hla,jn,ef,ed,ec,d9,cU,r5,↓az,h0,h1,h2,↓ao,an,eu,sevalprocAttr]
     | false =>
       cases h3:ltB 8 x.grid with
       | true=>simp (maxSteps:=4000000) -implicitDefEqProofs only [B4,Tryz.f101,aP,g0,g1,g2,g3,cU,hlp,hla,jn,ef,ed,ec,d9,cU,r5,↓az,h0,h1,h2,h3,↓ao,an,eu,sevalprocAttr]
       | false =>
         cases h4:ltB x.block 1 with
         | true=>simp (maxSteps:=4000000) -implicitDefEqProofs only [B4,Tryz.f101,aP,g0,g1,g2,g3,cU,hlp,hla,jn,ef,ed,ec,d9,cU,r5,↓az,h0,h1,h2,h3,h4,↓ao,an,eu,sevalprocAttr]
         | false =>
           cases h5:ltB 32 x.block with
           | true=>simp (maxSteps:=4000000) -implicitDefEqProofs only [B4,Tryz.f101,aP,g0,g1,g2,g3,cU,hlp,hla,jn,ef,ed,ec,d9,cU,r5,↓az,h0,h1,h2,h3,h4,h5,↓ao,an,eu,sevalprocAttr]
           | false =>
             have hnp:x.args.length=c.params.length:=by rw [cX] at h1; omega
             have hA0:=al.app (ro H) [bo.cells (bF c vp vs vi) 66,bo.cells (cU nm x va) 126]
             have hq:(ro H++[bo.cells (bF c vp vs vi) 66,bo.cells (cU nm x va) 126])[(ro H).length+1]? =some (.cells (cU nm x va) 126):=by rw [aw (cm _ _),bE]; rfl
             have hq1:(ro H++[bo.cells (bF c vp vs vi) 66,bo.cells (cU nm x va) 126])[(ro H).length]? =some (.cells (bF c vp vs vi) 66):=by rw [aw (ax _),dI]; rfl
             simp (maxSteps:=4000000) -implicitDefEqProofs only [B4,Tryz.f101,aP,g0,g1,g2,g3,cU,hlp,hla,jn,ef,ed,ec,d9,cU,r5,↓az,h0,h1,h2,h3,h4,h5,↓ao,an,eu,sevalprocAttr]
             generalize hX:EvC aa C0 W0 _ (Code.loop _) _=Z
             obtain ⟨X,Y,K1,K2,he,xs,y0,y1⟩:=Ng  hX (h.ro.aX hA0) (ha.ro.same hA0) hi32 hnp hq hq1 (dB h.np (by decide)) (al.refl _) (by simp only [ls,g0,g3]) (by simp only [g0,g3,g3,gB,sevalprocAttr]; try rfl) (by simp only [g0,g3,gB,sevalprocAttr]; try rfl) (by simp only [g0,g3,gB,sevalprocAttr]; try rfl) (by simp only [g0,g3,gB,sevalprocAttr]; try rfl)
             subst he
             cases hf:bA (fun j=>jb c x.args n j) c.params.length 0 <;> simp (maxSteps:=4000000) -implicitDefEqProofs only [xs.1,y0,y1,hf,↓ao,an,eu,sevalprocAttr]
theorem Nf {H:AH} {m:List (List Int)} {v:AV} {q1 q2:Nat} (h:dc H m v) (hN:m.length < 2 ^ 60):∀ (d j:Nat) (tm:List AV) (K:AH),m.length - j=d->j<=m.length->al H K->tm.length=30->tm.getD 2 uA=v->tm.getD 3 uA=.ptr q1 0->tm.getD 4 uA=.ptr q2 0->tm.getD 7 uA=I ((j:Nat):Int) ->
   ∃ X Y K1 K2,EvC aa C0 W0 plN Jw (tm,K)=br (bA (fun j=>!ltB 256 ((bG m j).length:Int)) (m.length) (j)) (some (.exit 0,(X,K1))) (some (.ret,(Y,K2)))/\(X.length=30/\al H K1/\X.getD 2 uA=v/\X.getD 3 uA=.ptr q1 0/\X.getD 4 uA=.ptr q2 0)/\Y.length=30/\Y.getD 6 uA=.bool false:=by
 intro d
 induction d with
 | zero =>
   intro j tm K hd hj hA hlen h2 h3 h4 h7
   have hjl:j=m.length:=by omega
   subst hjl
   have hlt:ltB (((m.length:Nat)):Int) (m.length:Nat)=false:=db (by omega)
   have hlm:=h.len
   rw [cN (ax _),Ld]
   simp (maxSteps:=4000000) -implicitDefEqProofs only [Ck,Tryz.f69,aP,hlen,h2,h3,h4,h7,hlt,hlm,r5,↓az,↓ao,an,eu,sevalprocAttr]
   exact ⟨_,tm.set 6 (.bool false),_,K,rfl,⟨by first | exact hlen | simp only [ar,hlen],hA,by first | exact h2 | simp only [hlen,h2,gB,sevalprocAttr],by first | exact h3 | simp only [hlen,h3,gB,sevalprocAttr],by first | exact h4 | simp only [hlen,h4,gB,sevalprocAttr]⟩,by simp only [ls,hlen],by simp only [hlen,dq,aM]⟩
 | succ d ih =>
   intro j tm K hd hj hA hlen h2 h3 h4 h7
   have hjN:j < m.length:=by omega
   have hlt:ltB (j:Int) (m.length:Nat)=true:=cQ (by omega)
   have hw:=cD (j:=j) (by omega)
   have hlm:=h.len
   obtain ⟨i,k,w,hix,hrd,hw32⟩:=h.at hA hjN
   have hl32:=kn hw32
   rw [ch hjN,Ld]
   rw [<-af K]
   cases hp:(!ltB 256 ((bG m j).length:Int)) with
   | true =>
     simp only [aZ]
     rw [ba] at hp
     simp (maxSteps:=4000000) -implicitDefEqProofs only [Ck,Tryz.f69,aP,hlen,h2,h3,h4,h7,hlt,hw,hix,hrd,hl32,hlm,hp,r5,↓az,↓ao,an,eu,sevalprocAttr]
     exact ih (j+1) _ _ (by omega) (by omega) (by first | exact hA | exact hA.bS _ | exact (hA.bS _).bS _) (by simp only [ls,hlen]) (by simp only [hlen,h2,gB,sevalprocAttr]) (by simp only [hlen,h3,gB,sevalprocAttr]) (by simp only [hlen,h4,gB,sevalprocAttr]) (by simp only [hlen,h7,gB,sevalprocAttr])
   | false =>
     simp only [bd]
     rw [iB] at hp
     simp (maxSteps:=4000000) -implicitDefEqProofs only [Ck,Tryz.f69,aP,hlen,h2,h3,h4,h7,hlt,hw,hix,hrd,hl32,hlm,hp,r5,↓az,↓ao,an,eu,sevalprocAttr]
     exact ⟨tm,_,K,_,rfl,⟨hlen,hA,h2,h3,h4⟩,by simp only [ls,hlen],by simp only [hlen,gB,sevalprocAttr]⟩
theorem Ia {H:AH} {m:List (List Int)} {v:AV} {q1 q2:Nat} {tm:List AV} {K:AH} {Z:Option (bu × St)} (hX:EvC aa C0 W0 plN Jw (tm,K)=Z) (h:dc H m v) (hN:m.length < 2 ^ 60) (hA:al H K) (hlen:tm.length=30) (h2:tm.getD 2 uA=v) (h3:tm.getD 3 uA=.ptr q1 0) (h4:tm.getD 4 uA=.ptr q2 0) (h7:tm.getD 7 uA=I ((0:Nat):Int)) :
   ∃ X Y K1 K2,Z=br (bA (fun j=>!ltB 256 ((bG m j).length:Int)) (m.length) (0)) (some (.exit 0,(X,K1))) (some (.ret,(Y,K2)))/\(X.length=30/\al H K1/\X.getD 2 uA=v/\X.getD 3 uA=.ptr q1 0/\X.getD 4 uA=.ptr q2 0)/\Y.length=30/\Y.getD 6 uA=.bool false:=by
 subst hX
 exact Nf h hN (m.length) 0 tm K (by omega) (by omega) hA hlen h2 h3 h4 h7
theorem Z4 {H:AH} {c:Cod} {vp vs vi va:AV} {x:Itm} {nm:ByteArray} (h:dO H c vp vs vi) (ha:SlS 32 1 H va (x.args.map dh)) (hi32:∀ a∈x.args,eD a) {m:List (List Int)} {vm:AV} (hm:dc H m vm):Ev aa C0 W0 69 [.agg (bF c vp vs vi),.agg (cU nm x va),vm] H=some (.bool (oY c nm x m),H):=by
 rw [O3]
 obtain ⟨tm,ht,g0,g1,g2,g3⟩:=tm3 (.agg (bF c vp vs vi)) (.agg (cU nm x va)) vm 30 (by decide)
 rw [YP,ht]
 rw [<-af (ro H)]
 unfold J0 lf
 have hlm:=hm.ro.len
 have hA0:=al.app (ro H) [bo.cells (bF c vp vs vi) 66,bo.cells (cU nm x va) 126]
 have hq:(ro H++[bo.cells (bF c vp vs vi) 66,bo.cells (cU nm x va) 126])[(ro H).length+1]? =some (.cells (cU nm x va) 126):=by rw [aw (cm _ _),bE]; rfl
 have hq1:(ro H++[bo.cells (bF c vp vs vi) 66,bo.cells (cU nm x va) 126])[(ro H).length]? =some (.cells (bF c vp vs vi) 66):=by rw [aw (ax _),dI]; rfl
 simp (maxSteps:=4000000) -implicitDefEqProofs only [c69,Tryz.f69,aP,g0,g1,g2,g3,hlm,↓Qi,jn,cU,r5,↓az,↓ao,an,eu,sevalprocAttr]
 generalize hX:EvC aa C0 W0 _ (Code.loop _) _=Z
 obtain ⟨X,Y,K1,K2,he,xs,y0,y1⟩:=Ia  hX (hm.ro.aX hA0) (dB hm.n (by decide)) (al.refl _) (by simp only [ls,g0,g3]) (by simp only [g0,g3,g3,gB,sevalprocAttr]; try rfl) (by simp only [g0,g3,gB,sevalprocAttr]; try rfl) (by simp only [g0,g3,gB,sevalprocAttr]; try rfl) (by simp only [g0,g3,gB,sevalprocAttr]; try rfl)
 subst he
 cases hf:bA (fun j=>!ltB 256 ((bG m j).length:Int)) m.length 0 with
 | false=>simp (maxSteps:=4000000) -implicitDefEqProofs only [y0,y1,hf,↓ao,an,eu,sevalprocAttr]
 | true =>
   obtain ⟨x0,xA,x2,x3,x4⟩:=xs
   have hbq1:∀ k n,ak K1 (ro H).length k n=if k+n<=(bF c vp vs vi).length then some (((bF c vp vs vi).drop k).take n) else none:=fun k n=>by have:=eQ (xA.get hq1) [] k n; rwa [af] at this
   have hbq2:∀ k n,ak K1 ((ro H).length+1) k n=if k+n<=(cU nm x va).length then some (((cU nm x va).drop k).take n) else none:=fun k n=>by have:=eQ (xA.get hq) [] k n; rwa [af] at this
   have h101:=WQ (nm:=nm) ((h.ro.aX hA0).aX xA) ((ha.ro.same hA0).same xA) hi32 (m.length:Int)
   simp only [bF,cU] at h101
   cases h6:leB (m.length:Int) 6 <;> simp (maxSteps:=4000000) -implicitDefEqProofs only [aP,hf,h6,x0,x2,x3,x4,hbq1,hbq2,hlm,↓Qi,h101,jn,cU,r5,↓az,↓ao,an,eu,sevalprocAttr]
theorem fX:ep aa 34=some (.agg [I 0,I 0,I 0,I 0,I 0,I 0,I 0,.nilSlice,.int .i32 0]):=by kernel_rfl
theorem Ig {tm:List AV} {G:AH} (hlen:tm.length=181) (h5:tm.getD 5 uA=.ptr (G.length+1) 0) (h8:tm.getD 8 uA=.ptr (G.length+2) 0) (vm va:AV) (k c g b s d e w:Int) :
   ∃ tm',EvC aa C0 W0 o4 (aQ [true,true,true,true,false,true,false,true,true,true,true,true,false,false] c62) (tm,G++[.cells [vm] 24,.cells [I k,I c,I g,I b,I s,I d,I e,va,.int .i32 w] 34,.cells [I k,I 0,I 0,I 0,I 0,I 0,I 0,.nilSlice,.int .i32 0] 34])=some (.normal,(tm',G++[.cells [vm] 24,.cells [I k,I c,I g,I b,I s,I d,I e,va,.int .i32 w] 34,.cells [I k,I 0,I 0,I 0,I 0,I d,I 0,.nilSlice,.int .i32 w] 34]))/\tm'.length=181/\tm'.getD 0 uA=tm.getD 0 uA/\tm'.getD 1 uA=tm.getD 1 uA/\tm'.getD 4 uA=tm.getD 4 uA/\tm'.getD 5 uA=tm.getD 5 uA/\tm'.getD 7 uA=tm.getD 7 uA/\tm'.getD 8 uA=tm.getD 8 uA/\tm'.getD 9 uA=tm.getD 9 uA:=by
 simp (maxSteps:=4000000) -implicitDefEqProofs only [c62,Tryz.f62,aP,hlen,h5,h8,↓dn Iy,Df,dz,eE,fi,cJ,st3,fB,r5,↓az,↓ao,an,eu,sevalprocAttr,↓fK,↓fI,↓jG,↓gP,↓fJ,↓gQ,↓ez,↓fL,↓cF,↓bX,↓dj,↓gR,↓eA,↓fM,↓cH,↓cG,↓dk,↓e9,↓dK,eB,cd,ai,bV,di,dJ,eC]
 exact ⟨_,rfl,by simp only [ls,hlen],by simp only [hlen,h5,h8,gB,and_self,sevalprocAttr]⟩
theorem Ni {tm:List AV} {G:AH} (hlen:tm.length=181) (h5:tm.getD 5 uA=.ptr (G.length+1) 0) (h8:tm.getD 8 uA=.ptr (G.length+2) 0) (vm va:AV) (k c g b s d e w:Int) :
   ∃ tm',EvC aa C0 W0 o4 (aQ [true,true,true,true,false,true,false,true,true,true,false,false] c62) (tm,G++[.cells [vm] 24,.cells [I k,I c,I g,I b,I s,I d,I e,va,.int .i32 w] 34,.cells [I k,I 0,I 0,I 0,I 0,I 0,I 0,.nilSlice,.int .i32 0] 34])=some (.normal,(tm',G++[.cells [vm] 24,.cells [I k,I c,I g,I b,I s,I d,I e,va,.int .i32 w] 34,.cells [I k,I 0,I 0,I 0,I s,I d,I 0,.nilSlice,.int .i32 0] 34]))/\tm'.length=181/\tm'.getD 0 uA=tm.getD 0 uA/\tm'.getD 1 uA=tm.getD 1 uA/\tm'.getD 4 uA=tm.getD 4 uA/\tm'.getD 5 uA=tm.getD 5 uA/\tm'.getD 7 uA=tm.getD 7 uA/\tm'.getD 8 uA=tm.getD 8 uA/\tm'.getD 9 uA=tm.getD 9 uA:=by
 simp (maxSteps:=4000000) -implicitDefEqProofs only [c62,Tryz.f62,aP,hlen,h5,h8,↓dn NA,IX,dz,eE,fi,cJ,st3,fB,r5,↓az,↓ao,an,eu,sevalprocAttr,↓fK,↓fI,↓jG,↓gP,↓fJ,↓gQ,↓ez,↓fL,↓cF,↓bX,↓dj,↓gR,↓eA,↓fM,↓cH,↓cG,↓dk,↓e9,↓dK,eB,cd,ai,bV,di,dJ,eC]
 exact ⟨_,rfl,by simp only [ls,hlen],by simp only [hlen,h5,h8,gB,and_self,sevalprocAttr]⟩
theorem Nj {tm:List AV} {G:AH} (hlen:tm.length=181) (h5:tm.getD 5 uA=.ptr (G.length+1) 0) (h8:tm.getD 8 uA=.ptr (G.length+2) 0) (vm va:AV) (k c g b s d e w:Int) :
   ∃ tm',EvC aa C0 W0 o4 (aQ [true,true,true,true,false,true,false,true,false,false] c62) (tm,G++[.cells [vm] 24,.cells [I k,I c,I g,I b,I s,I d,I e,va,.int .i32 w] 34,.cells [I k,I 0,I 0,I 0,I 0,I 0,I 0,.nilSlice,.int .i32 0] 34])=some (.normal,(tm',G++[.cells [vm] 24,.cells [I k,I c,I g,I b,I s,I d,I e,va,.int .i32 w] 34,.cells [I k,I c,I g,I b,I 0,I 0,I 0,.nilSlice,.int .i32 0] 34]))/\tm'.length=181/\tm'.getD 0 uA=tm.getD 0 uA/\tm'.getD 1 uA=tm.getD 1 uA/\tm'.getD 4 uA=tm.getD 4 uA/\tm'.getD 5 uA=tm.getD 5 uA/\tm'.getD 7 uA=tm.getD 7 uA/\tm'.getD 8 uA=tm.getD 8 uA/\tm'.getD 9 uA=tm.getD 9 uA:=by
 simp (maxSteps:=4000000) -implicitDefEqProofs only [c62,Tryz.f62,aP,hlen,h5,h8,↓dn NB,IY,dz,eE,fi,cJ,st3,fB,r5,↓az,↓ao,an,eu,sevalprocAttr,↓fK,↓fI,↓jG,↓gP,↓fJ,↓gQ,↓ez,↓fL,↓cF,↓bX,↓dj,↓gR,↓eA,↓fM,↓cH,↓cG,↓dk,↓e9,↓dK,eB,cd,ai,bV,di,dJ,eC]
 exact ⟨_,rfl,by simp only [ls,hlen],by simp only [hlen,h5,h8,gB,and_self,sevalprocAttr]⟩
theorem Gh {tm:List AV} {G:AH} {vm va:AV} {k c g b s d e w:Int} {R:Option (bu × St)} (hR:EvC aa C0 W0 o4 (aQ [true,true,true,true,false,true,false,true,true,true,true,true,false,false] c62) (tm,G++[.cells [vm] 24,.cells [I k,I c,I g,I b,I s,I d,I e,va,.int .i32 w] 34,.cells [I k,I 0,I 0,I 0,I 0,I 0,I 0,.nilSlice,.int .i32 0] 34])=R) (hlen:tm.length=181) (h5:tm.getD 5 uA=.ptr (G.length+1) 0) (h8:tm.getD 8 uA=.ptr (G.length+2) 0) :
   ∃ tm',R=some (.normal,(tm',G++[.cells [vm] 24,.cells [I k,I c,I g,I b,I s,I d,I e,va,.int .i32 w] 34,.cells [I k,I 0,I 0,I 0,I 0,I d,I 0,.nilSlice,.int .i32 w] 34]))/\tm'.length=181/\tm'.getD 0 uA=tm.getD 0 uA/\tm'.getD 1 uA=tm.getD 1 uA/\tm'.getD 4 uA=tm.getD 4 uA/\tm'.getD 5 uA=tm.getD 5 uA/\tm'.getD 7 uA=tm.getD 7 uA/\tm'.getD 8 uA=tm.getD 8 uA/\tm'.getD 9 uA=tm.getD 9 uA:=by
 subst hR
 exact Ig hlen h5 h8 vm va k c g b s d e w
theorem Ic {tm:List AV} {G:AH} {vm va:AV} {k c g b s d e w:Int} {R:Option (bu × St)} (hR:EvC aa C0 W0 o4 (aQ [true,true,true,true,false,true,false,true,true,true,false,false] c62) (tm,G++[.cells [vm] 24,.cells [I k,I c,I g,I b,I s,I d,I e,va,.int .i32 w] 34,.cells [I k,I 0,I 0,I 0,I 0,I 0,I 0,.nilSlice,.int .i32 0] 34])=R) (hlen:tm.length=181) (h5:tm.getD 5 uA=.ptr (G.length+1) 0) (h8:tm.getD 8 uA=.ptr (G.length+2) 0) :
   ∃ tm',R=some (.normal,(tm',G++[.cells [vm] 24,.cells [I k,I c,I g,I b,I s,I d,I e,va,.int .i32 w] 34,.cells [I k,I 0,I 0,I 0,I s,I d,I 0,.nilSlice,.int .i32 0] 34]))/\tm'.length=181/\tm'.getD 0 uA=tm.getD 0 uA/\tm'.getD 1 uA=tm.getD 1 uA/\tm'.getD 4 uA=tm.getD 4 uA/\tm'.getD 5 uA=tm.getD 5 uA/\tm'.getD 7 uA=tm.getD 7 uA/\tm'.getD 8 uA=tm.getD 8 uA/\tm'.getD 9 uA=tm.getD 9 uA:=by
 subst hR
 exact Ni hlen h5 h8 vm va k c g b s d e w
theorem Ie {tm:List AV} {G:AH} {vm va:AV} {k c g b s d e w:Int} {R:Option (bu × St)} (hR:EvC aa C0 W0 o4 (aQ [true,true,true,true,false,true,false,true,false,false] c62) (tm,G++[.cells [vm] 24,.cells [I k,I c,I g,I b,I s,I d,I e,va,.int .i32 w] 34,.cells [I k,I 0,I 0,I 0,I 0,I 0,I 0,.nilSlice,.int .i32 0] 34])=R) (hlen:tm.length=181) (h5:tm.getD 5 uA=.ptr (G.length+1) 0) (h8:tm.getD 8 uA=.ptr (G.length+2) 0) :
   ∃ tm',R=some (.normal,(tm',G++[.cells [vm] 24,.cells [I k,I c,I g,I b,I s,I d,I e,va,.int .i32 w] 34,.cells [I k,I c,I g,I b,I 0,I 0,I 0,.nilSlice,.int .i32 0] 34]))/\tm'.length=181/\tm'.getD 0 uA=tm.getD 0 uA/\tm'.getD 1 uA=tm.getD 1 uA/\tm'.getD 4 uA=tm.getD 4 uA/\tm'.getD 5 uA=tm.getD 5 uA/\tm'.getD 7 uA=tm.getD 7 uA/\tm'.getD 8 uA=tm.getD 8 uA/\tm'.getD 9 uA=tm.getD 9 uA:=by
 subst hR
 exact Nj hlen h5 h8 vm va k c g b s d e w
def inB (m:List (List Int)) (n:Int):Bool:=leB 0 n && ltB n (m.length:Int)
def xo (m:List (List Int)) (n:Int):Int:=((bG m n.toNat).length:Int)
theorem bw (a:Int):eqB a a=true:=by rw [cX]
theorem dc.vc {H:AH} {m:List (List Int)} {v:AV} (h:dc H m v):v.cells=[v]/\v.one=true:=by
 obtain ⟨⟨l,e,hs,hc⟩,n,_⟩:=h
 exact ⟨hs.cells,hs.one⟩
theorem gY (k:Int):kz aa 34 [(0,I k)]=some (.agg [I k,I 0,I 0,I 0,I 0,I 0,I 0,.nilSlice,.int .i32 0]):=by kernel_rfl
theorem GU {H:AH} {m:List (List Int)} {vm:AV} (hm:dc H m vm) {i k:Nat} (hb:ak H i k 1=some [vm]) (n:Int):Ev aa C0 W0 90 [I n,.ptr i k] H=some (.bool (inB m n),H):=by
 obtain ⟨tm,ht,g0,g1,g2⟩:=tm2 (I n) (.ptr i k) 12 (by decide)
 rw [YB,ht]
 rw [<-af (ro H)]
 have hb':∀ L,ak (ro H++L) i k 1=some [vm]:=fun L=>jB (wN hb) (al.refl _) L
 have hlm:=hm.ro.len
 unfold inB
 cases h0:leB 0 n <;> simp (maxSteps:=4000000) -implicitDefEqProofs only [c90,Tryz.f90,aP,g0,g1,g2,hb',hlm,h0,r5,↓az,↓ao,an,eu,sevalprocAttr]
theorem C7 {H:AH} {m:List (List Int)} {vc vm:AV} (hm:dc H m vm) {x:Itm} {va:AV} (ha:SlS 32 1 H va (x.args.map dh)) (hk:x.kind=2):Ev aa C0 W0 62 [vc,vm,.agg (aU x va)] H=some (.bool (inB m x.dst && eqB x.args.length 0 && eqB x.code 0 && eqB x.grid 0 && eqB x.block 0 && eqB x.src 0 && eqB x.ev 0),H):=by
 obtain ⟨tm,ht,g0,g1,g2,g3⟩:=tm3 vc vm (.agg (aU x va)) 181 (by decide)
 rw [GH,ht]
 rw [<-af (ro H)]
 obtain ⟨kind,code,grid,block,src,dst,ev,args,word⟩:=x
 simp only at ha hk ⊢
 subst hk
 have hla:=kn ha.ro
 have hlm:=hm.ro.len
 obtain ⟨hvc,hvo⟩:=hm.vc
 have hac:=ha.cells
 have hao:=ha.one
 have h90:∀ L n,Ev aa C0 W0 90 [I n,.ptr (ro H).length 0] (ro H++(bo.cells [vm] 24::L))=some (.bool (inB m n),ro H++(bo.cells [vm] 24::L)):=fun L n=>GU (hm.ro.aX (al.app _ _)) (by rw [gu]; rfl) n
 have e0:eqB 2 0=false:=rfl
 have e1:eqB 2 1=false:=rfl
 have e2:eqB 2 2=true:=rfl
 simp (maxSteps:=4000000) -implicitDefEqProofs only [c62,Tryz.f62,aP,g0,g1,g2,g3,aU,st3,fB,fE,↓hvc,↓hvo,↓hac,↓hao,gY,fX,d7,hla,hlm,h90,bw,cj,bN,↓aO,Tryz.func90,show Tryz.f90.body.isSome=true from rfl,↓gV,↓gU,r5,↓az,e0,e1,e2,↓ao,an,eu,sevalprocAttr]
 generalize hR:EvC aa C0 W0 _ (Code.region _ _ _) _=R
 obtain ⟨t,he,hlen,t0,t1,t4,t5,t7,t8,t9⟩:=Gh hR (by simp only [ls,g0]) (by simp only [g0,gB,sevalprocAttr]) (by simp only [g0,gB,sevalprocAttr])
 subst he
 simp only [g0,g1,g2,g3,gB,sevalprocAttr] at t0 t1 t4 t5 t7 t8 t9
 cases h0:inB m dst with
 | false=>simp (maxSteps:=4000000) -implicitDefEqProofs only [aP,hlen,t0,t1,t4,t5,t7,t8,t9,aU,st3,fB,fE,↓hvc,↓hvo,↓hac,↓hao,gY,fX,d7,hla,hlm,h90,bw,cj,bN,↓aO,Tryz.func90,show Tryz.f90.body.isSome=true from rfl,↓gV,↓gU,r5,↓az,h0,↓ao,an,eu,sevalprocAttr]
 | true =>
   cases h1:eqB (args.length:Int) 0 with
   | false=>simp (maxSteps:=4000000) -implicitDefEqProofs only [aP,hlen,t0,t1,t4,t5,t7,t8,t9,aU,st3,fB,fE,↓hvc,↓hvo,↓hac,↓hao,gY,fX,d7,hla,hlm,h90,bw,cj,bN,↓aO,Tryz.func90,show Tryz.f90.body.isSome=true from rfl,↓gV,↓gU,r5,↓az,h0,h1,↓ao,an,eu,sevalprocAttr]
   | true =>
     cases h2:eqB code 0 with
     | false=>simp (maxSteps:=4000000) -implicitDefEqProofs only [aP,hlen,t0,t1,t4,t5,t7,t8,t9,aU,st3,fB,fE,↓hvc,↓hvo,↓hac,↓hao,gY,fX,d7,hla,hlm,h90,bw,cj,bN,↓aO,Tryz.func90,show Tryz.f90.body.isSome=true from rfl,↓gV,↓gU,r5,↓az,h0,h1,h2,↓ao,an,eu,sevalprocAttr]
     | true =>
       cases h3:eqB grid 0 with
       | false=>simp (maxSteps:=4000000) -implicitDefEqProofs only [aP,hlen,t0,t1,t4,t5,t7,t8,t9,aU,st3,fB,fE,↓hvc,↓hvo,↓hac,↓hao,gY,fX,d7,hla,hlm,h90,bw,cj,bN,↓aO,Tryz.func90,show Tryz.f90.body.isSome=true from rfl,↓gV,↓gU,r5,↓az,h0,h1,h2,h3,↓ao,an,eu,sevalprocAttr]
       | true =>
         cases h4:eqB block 0 with
         | false=>simp (maxSteps:=4000000) -implicitDefEqProofs only [aP,hlen,t0,t1,t4,t5,t7,t8,t9,aU,st3,fB,fE,↓hvc,↓hvo,↓hac,↓hao,gY,fX,d7,hla,hlm,h90,bw,cj,bN,↓aO,Tryz.func90,show Tryz.f90.body.isSome=true from rfl,↓gV,↓gU,r5,↓az,h0,h1,h2,h3,h4,↓ao,an,eu,sevalprocAttr]
         | true =>
           cases h5:eqB src 0 with
           | false=>simp (maxSteps:=4000000) -implicitDefEqProofs only [aP,hlen,t0,t1,t4,t5,t7,t8,t9,aU,st3,fB,fE,↓hvc,↓hvo,↓hac,↓hao,gY,fX,d7,hla,hlm,h90,bw,cj,bN,↓aO,Tryz.func90,show Tryz.f90.body.isSome=true from rfl,↓gV,↓gU,r5,↓az,h0,h1,h2,h3,h4,h5,↓ao,an,eu,sevalprocAttr]
           | true =>
             cases h6:eqB ev 0 with
             | false=>simp (maxSteps:=4000000) -implicitDefEqProofs only [aP,hlen,t0,t1,t4,t5,t7,t8,t9,aU,st3,fB,fE,↓hvc,↓hvo,↓hac,↓hao,gY,fX,d7,hla,hlm,h90,bw,cj,bN,↓aO,Tryz.func90,show Tryz.f90.body.isSome=true from rfl,↓gV,↓gU,r5,↓az,h0,h1,h2,h3,h4,h5,h6,↓ao,an,eu,sevalprocAttr]
             | true =>
               simp (maxSteps:=4000000) -implicitDefEqProofs only [aP,hlen,t0,t1,t4,t5,t7,t8,t9,aU,st3,fB,fE,↓hvc,↓hvo,↓hac,↓hao,gY,fX,d7,hla,hlm,h90,bw,cj,bN,↓aO,Tryz.func90,show Tryz.f90.body.isSome=true from rfl,↓gV,↓gU,r5,↓az,h0,h1,h2,h3,h4,h5,h6,↓ao,an,eu,sevalprocAttr]
end Go.Dv
