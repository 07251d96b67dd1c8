/- Part 20 of the walks (own work). -/
import Derived.Test.YtilpjnckfkjkbaaGreatDoorT19
open Bool renaming and_false→gk,false_and→bc,true_and→bd
open List renaming append_assoc→aG,append_nil→af,getElem?_append_right→al,getElem?_eq_getElem→aj,length_append→ai
open Nat renaming add_sub_cancel_left→aS,le_add_right→du,le_refl→ax,lt_trans→dI,sub_self→dR
open Go.Proofs.Tryz renaming prog→aa
set_option maxRecDepth 100000
set_option maxHeartbeats 4000000
set_option linter.unusedSimpArgs false
set_option linter.unusedVariables false
namespace Go.Dv
open Go.Proofs
attribute [local congr] aF bC aY bB bD
def zW (c:Cod):Bool:=lJ c.name && !ltB 6 (c.params.length:Int) && !ltB 4 (c.shared.length:Int) && !ltB c.loc 0 && !ltB 64 c.loc && cd (fun j=>zi c j) c.params.length 0 && cd (fun j=>ze c j) c.shared.length 0
theorem Vl {G K L:AH} {cs:List AV} {e:TypeId} (hA:au (G++[.cells cs e]) K) (k n:Nat):ak (K++L) G.length k n=if k+n<=cs.length then some ((cs.drop k).take n) else none:=by
 refine eL (e:=e) (hA.get (i:=G.length) (o:=.cells cs e) ?_) L k n
 rw [al (ax _),dR]; rfl
theorem acy {H:AH} {c:Cod} {vp vs vi:AV} (h:eO H c vp vs vi):Ev aa C0 W0 86 [.agg (bI c vp vs vi)] H=some (.bool (zW c),H):=by
 obtain ⟨tm,ht,g0,g1⟩:=tm1 (.agg (bI c vp vs vi)) 87 (by decide)
 rw [abb,ht]
 rw [<-af (ro H)]
 unfold zW
 have hlp:=h.ro.lp
 have hls:=h.ro.ls
 have h104:=fun L=>LP h.nm L
 cases h0:lJ c.name with
 | false=>simp (maxSteps:=4000000) -implicitDefEqProofs only [c86,Tryz.f86,aP,g0,g1,hlp,hls,↓nq,h104,r5,↓az,h0,↓ao,an,eu,sevalprocAttr]
 | true =>
   cases h1:ltB 6 (c.params.length:Int) with
   | true=>simp (maxSteps:=4000000) -implicitDefEqProofs only [c86,Tryz.f86,aP,g0,g1,hlp,hls,↓nq,h104,r5,↓az,h0,h1,↓ao,an,eu,sevalprocAttr]
   | false =>
     cases h2:ltB 4 (c.shared.length:Int) with
     | true=>simp (maxSteps:=4000000) -implicitDefEqProofs only [c86,Tryz.f86,aP,g0,g1,hlp,hls,↓nq,h104,r5,↓az,h0,h1,h2,↓ao,an,eu,sevalprocAttr]
     | false =>
       cases h3:ltB c.loc 0 with
       | true=>simp (maxSteps:=4000000) -implicitDefEqProofs only [c86,Tryz.f86,aP,g0,g1,hlp,hls,↓nq,h104,r5,↓az,h0,h1,h2,h3,↓ao,an,eu,sevalprocAttr]
       | false =>
         cases h4:ltB 64 c.loc with
         | true=>simp (maxSteps:=4000000) -implicitDefEqProofs only [c86,Tryz.f86,aP,g0,g1,hlp,hls,↓nq,h104,r5,↓az,h0,h1,h2,h3,h4,↓ao,an,eu,sevalprocAttr]
         | false =>
           simp (maxSteps:=4000000) -implicitDefEqProofs only [c86,Tryz.f86,aP,g0,g1,hlp,hls,↓nq,h104,r5,↓az,h0,h1,h2,h3,h4,↓ao,an,eu,sevalprocAttr]
           have hG:au (ro H++[bl.cells (bI c vp vs vi) 66]) (ro H++[bl.cells (bI c vp vs vi) 66,bl.map [] 0]):=by
             have:=au.app (ro H++[bl.cells (bI c vp vs vi) 66]) [bl.map [] 0]
             rwa [aG] at this
           have hR:=h.ro.bg (au.app (ro H) [bl.cells (bI c vp vs vi) 66])
           have hm:(ro H++[bl.cells (bI c vp vs vi) 66]).length<=(ro H).length+1:=by rw [ai]; exact ax _
           have hI0:(ro H++[bl.cells (bI c vp vs vi) 66,bl.map [] 0])[(ro H).length+1]? =some (.map (pd ((pNs c).take 0)) ((pNs c).take 0).length):=by
             rw [al (du _ _),aS]; rfl
           generalize hX:EvC aa C0 W0 _ (Code.loop _) _=Z
           obtain ⟨X,Y,K1,K2,he,xs,y0,y1⟩:=PW (q:=(ro H).length) hR hm (dI h.np (by decide)) _ 0 _ _ _ hX rfl (Nat.zero_le _) (hG) (by simp only [ls,g0]) hI0 (by simp only [g0,gB,sevalprocAttr]; try rfl) (by simp only [g0,gB,sevalprocAttr]; try rfl) (by simp only [g0,gB,sevalprocAttr]; try rfl) (by simp only [g0,gB,sevalprocAttr]; try rfl) (by simp only [g0,gB,sevalprocAttr]; try rfl)
           subst he
           cases hf:cd (fun j=>zi c j) c.params.length 0 with
           | false=>simp (maxSteps:=4000000) -implicitDefEqProofs only [xs.1,y0,y1,hf,↓ao,an,eu,sevalprocAttr]
           | true =>
             have hI1:=xs.2.2.1 hf
             rw [List.take_of_length_le (by rw [kW]; exact ax _)] at hI1
             have hb:=fun k n=>Vl (L:=[]) xs.2.1 k n
             simp only [af] at hb
             obtain ⟨x0,xA,xI,x1,x3,x4,x5⟩:=xs
             have hI2:K1[(ro H).length+1]? =some (.map (pd (pNs c++(sNs c).take 0)) (pNs c++(sNs c).take 0).length):=by rw [List.take_zero,af]; exact hI1
             simp (maxSteps:=4000000) -implicitDefEqProofs only [aP,hf,x0,x1,x3,hb,hls,r5,↓az,↓ao,an,eu,sevalprocAttr]
             generalize hX:EvC aa C0 W0 _ (Code.loop _) _=Z
             obtain ⟨X2,Y2,K3,K4,he,xs,z0,z1⟩:=PV hR hm (dI h.ns (by decide)) _ 0 _ _ _ hX rfl (Nat.zero_le _) (xA) (by simp only [ls,x0]) hI2 (by simp only [x0,x3,gB,sevalprocAttr]; try rfl) (by simp only [x0,gB,sevalprocAttr]; try rfl) (by simp only [x0,gB,sevalprocAttr]; try rfl) (by simp only [x0,gB,sevalprocAttr]; try rfl)
             subst he
             cases hf2:cd (fun j=>ze c j) c.shared.length 0 with
             | false=>simp (maxSteps:=4000000) -implicitDefEqProofs only [xs.1,z0,z1,hf2,↓ao,an,eu,sevalprocAttr]
             | true=>simp (maxSteps:=4000000) -implicitDefEqProofs only [xs.1,z0,z1,hf2,↓ao,an,eu,sevalprocAttr]
theorem IA (H A:AH) (n:Nat) (L:AH) (cs vs:List AV) (e:TypeId) (hn:A.length=n) (hl:vs.length=cs.length) (ho:vs.all AV.one=true):bh (H++(A++.cells cs e::L)) (H.length+n) 0 vs=some (H++(A++.cells vs e::L)):=by
 subst hn
 rw [<-aG,<-aG,<-ai]
 exact NQ (H++A) L cs vs e hl ho
theorem acx {H:AH} {c:Cod} {vp vs vi:AV} (h:eO H c vp vs vi) {x:Ins} (hx:e9 x.imm):Ev aa C0 W0 88 [.agg (bI c vp vs vi),.agg (eK x),.agg gG] H=some (.bool (tw c x),H):=by
 obtain ⟨tm,ht,g0,g1,g2,g3⟩:=tm3 (.agg (bI c vp vs vi)) (.agg (eK x)) (.agg gG) 93 (by decide)
 rw [aba,ht]
 rw [<-af (ro H)]
 obtain ⟨kind,op,d,a,b,imm,to,join⟩:=x
 unfold tw
 simp only at hx ⊢
 have hli:=h.ro.li
 have hib:=h.ni
 have hwi:IntKind.i64.wrap ((c.insns.length:Int)+1)=(c.insns.length:Int)+1:=qZ (by omega)
 have h107:=fun L fd fa fb far ff fbr fl fp fw ft fj fo=>Ze (h.ro.bg (au.app _ L)) fd fa fb far ff fbr fl fp fw ft fj fo hx
 simp only [bI] at h107
 cases h0:leB 0 kind with
 | false =>
   have h0':ltB kind 0=true:=by rw [dm]; rw [mG] at h0; exact h0
   simp (maxSteps:=4000000) -implicitDefEqProofs only [c88,Tryz.f88,aP,g0,g1,g2,g3,hli,r5,↓az,e8,e7,eZ,eY,eX,eW,eV,eU,eT,eR,dX,dW,h0',↓ao,an,eu,sevalprocAttr]
 | true =>
   have h0':ltB kind 0=false:=by rw [fS]; rw [dn] at h0; exact h0
   cases h1:ltB kind 16 with
   | false =>
     have h1':leB 16 kind=true:=by rw [dn]; rw [fS] at h1; exact h1
     simp (maxSteps:=4000000) -implicitDefEqProofs only [c88,Tryz.f88,aP,g0,g1,g2,g3,hli,r5,↓az,e8,e7,eZ,eY,eX,eW,eV,eU,eT,eR,dX,dW,h0',h1',↓ao,an,eu,sevalprocAttr]
   | true =>
     have h1':leB 16 kind=false:=by rw [mG]; rw [dm] at h1; exact h1
     rw [dn] at h0
     rw [dm] at h1
     obtain ⟨j,rfl⟩:∃ j:Nat,kind=j:=⟨kind.toNat,by omega⟩
     have hj:j < 16:=by omega
     have hjj:((0:Int)<=(j:Int)/\(j:Int) < 16)=True:=eq_true (by omega)
     have hkr:=fun A B L=>KK (ro H) L A B hj
     simp only [Tp] at hkr
     cases hF:Ci j with
     | true =>
       cases hf:rN op with
       | false=>simp (maxSteps:=4000000) -implicitDefEqProofs only [c88,Tryz.f88,aP,g0,g1,g2,g3,hli,r5,↓az,e8,e7,eZ,eY,eX,eW,eV,eU,eT,eR,dX,dW,h0',h1',hjj,hkr,m9,sE,mW,↓nk,nt,↓nj,nr,↓nh,h107,hwi,hF,hf,↓ao,an,eu,sevalprocAttr]
       | true =>
         cases hd:da (kD j) d 16 with
         | false=>simp (maxSteps:=4000000) -implicitDefEqProofs only [c88,Tryz.f88,aP,g0,g1,g2,g3,hli,r5,↓az,e8,e7,eZ,eY,eX,eW,eV,eU,eT,eR,dX,dW,h0',h1',hjj,hkr,m9,sE,mW,↓nk,nt,↓nj,nr,↓nh,h107,hwi,hF,hf,hd,↓ao,an,eu,sevalprocAttr]
         | true =>
           cases ha:da (kA j) a 16 with
           | false=>simp (maxSteps:=4000000) -implicitDefEqProofs only [c88,Tryz.f88,aP,g0,g1,g2,g3,hli,r5,↓az,e8,e7,eZ,eY,eX,eW,eV,eU,eT,eR,dX,dW,h0',h1',hjj,hkr,m9,sE,mW,↓nk,nt,↓nj,nr,↓nh,h107,hwi,hF,hf,hd,ha,↓ao,an,eu,sevalprocAttr]
           | true =>
             cases hb:da (kB j) b 16 with
             | false=>simp (maxSteps:=4000000) -implicitDefEqProofs only [c88,Tryz.f88,aP,g0,g1,g2,g3,hli,r5,↓az,e8,e7,eZ,eY,eX,eW,eV,eU,eT,eR,dX,dW,h0',h1',hjj,hkr,m9,sE,mW,↓nk,nt,↓nj,nr,↓nh,h107,hwi,hF,hf,hd,ha,hb,↓ao,an,eu,sevalprocAttr]
             | true =>
               cases hi:A0 c (vD j) (Ck j) (Cf j) (Cj j) (Cg j) imm with
               | false=>simp (maxSteps:=4000000) -implicitDefEqProofs only [c88,Tryz.f88,aP,g0,g1,g2,g3,hli,r5,↓az,e8,e7,eZ,eY,eX,eW,eV,eU,eT,eR,dX,dW,h0',h1',hjj,hkr,m9,sE,mW,↓nk,nt,↓nj,nr,↓nh,h107,hwi,hF,hf,hd,ha,hb,hi,↓ao,an,eu,sevalprocAttr]
               | true =>
                 cases ht:da (kTo j) to c.insns.length with
                 | false=>simp (maxSteps:=4000000) -implicitDefEqProofs only [c88,Tryz.f88,aP,g0,g1,g2,g3,hli,r5,↓az,e8,e7,eZ,eY,eX,eW,eV,eU,eT,eR,dX,dW,h0',h1',hjj,hkr,m9,sE,mW,↓nk,nt,↓nj,nr,↓nh,h107,hwi,hF,hf,hd,ha,hb,hi,ht,↓ao,an,eu,sevalprocAttr]
                 | true =>
                   simp (maxSteps:=4000000) -implicitDefEqProofs only [c88,Tryz.f88,aP,g0,g1,g2,g3,hli,r5,↓az,e8,e7,eZ,eY,eX,eW,eV,eU,eT,eR,dX,dW,h0',h1',hjj,hkr,m9,sE,mW,↓nk,nt,↓nj,nr,↓nh,h107,hwi,hF,hf,hd,ha,hb,hi,ht,↓ao,an,eu,sevalprocAttr]
     | false =>
       cases hf:da (ltB 0 (AX j)) op (AX j) with
       | false=>simp (maxSteps:=4000000) -implicitDefEqProofs only [c88,Tryz.f88,aP,g0,g1,g2,g3,hli,r5,↓az,e8,e7,eZ,eY,eX,eW,eV,eU,eT,eR,dX,dW,h0',h1',hjj,hkr,m9,sE,mW,↓nk,nt,↓nj,nr,↓nh,h107,hwi,hF,hf,↓ao,an,eu,sevalprocAttr]
       | true =>
         cases hd:da (kD j) d 16 with
         | false=>simp (maxSteps:=4000000) -implicitDefEqProofs only [c88,Tryz.f88,aP,g0,g1,g2,g3,hli,r5,↓az,e8,e7,eZ,eY,eX,eW,eV,eU,eT,eR,dX,dW,h0',h1',hjj,hkr,m9,sE,mW,↓nk,nt,↓nj,nr,↓nh,h107,hwi,hF,hf,hd,↓ao,an,eu,sevalprocAttr]
         | true =>
           cases ha:da (kA j) a 16 with
           | false=>simp (maxSteps:=4000000) -implicitDefEqProofs only [c88,Tryz.f88,aP,g0,g1,g2,g3,hli,r5,↓az,e8,e7,eZ,eY,eX,eW,eV,eU,eT,eR,dX,dW,h0',h1',hjj,hkr,m9,sE,mW,↓nk,nt,↓nj,nr,↓nh,h107,hwi,hF,hf,hd,ha,↓ao,an,eu,sevalprocAttr]
           | true =>
             cases hb:da (kB j) b 16 with
             | false=>simp (maxSteps:=4000000) -implicitDefEqProofs only [c88,Tryz.f88,aP,g0,g1,g2,g3,hli,r5,↓az,e8,e7,eZ,eY,eX,eW,eV,eU,eT,eR,dX,dW,h0',h1',hjj,hkr,m9,sE,mW,↓nk,nt,↓nj,nr,↓nh,h107,hwi,hF,hf,hd,ha,hb,↓ao,an,eu,sevalprocAttr]
             | true =>
               cases hi:A0 c (vD j) (Ck j) (Cf j) (Cj j) (Cg j) imm with
               | false=>simp (maxSteps:=4000000) -implicitDefEqProofs only [c88,Tryz.f88,aP,g0,g1,g2,g3,hli,r5,↓az,e8,e7,eZ,eY,eX,eW,eV,eU,eT,eR,dX,dW,h0',h1',hjj,hkr,m9,sE,mW,↓nk,nt,↓nj,nr,↓nh,h107,hwi,hF,hf,hd,ha,hb,hi,↓ao,an,eu,sevalprocAttr]
               | true =>
                 cases ht:da (kTo j) to c.insns.length with
                 | false=>simp (maxSteps:=4000000) -implicitDefEqProofs only [c88,Tryz.f88,aP,g0,g1,g2,g3,hli,r5,↓az,e8,e7,eZ,eY,eX,eW,eV,eU,eT,eR,dX,dW,h0',h1',hjj,hkr,m9,sE,mW,↓nk,nt,↓nj,nr,↓nh,h107,hwi,hF,hf,hd,ha,hb,hi,ht,↓ao,an,eu,sevalprocAttr]
                 | true =>
                   simp (maxSteps:=4000000) -implicitDefEqProofs only [c88,Tryz.f88,aP,g0,g1,g2,g3,hli,r5,↓az,e8,e7,eZ,eY,eX,eW,eV,eU,eT,eR,dX,dW,h0',h1',hjj,hkr,m9,sE,mW,↓nk,nt,↓nj,nr,↓nh,h107,hwi,hF,hf,hd,ha,hb,hi,ht,↓ao,an,eu,sevalprocAttr]
def opP (k op:Int):Bool:=br (Ci k) (rN op) (da (ltB 0 (AX k)) op (AX k))
theorem YN {k:Int} (h0:0<=k) (h1:k < 16) (op d a b imm to join:Int) (H:AH):Ev aa C0 W0 99 [.agg (eK (⟨k,op,d,a,b,imm,to,join⟩:Ins))] H=some (.bool (opP k op),H):=by
 refine Bl (p:=fun k=>Ev aa C0 W0 99 [.agg (eK (⟨k,op,d,a,b,imm,to,join⟩:Ins))] H=some (.bool (opP k op),H)) h0 h1 ?_ ?_ ?_ ?_ ?_ ?_ ?_ ?_ ?_ ?_ ?_ ?_ ?_ ?_ ?_ ?_
 · obtain ⟨tm,ht,g0,g1⟩:=tm1 (.agg (eK (⟨0,op,d,a,b,imm,to,join⟩:Ins))) 44 (by decide)
   rw [rq,ht]
   rw [<-af (ro H)]
   simp (maxSteps:=4000000) -implicitDefEqProofs only [c99,Tryz.f99,aP,g0,g1,r5,↓az,eqQ,↓lN,lO,↓ao,an,eu,sevalprocAttr]
   first | done | rfl
 · obtain ⟨tm,ht,g0,g1⟩:=tm1 (.agg (eK (⟨1,op,d,a,b,imm,to,join⟩:Ins))) 44 (by decide)
   rw [rq,ht]
   rw [<-af (ro H)]
   simp (maxSteps:=4000000) -implicitDefEqProofs only [c99,Tryz.f99,aP,g0,g1,r5,↓az,eqQ,↓lN,lO,↓ao,an,eu,sevalprocAttr]
   first | done | rfl
 · obtain ⟨tm,ht,g0,g1⟩:=tm1 (.agg (eK (⟨2,op,d,a,b,imm,to,join⟩:Ins))) 44 (by decide)
   rw [rq,ht]
   rw [<-af (ro H)]
   cases hq:leB 0 op <;> simp (maxSteps:=4000000) -implicitDefEqProofs only [c99,Tryz.f99,aP,g0,g1,r5,↓az,eqQ,hq,↓lN,lO,↓ao,an,eu,sevalprocAttr] <;> (show _=some (AV.bool (leB 0 op && _),H); rw [hq]; rfl)
 · obtain ⟨tm,ht,g0,g1⟩:=tm1 (.agg (eK (⟨3,op,d,a,b,imm,to,join⟩:Ins))) 44 (by decide)
   rw [rq,ht]
   rw [<-af (ro H)]
   cases hq:leB 0 op <;> simp (maxSteps:=4000000) -implicitDefEqProofs only [c99,Tryz.f99,aP,g0,g1,r5,↓az,eqQ,hq,↓lN,lO,↓ao,an,eu,sevalprocAttr] <;> (show _=some (AV.bool (leB 0 op && _),H); rw [hq]; rfl)
 · obtain ⟨tm,ht,g0,g1⟩:=tm1 (.agg (eK (⟨4,op,d,a,b,imm,to,join⟩:Ins))) 44 (by decide)
   rw [rq,ht]
   rw [<-af (ro H)]
   cases hq:leB 0 op <;> simp (maxSteps:=4000000) -implicitDefEqProofs only [c99,Tryz.f99,aP,g0,g1,r5,↓az,eqQ,hq,↓lN,lO,↓ao,an,eu,sevalprocAttr] <;> (show _=some (AV.bool (leB 0 op && _),H); rw [hq]; rfl)
 · obtain ⟨tm,ht,g0,g1⟩:=tm1 (.agg (eK (⟨5,op,d,a,b,imm,to,join⟩:Ins))) 44 (by decide)
   rw [rq,ht]
   rw [<-af (ro H)]
   simp (maxSteps:=4000000) -implicitDefEqProofs only [c99,Tryz.f99,aP,g0,g1,r5,↓az,eqQ,↓lN,lO,↓ao,an,eu,sevalprocAttr]
   first | done | rfl
 · obtain ⟨tm,ht,g0,g1⟩:=tm1 (.agg (eK (⟨6,op,d,a,b,imm,to,join⟩:Ins))) 44 (by decide)
   rw [rq,ht]
   rw [<-af (ro H)]
   simp (maxSteps:=4000000) -implicitDefEqProofs only [c99,Tryz.f99,aP,g0,g1,r5,↓az,eqQ,↓lN,lO,↓ao,an,eu,sevalprocAttr]
   first | done | rfl
 · obtain ⟨tm,ht,g0,g1⟩:=tm1 (.agg (eK (⟨7,op,d,a,b,imm,to,join⟩:Ins))) 44 (by decide)
   rw [rq,ht]
   rw [<-af (ro H)]
   simp (maxSteps:=4000000) -implicitDefEqProofs only [c99,Tryz.f99,aP,g0,g1,r5,↓az,eqQ,↓lN,lO,↓ao,an,eu,sevalprocAttr]
   first | done | rfl
 · obtain ⟨tm,ht,g0,g1⟩:=tm1 (.agg (eK (⟨8,op,d,a,b,imm,to,join⟩:Ins))) 44 (by decide)
   rw [rq,ht]
   rw [<-af (ro H)]
   simp (maxSteps:=4000000) -implicitDefEqProofs only [c99,Tryz.f99,aP,g0,g1,r5,↓az,eqQ,↓lN,lO,↓ao,an,eu,sevalprocAttr]
   first | done | rfl
 · obtain ⟨tm,ht,g0,g1⟩:=tm1 (.agg (eK (⟨9,op,d,a,b,imm,to,join⟩:Ins))) 44 (by decide)
   rw [rq,ht]
   rw [<-af (ro H)]
   simp (maxSteps:=4000000) -implicitDefEqProofs only [c99,Tryz.f99,aP,g0,g1,r5,↓az,eqQ,↓lN,lO,↓ao,an,eu,sevalprocAttr]
   first | done | rfl
 · obtain ⟨tm,ht,g0,g1⟩:=tm1 (.agg (eK (⟨10,op,d,a,b,imm,to,join⟩:Ins))) 44 (by decide)
   rw [rq,ht]
   rw [<-af (ro H)]
   simp (maxSteps:=4000000) -implicitDefEqProofs only [c99,Tryz.f99,aP,g0,g1,r5,↓az,eqQ,↓lN,lO,↓ao,an,eu,sevalprocAttr]
   first | done | rfl
 · obtain ⟨tm,ht,g0,g1⟩:=tm1 (.agg (eK (⟨11,op,d,a,b,imm,to,join⟩:Ins))) 44 (by decide)
   rw [rq,ht]
   rw [<-af (ro H)]
   simp (maxSteps:=4000000) -implicitDefEqProofs only [c99,Tryz.f99,aP,g0,g1,r5,↓az,eqQ,↓lN,lO,↓ao,an,eu,sevalprocAttr]
   first | done | rfl
 · obtain ⟨tm,ht,g0,g1⟩:=tm1 (.agg (eK (⟨12,op,d,a,b,imm,to,join⟩:Ins))) 44 (by decide)
   rw [rq,ht]
   rw [<-af (ro H)]
   simp (maxSteps:=4000000) -implicitDefEqProofs only [c99,Tryz.f99,aP,g0,g1,r5,↓az,eqQ,↓lN,lO,↓ao,an,eu,sevalprocAttr]
   first | done | rfl
 · obtain ⟨tm,ht,g0,g1⟩:=tm1 (.agg (eK (⟨13,op,d,a,b,imm,to,join⟩:Ins))) 44 (by decide)
   rw [rq,ht]
   rw [<-af (ro H)]
   simp (maxSteps:=4000000) -implicitDefEqProofs only [c99,Tryz.f99,aP,g0,g1,r5,↓az,eqQ,↓lN,lO,↓ao,an,eu,sevalprocAttr]
   first | done | rfl
 · obtain ⟨tm,ht,g0,g1⟩:=tm1 (.agg (eK (⟨14,op,d,a,b,imm,to,join⟩:Ins))) 44 (by decide)
   rw [rq,ht]
   rw [<-af (ro H)]
   simp (maxSteps:=4000000) -implicitDefEqProofs only [c99,Tryz.f99,aP,g0,g1,r5,↓az,eqQ,↓lN,lO,↓ao,an,eu,sevalprocAttr]
   first | done | rfl
 · obtain ⟨tm,ht,g0,g1⟩:=tm1 (.agg (eK (⟨15,op,d,a,b,imm,to,join⟩:Ins))) 44 (by decide)
   rw [rq,ht]
   rw [<-af (ro H)]
   simp (maxSteps:=4000000) -implicitDefEqProofs only [c99,Tryz.f99,aP,g0,g1,r5,↓az,eqQ,↓lN,lO,↓ao,an,eu,sevalprocAttr]
   first | done | rfl
theorem acr {x:Ins} (h0:0<=x.kind) (h1:x.kind < 16) (H:AH):Ev aa C0 W0 99 [.agg (eK x)] H=some (.bool (opP x.kind x.op),H):=by
 obtain ⟨k,op,d,a,b,imm,to,join⟩:=x
 exact YN h0 h1 op d a b imm to join H
theorem UR {H:AH} {c:Cod} {vp vs vi:AV} (h:eO H c vp vs vi) {k:Int} (h0:0<=k) (h1:k < 16) (op d a b:Int) {imm:Int} (hn:e9 imm) (to join:Int):Ev aa C0 W0 100 [.agg (bI c vp vs vi),.agg (eK (⟨k,op,d,a,b,imm,to,join⟩:Ins))] H=some (.bool (A0 c (vD k) (Ck k) (Cf k) (Cj k) (Cg k) imm),H):=by
 have hn':=hn
 obtain ⟨n0,n1⟩:=hn
 have hlp:=h.ro.lp
 have hls:=h.ro.ls
 have hwn:IntKind.i64.wrap imm=imm:=qZ (by omega)
 have h123:=fun L=>Za (h.ro.bg (au.app _ L)) hn'
 simp only [bI] at h123
 refine Bl (p:=fun k=>Ev aa C0 W0 100 [.agg (bI c vp vs vi),.agg (eK (⟨k,op,d,a,b,imm,to,join⟩:Ins))] H=some (.bool (A0 c (vD k) (Ck k) (Cf k) (Cj k) (Cg k) imm),H)) h0 h1 ?_ ?_ ?_ ?_ ?_ ?_ ?_ ?_ ?_ ?_ ?_ ?_ ?_ ?_ ?_ ?_
 · obtain ⟨tm,ht,g0,g1,g2⟩:=tm2 (.agg (bI c vp vs vi)) (.agg (eK (⟨0,op,d,a,b,imm,to,join⟩:Ins))) 69 (by decide)
   rw [lM,ht]
   rw [<-af (ro H)]
   simp (maxSteps:=4000000) -implicitDefEqProofs only [oW,Tryz.f100,aP,g0,g1,g2,r5,↓az,eqQ,hlp,hls,hwn,↓kG,h123,↓ao,an,eu,sevalprocAttr]
   first | rfl | done
 · obtain ⟨tm,ht,g0,g1,g2⟩:=tm2 (.agg (bI c vp vs vi)) (.agg (eK (⟨1,op,d,a,b,imm,to,join⟩:Ins))) 69 (by decide)
   rw [lM,ht]
   rw [<-af (ro H)]
   simp (maxSteps:=4000000) -implicitDefEqProofs only [oW,Tryz.f100,aP,g0,g1,g2,r5,↓az,eqQ,hlp,hls,hwn,↓kG,h123,↓ao,an,eu,sevalprocAttr]
   first | rfl | done
 · obtain ⟨tm,ht,g0,g1,g2⟩:=tm2 (.agg (bI c vp vs vi)) (.agg (eK (⟨2,op,d,a,b,imm,to,join⟩:Ins))) 69 (by decide)
   rw [lM,ht]
   rw [<-af (ro H)]
   simp (maxSteps:=4000000) -implicitDefEqProofs only [oW,Tryz.f100,aP,g0,g1,g2,r5,↓az,eqQ,hlp,hls,hwn,↓kG,h123,↓ao,an,eu,sevalprocAttr]
   first | rfl | done
 · obtain ⟨tm,ht,g0,g1,g2⟩:=tm2 (.agg (bI c vp vs vi)) (.agg (eK (⟨3,op,d,a,b,imm,to,join⟩:Ins))) 69 (by decide)
   rw [lM,ht]
   rw [<-af (ro H)]
   simp (maxSteps:=4000000) -implicitDefEqProofs only [oW,Tryz.f100,aP,g0,g1,g2,r5,↓az,eqQ,hlp,hls,hwn,↓kG,h123,↓ao,an,eu,sevalprocAttr]
   first | rfl | done
 · obtain ⟨tm,ht,g0,g1,g2⟩:=tm2 (.agg (bI c vp vs vi)) (.agg (eK (⟨4,op,d,a,b,imm,to,join⟩:Ins))) 69 (by decide)
   rw [lM,ht]
   rw [<-af (ro H)]
   simp (maxSteps:=4000000) -implicitDefEqProofs only [oW,Tryz.f100,aP,g0,g1,g2,r5,↓az,eqQ,hlp,hls,hwn,↓kG,h123,↓ao,an,eu,sevalprocAttr]
   first | rfl | done
 · obtain ⟨tm,ht,g0,g1,g2⟩:=tm2 (.agg (bI c vp vs vi)) (.agg (eK (⟨5,op,d,a,b,imm,to,join⟩:Ins))) 69 (by decide)
   rw [lM,ht]
   rw [<-af (ro H)]
   cases h0:leB 0 imm with
   | false =>
     simp (maxSteps:=4000000) -implicitDefEqProofs only [oW,Tryz.f100,aP,g0,g1,g2,r5,↓az,eqQ,hlp,hls,hwn,↓kG,h123,h0,↓ao,an,eu,sevalprocAttr]
     show _=some (AV.bool (leB 0 imm && _ && _),H)
     rw [h0]
     rfl
   | true =>
     cases hl:ltB imm c.params.length with
     | false =>
       simp (maxSteps:=4000000) -implicitDefEqProofs only [oW,Tryz.f100,aP,g0,g1,g2,r5,↓az,eqQ,hlp,hls,hwn,↓kG,h123,h0,hl,↓ao,an,eu,sevalprocAttr]
       show _=some (AV.bool (leB 0 imm && ltB imm c.params.length && _),H)
       rw [h0,hl]
       rfl
     | true =>
       rw [dn] at h0
       obtain ⟨j,rfl⟩:∃ j:Nat,imm=j:=⟨imm.toNat,by omega⟩
       have hj:j < c.params.length:=by have:=(dm _ _).1 hl; omega
       obtain ⟨i,kk,hi,hr0,hr1,hr2,hb⟩:=xF h.ro (au.refl _) hj
       have h0':leB 0 (j:Int)=true:=zN (by omega)
       simp (maxSteps:=4000000) -implicitDefEqProofs only [oW,Tryz.f100,aP,g0,g1,g2,r5,↓az,eqQ,hlp,hls,hwn,↓kG,h123,h0',hl,hi,hr1,↓ao,an,eu,sevalprocAttr]
       show _=some (AV.bool (leB 0 (j:Int) && ltB (j:Int) c.params.length && !iK c j),H)
       rw [h0',hl,hb]
       rfl
 · obtain ⟨tm,ht,g0,g1,g2⟩:=tm2 (.agg (bI c vp vs vi)) (.agg (eK (⟨6,op,d,a,b,imm,to,join⟩:Ins))) 69 (by decide)
   rw [lM,ht]
   rw [<-af (ro H)]
   simp (maxSteps:=4000000) -implicitDefEqProofs only [oW,Tryz.f100,aP,g0,g1,g2,r5,↓az,eqQ,hlp,hls,hwn,↓kG,h123,↓ao,an,eu,sevalprocAttr]
   rfl
 · obtain ⟨tm,ht,g0,g1,g2⟩:=tm2 (.agg (bI c vp vs vi)) (.agg (eK (⟨7,op,d,a,b,imm,to,join⟩:Ins))) 69 (by decide)
   rw [lM,ht]
   rw [<-af (ro H)]
   simp (maxSteps:=4000000) -implicitDefEqProofs only [oW,Tryz.f100,aP,g0,g1,g2,r5,↓az,eqQ,hlp,hls,hwn,↓kG,h123,↓ao,an,eu,sevalprocAttr]
   rfl
 · obtain ⟨tm,ht,g0,g1,g2⟩:=tm2 (.agg (bI c vp vs vi)) (.agg (eK (⟨8,op,d,a,b,imm,to,join⟩:Ins))) 69 (by decide)
   rw [lM,ht]
   rw [<-af (ro H)]
   simp (maxSteps:=4000000) -implicitDefEqProofs only [oW,Tryz.f100,aP,g0,g1,g2,r5,↓az,eqQ,hlp,hls,hwn,↓kG,h123,↓ao,an,eu,sevalprocAttr]
   rfl
 · obtain ⟨tm,ht,g0,g1,g2⟩:=tm2 (.agg (bI c vp vs vi)) (.agg (eK (⟨9,op,d,a,b,imm,to,join⟩:Ins))) 69 (by decide)
   rw [lM,ht]
   rw [<-af (ro H)]
   cases h0:leB 0 imm <;> simp (maxSteps:=4000000) -implicitDefEqProofs only [oW,Tryz.f100,aP,g0,g1,g2,r5,↓az,eqQ,hlp,hls,hwn,↓kG,h123,h0,↓ao,an,eu,sevalprocAttr] <;> first | rfl | (show _=some (AV.bool (leB 0 imm && _),H); rw [h0]; rfl)
 · obtain ⟨tm,ht,g0,g1,g2⟩:=tm2 (.agg (bI c vp vs vi)) (.agg (eK (⟨10,op,d,a,b,imm,to,join⟩:Ins))) 69 (by decide)
   rw [lM,ht]
   rw [<-af (ro H)]
   cases h0:leB 0 imm <;> simp (maxSteps:=4000000) -implicitDefEqProofs only [oW,Tryz.f100,aP,g0,g1,g2,r5,↓az,eqQ,hlp,hls,hwn,↓kG,h123,h0,↓ao,an,eu,sevalprocAttr] <;> first | rfl | (show _=some (AV.bool (leB 0 imm && _),H); rw [h0]; rfl)
 · obtain ⟨tm,ht,g0,g1,g2⟩:=tm2 (.agg (bI c vp vs vi)) (.agg (eK (⟨11,op,d,a,b,imm,to,join⟩:Ins))) 69 (by decide)
   rw [lM,ht]
   rw [<-af (ro H)]
   cases h0:leB 0 imm <;> simp (maxSteps:=4000000) -implicitDefEqProofs only [oW,Tryz.f100,aP,g0,g1,g2,r5,↓az,eqQ,hlp,hls,hwn,↓kG,h123,h0,↓ao,an,eu,sevalprocAttr] <;> first | rfl | (show _=some (AV.bool (leB 0 imm && _),H); rw [h0]; rfl)
 · obtain ⟨tm,ht,g0,g1,g2⟩:=tm2 (.agg (bI c vp vs vi)) (.agg (eK (⟨12,op,d,a,b,imm,to,join⟩:Ins))) 69 (by decide)
   rw [lM,ht]
   rw [<-af (ro H)]
   cases h0:leB 0 imm <;> simp (maxSteps:=4000000) -implicitDefEqProofs only [oW,Tryz.f100,aP,g0,g1,g2,r5,↓az,eqQ,hlp,hls,hwn,↓kG,h123,h0,↓ao,an,eu,sevalprocAttr] <;> first | rfl | (show _=some (AV.bool (leB 0 imm && _),H); rw [h0]; rfl)
 · obtain ⟨tm,ht,g0,g1,g2⟩:=tm2 (.agg (bI c vp vs vi)) (.agg (eK (⟨13,op,d,a,b,imm,to,join⟩:Ins))) 69 (by decide)
   rw [lM,ht]
   rw [<-af (ro H)]
   simp (maxSteps:=4000000) -implicitDefEqProofs only [oW,Tryz.f100,aP,g0,g1,g2,r5,↓az,eqQ,hlp,hls,hwn,↓kG,h123,↓ao,an,eu,sevalprocAttr]
   first | rfl | done
 · obtain ⟨tm,ht,g0,g1,g2⟩:=tm2 (.agg (bI c vp vs vi)) (.agg (eK (⟨14,op,d,a,b,imm,to,join⟩:Ins))) 69 (by decide)
   rw [lM,ht]
   rw [<-af (ro H)]
   simp (maxSteps:=4000000) -implicitDefEqProofs only [oW,Tryz.f100,aP,g0,g1,g2,r5,↓az,eqQ,hlp,hls,hwn,↓kG,h123,↓ao,an,eu,sevalprocAttr]
   first | rfl | done
 · obtain ⟨tm,ht,g0,g1,g2⟩:=tm2 (.agg (bI c vp vs vi)) (.agg (eK (⟨15,op,d,a,b,imm,to,join⟩:Ins))) 69 (by decide)
   rw [lM,ht]
   rw [<-af (ro H)]
   simp (maxSteps:=4000000) -implicitDefEqProofs only [oW,Tryz.f100,aP,g0,g1,g2,r5,↓az,eqQ,hlp,hls,hwn,↓kG,h123,↓ao,an,eu,sevalprocAttr]
   first | rfl | done
theorem Ca (n l:Int):ltB n (l+1)=leB n l:=by rw [Bool.eq_iff_iff,dm,dn]; omega
theorem PS (c:Cod) (k op d a b imm to join:Int) (h0:leB 0 k=true) (h1:ltB k 16=true):tw c ⟨k,op,d,a,b,imm,to,join⟩=(da (kD k) d 16 && da (kA k) a 16 && da (kB k) b 16 && opP k op && A0 c (vD k) (Ck k) (Cf k) (Cj k) (Cg k) imm && da (kTo k) to c.insns.length && da (Ch k) join (c.insns.length+1)):=by
 unfold tw opP
 simp only [h0,h1,bd]
 cases br (Ci k) (rN op) (da (ltB 0 (AX k)) op (AX k)) <;> cases da (kD k) d 16 <;> cases da (kA k) a 16 <;> cases da (kB k) b 16 <;> simp
theorem acI {H:AH} {c:Cod} {vp vs vi:AV} (h:eO H c vp vs vi) {x:Ins} (hx:e9 x.imm):Ev aa C0 W0 67 [.agg (bI c vp vs vi),.agg (eK x)] H=some (.bool (tw c x),H):=by
 obtain ⟨tm,ht,g0,g1,g2⟩:=tm2 (.agg (bI c vp vs vi)) (.agg (eK x)) 95 (by decide)
 rw [abo,ht]
 rw [<-af (ro H)]
 obtain ⟨kind,op,d,a,b,imm,to,join⟩:=x
 simp only at hx ⊢
 have hli:=h.ro.li
 have hib:=h.ni
 have hle:=Ca join c.insns.length
 cases h0:leB 0 kind with
 | false =>
   have h0':ltB kind 0=true:=by rw [dm]; rw [mG] at h0; exact h0
   unfold tw
   simp only [h0,bc]
   simp (maxSteps:=4000000) -implicitDefEqProofs only [c67,Tryz.f67,aP,g0,g1,g2,r5,↓az,hli,h0',↓ao,an,eu,sevalprocAttr]
 | true =>
   have h0':ltB kind 0=false:=by rw [fS]; rw [dn] at h0; exact h0
   cases h1:ltB kind 16 with
   | false =>
     have h1':leB 16 kind=true:=by rw [dn]; rw [fS] at h1; exact h1
     unfold tw
     simp only [h1,bc,gk]
     simp (maxSteps:=4000000) -implicitDefEqProofs only [c67,Tryz.f67,aP,g0,g1,g2,r5,↓az,hli,h0',h1',↓ao,an,eu,sevalprocAttr]
   | true =>
     have h1':leB 16 kind=false:=by rw [mG]; rw [dm] at h1; exact h1
     rw [PS c _ _ _ _ _ _ _ _ h0 h1]
     rw [dn] at h0
     rw [dm] at h1
     have h97:=fun H=>acs h0 h1 H
     have h99:=fun H=>acr (x:=⟨kind,op,d,a,b,imm,to,join⟩) h0 h1 H
     have h100:=fun L=>UR (h.ro.bg (au.app _ L)) h0 h1 op d a b hx to join
     simp only [eK,bI] at h99 h100
     have hto:da (kTo kind) to c.insns.length=br (eqB kind 13) (leB 0 to && ltB to c.insns.length) (br (eqB kind 14) (leB 0 to && ltB to c.insns.length) (eqB to 0)):=by
       unfold da kTo
       cases eqB kind 13 <;> cases eqB kind 14 <;> rfl
     have hjo:da (Ch kind) join (c.insns.length+1)=br (eqB kind 14) (leB 0 join && leB join c.insns.length) (eqB join 0):=by
       unfold da Ch
       rw [Ca]
     rw [hto,hjo]
     cases hd:da (kD kind) d 16 with
     | false =>
       simp only [bc,gk]
       cases e13:eqB kind 13 <;> cases e14:eqB kind 14 <;> cases t0:leB 0 to <;> cases j0:leB 0 join <;> simp (maxSteps:=4000000) -implicitDefEqProofs only [c67,Tryz.f67,aP,g0,g1,g2,hli,hle,h97,h99,h100,↓HQ,↓HP,HV,↓HO,↓Ab,r5,↓az,h0',h1',hd,e13,e14,t0,j0,↓ao,an,eu,sevalprocAttr]
     | true =>
       cases ha:da (kA kind) a 16 with
       | false =>
         simp only [bc,gk]
         cases e13:eqB kind 13 <;> cases e14:eqB kind 14 <;> cases t0:leB 0 to <;> cases j0:leB 0 join <;> simp (maxSteps:=4000000) -implicitDefEqProofs only [c67,Tryz.f67,aP,g0,g1,g2,hli,hle,h97,h99,h100,↓HQ,↓HP,HV,↓HO,↓Ab,r5,↓az,h0',h1',hd,ha,e13,e14,t0,j0,↓ao,an,eu,sevalprocAttr]
       | true =>
         cases hb:da (kB kind) b 16 with
         | false =>
           simp only [bc,gk]
           cases e13:eqB kind 13 <;> cases e14:eqB kind 14 <;> cases t0:leB 0 to <;> cases j0:leB 0 join <;> simp (maxSteps:=4000000) -implicitDefEqProofs only [c67,Tryz.f67,aP,g0,g1,g2,hli,hle,h97,h99,h100,↓HQ,↓HP,HV,↓HO,↓Ab,r5,↓az,h0',h1',hd,ha,hb,e13,e14,t0,j0,↓ao,an,eu,sevalprocAttr]
         | true =>
           cases ho:opP kind op with
           | false =>
             simp only [bc,gk]
             cases e13:eqB kind 13 <;> cases e14:eqB kind 14 <;> cases t0:leB 0 to <;> cases j0:leB 0 join <;> simp (maxSteps:=4000000) -implicitDefEqProofs only [c67,Tryz.f67,aP,g0,g1,g2,hli,hle,h97,h99,h100,↓HQ,↓HP,HV,↓HO,↓Ab,r5,↓az,h0',h1',hd,ha,hb,ho,e13,e14,t0,j0,↓ao,an,eu,sevalprocAttr]
           | true =>
             cases hi:A0 c (vD kind) (Ck kind) (Cf kind) (Cj kind) (Cg kind) imm with
             | false =>
               simp only [bc,gk]
               cases e13:eqB kind 13 <;> cases e14:eqB kind 14 <;> cases t0:leB 0 to <;> cases j0:leB 0 join <;> simp (maxSteps:=4000000) -implicitDefEqProofs only [c67,Tryz.f67,aP,g0,g1,g2,hli,hle,h97,h99,h100,↓HQ,↓HP,HV,↓HO,↓Ab,r5,↓az,h0',h1',hd,ha,hb,ho,hi,e13,e14,t0,j0,↓ao,an,eu,sevalprocAttr]
             | true =>
               cases e13:eqB kind 13 <;> cases e14:eqB kind 14 <;> cases t0:leB 0 to <;> cases j0:leB 0 join <;> simp (maxSteps:=4000000) -implicitDefEqProofs only [c67,Tryz.f67,aP,g0,g1,g2,hli,hle,h97,h99,h100,↓HQ,↓HP,HV,↓HO,↓Ab,r5,↓az,h0',h1',hd,ha,hb,ho,hi,e13,e14,t0,j0,↓ao,an,eu,sevalprocAttr] <;> first | (cases eqB to 0 <;> rfl) | (cases ltB to c.insns.length <;> rfl)
def mL (c:Cod) (j:Nat):Ins:=c.insns.getD j ⟨0,0,0,0,0,0,0,0⟩
theorem Cm {c:Cod} {j:Nat} (h:j < c.insns.length):mL c j=c.insns[j]'h:=by
 unfold mL
 rw [gde,aj h]; rfl
theorem KQ {H:AH} {c:Cod} {vp vs vi:AV} (h:eO H c vp vs vi) {j:Nat} (hj:j < c.insns.length):e9 (mL c j).imm:=by
 rw [Cm hj]; exact h.im _ (List.getElem_mem _)
theorem AZ {H K:AH} {c:Cod} {vp vs vi:AV} (h:eO H c vp vs vi) (hA:au H K) {j:Nat} (hj:j < c.insns.length):∃ i k,(∀ kk,aD aa 64 vi (.int kk (j:Int))=some (.ptr i k))/\(∀ L,ak (K++L) i k 1=some [I (mL c j).kind])/\(∀ L,ak (K++L) i k 8=some (eK (mL c j))):=by
 rw [Cm hj]
 obtain ⟨i,k,hi,hr⟩:=h.i.ix j (eK (c.insns[j]'hj)) (by rw [List.getElem?_map,aj hj]; rfl)
 exact ⟨i,k,hi,fun L=>zA hr hA L rfl,fun L=>iZ hr hA L⟩
theorem Re (H:AH) (i k:Nat):ldA aa 153 H i k=(ak H i k 192).map .agg:=by kernel_rfl
def yd (c:Cod):Int:=(mL c (c.insns.length - 1)).kind
def FG (c:Cod):Bool:=eqB (yd c) 15 || eqB (yd c) 13
def allI (c:Cod):Bool:=cd (fun j=>tw c (mL c j)) c.insns.length 0
def jL (c:Cod):Bool:=zW c && !ltB (c.insns.length:Int) 1 && !ltB 2000 (c.insns.length:Int) && FG c && allI c
theorem Fb {G:AH} {c:Cod} {vp vs vi:AV} {q kb:Nat} (h:eO G c vp vs vi) (hq:G[q]? =some (.cells (bI c vp vs vi) 66)) (hkb:G[kb]? =some (.cells gG 153)) (hN:c.insns.length < 2 ^ 60):∀ (d j:Nat) (tm:List AV) (K:AH) (Z:Option (bs × St)),EvC aa C0 W0 plN Ru (tm,K)=Z->c.insns.length - j=d->j<=c.insns.length->au G K->tm.length=49->tm.getD 1 uA=.ptr q 0->tm.getD 5 uA=.ptr kb 0->tm.getD 37 uA=vi->tm.getD 38 uA=I c.insns.length->tm.getD 39 uA=I ((j:Nat):Int) ->
   ∃ X Y K1 K2,Z=br (cd (fun j=>tw c (mL c j)) (c.insns.length) (j)) (some (.exit 0,(X,K1))) (some (.ret,(Y,K2)))/\(X.length=49/\au G K1/\X.getD 1 uA=.ptr q 0/\X.getD 5 uA=.ptr kb 0/\X.getD 37 uA=vi/\X.getD 38 uA=I c.insns.length)/\Y.length=49/\Y.getD 2 uA=.bool false:=by
 intro d
 induction d with
 | zero =>
   intro j tm K Z hZ hd hj hA hlen h1 h5 h37 h38 h39
   subst hZ
   have hjl:j=c.insns.length:=by omega
   subst hjl
   have hlt:ltB (((c.insns.length:Nat)):Int) (c.insns.length:Nat)=false:=cH (by omega)
   rw [di (ax _),Md]
   simp (maxSteps:=4000000) -implicitDefEqProofs only [C6,Tryz.f59,aP,hlen,h1,h5,h37,h38,h39,hlt,↓ao,an,eu,sevalprocAttr]
   exact ⟨_,tm.set 2 (.bool false),_,K,rfl,⟨by first | exact hlen | simp only [List.length_set,hlen],hA,by first | exact h1 | simp only [hlen,h1,gB,sevalprocAttr],by first | exact h5 | simp only [hlen,h5,gB,sevalprocAttr],by first | exact h37 | simp only [hlen,h37,gB,sevalprocAttr],by first | exact h38 | simp only [hlen,h38,gB,sevalprocAttr]⟩,by simp only [ls,hlen],by simp only [hlen,dv,Nat.reduceLT]⟩
 | succ d ih =>
   intro j tm K Z hZ hd hj hA hlen h1 h5 h37 h38 h39
   subst hZ
   have hjN:j < c.insns.length:=by omega
   have hlt:ltB (j:Int) (c.insns.length:Nat)=true:=cD (by omega)
   have hw:=cp (j:=j) (by omega)
   obtain ⟨i,k,hix,hrd0,hrd2⟩:=AZ h hA hjN
   have h88:=fun L=>acx ((h.bg hA).bg (au.app K L)) (KQ h hjN)
   have hbq:∀ L,ak (K++L) q 0 5=some (bI c vp vs vi):=fun L=>eL (hA.get hq) L 0 5
   have hbk:∀ L,ak (K++L) kb 0 192=some gG:=fun L=>eL (hA.get hkb) L 0 192
   simp only [eK,bI] at h88
   rw [cI hjN,Md]
   rw [<-af K]
   cases hp:(tw c (mL c j)) with
   | true =>
     simp only [bd]
     simp (maxSteps:=4000000) -implicitDefEqProofs only [C6,Tryz.f59,aP,hlen,h1,h5,h37,h38,h39,hlt,hw,hix,hrd2,hbq,hbk,↓Ym,h88,z80,Wr,Re,hp,r5,↓az,↓ao,an,eu,sevalprocAttr]
     exact ih (j+1) _ _ _ rfl (by omega) (by omega) (by first | exact hA | exact hA.bS _ | exact (hA.bS _).bS _) (by simp only [ls,hlen]) (by simp only [hlen,h1,gB,sevalprocAttr]) (by simp only [hlen,h5,gB,sevalprocAttr]) (by simp only [hlen,h37,gB,sevalprocAttr]) (by simp only [hlen,h38,gB,sevalprocAttr]) (by simp only [hlen,h39,gB,sevalprocAttr])
   | false =>
     simp only [bc]
     simp (maxSteps:=4000000) -implicitDefEqProofs only [C6,Tryz.f59,aP,hlen,h1,h5,h37,h38,h39,hlt,hw,hix,hrd2,hbq,hbk,↓Ym,h88,z80,Wr,Re,hp,r5,↓az,↓ao,an,eu,sevalprocAttr]
     exact ⟨tm,_,K,_,rfl,⟨hlen,hA,h1,h5,h37,h38⟩,by simp only [ls,hlen],by simp only [hlen,gB,sevalprocAttr]⟩
theorem acO {H:AH} {c:Cod} {vp vs vi:AV} (h:eO H c vp vs vi):Ev aa C0 W0 59 [.agg (bI c vp vs vi)] H=some (.bool (jL c),H):=by
 obtain ⟨tm,ht,g0,g1⟩:=tm1 (.agg (bI c vp vs vi)) 49 (by decide)
 rw [abv,ht]
 rw [<-af (ro H)]
 unfold jL
 have hli:=h.ro.li
 have hib:=h.ni
 have h86:=fun L=>acy (h.ro.bg (au.app (ro H) L))
 simp only [bI] at h86
 have hst:stA aa 153 (ro H++[bl.cells [AV.str c.name,vp,vs,I c.loc,vi] 66,bl.cells Iy 153]) ((ro H).length+1) 0 (.agg gG)=some (ro H++[bl.cells [AV.str c.name,vp,vs,I c.loc,vi] 66,bl.cells gG 153]):=by
   rw [Wt,if_pos (show (AV.agg gG).cells.length=192 from rfl)]
   exact IA (ro H) [bl.cells [AV.str c.name,vp,vs,I c.loc,vi] 66] 1 [] Iy gG 153 rfl rfl rfl
 cases h0:zW c with
 | false=>simp (maxSteps:=4000000) -implicitDefEqProofs only [c59,Tryz.f59,aP,g0,g1,hli,↓HS,h86,↓HR,nX,GU,hst,r5,↓az,h0,↓ao,an,eu,sevalprocAttr]
 | true =>
   cases h1:ltB (c.insns.length:Int) 1 with
   | true=>simp (maxSteps:=4000000) -implicitDefEqProofs only [c59,Tryz.f59,aP,g0,g1,hli,↓HS,h86,↓HR,nX,GU,hst,r5,↓az,h0,h1,↓ao,an,eu,sevalprocAttr]
   | false =>
     cases h2:ltB 2000 (c.insns.length:Int) with
     | true=>simp (maxSteps:=4000000) -implicitDefEqProofs only [c59,Tryz.f59,aP,g0,g1,hli,↓HS,h86,↓HR,nX,GU,hst,r5,↓az,h0,h1,h2,↓ao,an,eu,sevalprocAttr]
     | false =>
       have hn1:1<=c.insns.length:=by rw [fS] at h1; omega
       have hw1:IntKind.i64.wrap ((c.insns.length:Int) - 1)=((c.insns.length - 1:Nat):Int):=by rw [qZ (by omega)]; omega
       obtain ⟨i,k,hix,hrd0,hrd2⟩:=AZ h.ro (au.refl _) (j:=c.insns.length - 1) (by omega)
       have hlk:(mL c (c.insns.length - 1)).kind=yd c:=rfl
       rw [hlk] at hrd0
       unfold FG
       have hG:eO (ro H++[bl.cells (bI c vp vs vi) 66,bl.cells gG 153]) c vp vs vi:=h.ro.bg (au.app _ _)
       have hq:(ro H++[bl.cells (bI c vp vs vi) 66,bl.cells gG 153])[(ro H).length]? =some (.cells (bI c vp vs vi) 66):=by rw [al (ax _),dR]; rfl
       have hkb:(ro H++[bl.cells (bI c vp vs vi) 66,bl.cells gG 153])[(ro H).length+1]? =some (.cells gG 153):=by rw [al (du _ _),aS]; rfl
       cases e15:eqB (yd c) 15 with
       | true =>
         simp (maxSteps:=4000000) -implicitDefEqProofs only [c59,Tryz.f59,aP,g0,g1,hli,↓HS,h86,↓HR,nX,GU,hst,r5,↓az,h0,h1,h2,hw1,hix,hrd0,e15,↓ao,an,eu,sevalprocAttr]
         generalize hX:EvC aa C0 W0 _ (Code.loop _) _=Z
         obtain ⟨X,Y,K1,K2,he,xs,y0,y1⟩:=Fb hG hq hkb (dI h.ni (by decide)) _ 0 _ _ _ hX rfl (Nat.zero_le _) (au.refl _) (by simp only [ls,g0]) (by simp only [g0,gB,sevalprocAttr]; try rfl) (by simp only [g0,gB,sevalprocAttr]; try rfl) (by simp only [g0,gB,sevalprocAttr]; try rfl) (by simp only [g0,gB,sevalprocAttr]; try rfl) (by simp only [g0,gB,sevalprocAttr]; try rfl)
         subst he
         simp (maxSteps:=4000000) +contextual -implicitDefEqProofs only [xs.1,y0,y1,↓ao,an,eu,sevalprocAttr]
         unfold allI
         cases cd (fun j=>tw c (mL c j)) c.insns.length 0 <;> rfl
       | false =>
         cases e13:eqB (yd c) 13 with
         | true =>
           simp (maxSteps:=4000000) -implicitDefEqProofs only [c59,Tryz.f59,aP,g0,g1,hli,↓HS,h86,↓HR,nX,GU,hst,r5,↓az,h0,h1,h2,hw1,hix,hrd0,e15,e13,↓ao,an,eu,sevalprocAttr]
           generalize hX:EvC aa C0 W0 _ (Code.loop _) _=Z
           obtain ⟨X,Y,K1,K2,he,xs,y0,y1⟩:=Fb hG hq hkb (dI h.ni (by decide)) _ 0 _ _ _ hX rfl (Nat.zero_le _) (au.refl _) (by simp only [ls,g0]) (by simp only [g0,gB,sevalprocAttr]; try rfl) (by simp only [g0,gB,sevalprocAttr]; try rfl) (by simp only [g0,gB,sevalprocAttr]; try rfl) (by simp only [g0,gB,sevalprocAttr]; try rfl) (by simp only [g0,gB,sevalprocAttr]; try rfl)
           subst he
           simp (maxSteps:=4000000) +contextual -implicitDefEqProofs only [xs.1,y0,y1,↓ao,an,eu,sevalprocAttr]
           unfold allI
           cases cd (fun j=>tw c (mL c j)) c.insns.length 0 <;> rfl
         | false=>simp (maxSteps:=4000000) -implicitDefEqProofs only [c59,Tryz.f59,aP,g0,g1,hli,↓HS,h86,↓HR,nX,GU,hst,r5,↓az,h0,h1,h2,hw1,hix,hrd0,e15,e13,↓ao,an,eu,sevalprocAttr]
end Go.Dv
