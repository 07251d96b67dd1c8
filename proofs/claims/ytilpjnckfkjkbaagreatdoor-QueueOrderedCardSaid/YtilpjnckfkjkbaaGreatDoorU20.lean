/- Part 20 of the walks (own work). -/
import Derived.Test.YtilpjnckfkjkbaaGreatDoorU19
open Bool renaming and_false→gx,false_and→bd,true_and→bf
open List renaming append_assoc→aD,append_nil→af,getElem?_append_right→al,getElem?_eq_getElem→aj,length_append→ai
open Nat renaming add_sub_cancel_left→aN,le_add_right→dI,le_refl→aw,lt_trans→dZ,sub_self→d9,zero_le→aV
open Go.Proofs.Tryz renaming prog→aa
set_option maxRecDepth 100000
set_option maxHeartbeats 4000000
set_option linter.unusedSimpArgs false
set_option linter.unusedVariables false
open Go.Proofs.Tryz (f100 f59 f67 f86 f88 f99)
namespace Go.Dv
open Go.Proofs
attribute [local congr] aA bC aT bB bD
def Ad (c:Cod):Bool:=lR c.name && !ltB 6 (c.params.length:Int) && !ltB 4 (c.shared.length:Int) && !ltB c.loc 0 && !ltB 64 c.loc && ck (fun j=>zy c j) c.params.length 0 && ck (fun j=>zt c j) c.shared.length 0
theorem WC {G K L:AH} {cs:List AV} {e:TypeId} (hA:an (G++[.cells cs e]) K) (k n:Nat):ak (K++L) G.length k n=if k+n<=cs.length then some ((cs.drop k).take n) else none:=by refine eU (e:=e) (hA.get (i:=G.length) (o:=.cells cs e) ?_) L k n;rw [al (aw _),d9]; rfl
theorem aec {H:AH} {c:Cod} {vp vs vi:AV} (h:eW H c vp vs vi):Ev aa C0 W0 86 [.agg (bO c vp vs vi)] H=some (.bool (Ad c),H):=by
 obtain ⟨tm,ht,g0,g1⟩:=tm1 (.agg (bO c vp vs vi)) 87 (by decide);rw [acA,ht];rw [<-af (ro H)];unfold Ad;have hlp:=h.ro.lp;have hls:=h.ro.ls;have h104:=fun L=>MX h.nm L;cases h0:lR c.name with
 | false=>simp (maxSteps:=4000000) -implicitDefEqProofs only [c86,f86,aP,g0,g1,hlp,hls,↓nC,h104,r5,↓ba,h0,↓aG,aF,eu,sevalprocAttr]
 | true =>
   cases h1:ltB 6 (c.params.length:Int) with
   | true=>simp (maxSteps:=4000000) -implicitDefEqProofs only [c86,f86,aP,g0,g1,hlp,hls,↓nC,h104,r5,↓ba,h0,h1,↓aG,aF,eu,sevalprocAttr]
   | false =>
     cases h2:ltB 4 (c.shared.length:Int) with
     | true=>simp (maxSteps:=4000000) -implicitDefEqProofs only [c86,f86,aP,g0,g1,hlp,hls,↓nC,h104,r5,↓ba,h0,h1,h2,↓aG,aF,eu,sevalprocAttr]
     | false =>
       cases h3:ltB c.loc 0 with
       | true=>simp (maxSteps:=4000000) -implicitDefEqProofs only [c86,f86,aP,g0,g1,hlp,hls,↓nC,h104,r5,↓ba,h0,h1,h2,h3,↓aG,aF,eu,sevalprocAttr]
       | false =>
         cases h4:ltB 64 c.loc with
         | true=>simp (maxSteps:=4000000) -implicitDefEqProofs only [c86,f86,aP,g0,g1,hlp,hls,↓nC,h104,r5,↓ba,h0,h1,h2,h3,h4,↓aG,aF,eu,sevalprocAttr]
         | false =>
           simp (maxSteps:=4000000) -implicitDefEqProofs only [c86,f86,aP,g0,g1,hlp,hls,↓nC,h104,r5,↓ba,h0,h1,h2,h3,h4,↓aG,aF,eu,sevalprocAttr];have hG:an (ro H++[bm.cells (bO c vp vs vi) 66]) (ro H++[bm.cells (bO c vp vs vi) 66,bm.map [] 0]):=by have:=an.app (ro H++[bm.cells (bO c vp vs vi) 66]) [bm.map [] 0];rwa [aD] at this
           have hR:=h.ro.aZ (an.app (ro H) [bm.cells (bO c vp vs vi) 66]);have hm:(ro H++[bm.cells (bO c vp vs vi) 66]).length<=(ro H).length+1:=by rw [ai]; exact aw _
           have hI0:(ro H++[bm.cells (bO c vp vs vi) 66,bm.map [] 0])[(ro H).length+1]? =some (.map (py ((pNs c).take 0)) ((pNs c).take 0).length):=by rw [al (dI _ _),aN]; rfl
           generalize hX:EvC aa C0 W0 _ (Code.loop _) _=Z;obtain ⟨X,Y,K1,K2,he,xs,y0,y1⟩:=Q9 (q:=(ro H).length) hR hm (dZ h.np (by decide)) _ 0 _ _ _ hX rfl (aV _) (hG) (by simp only [ls,g0]) hI0 (by simp only [g0,gB,sevalprocAttr]; try rfl) (by simp only [g0,gB,sevalprocAttr]; try rfl) (by simp only [g0,gB,sevalprocAttr]; try rfl) (by simp only [g0,gB,sevalprocAttr]; try rfl) (by simp only [g0,gB,sevalprocAttr]; try rfl);subst he;cases hf:ck (fun j=>zy c j) c.params.length 0 with
           | false=>simp (maxSteps:=4000000) -implicitDefEqProofs only [xs.1,y0,y1,hf,↓aG,aF,eu,sevalprocAttr]
           | true =>
             have hI1:=xs.2.2.1 hf;rw [List.take_of_length_le (by rw [k8]; exact aw _)] at hI1;have hb:=fun k n=>WC (L:=[]) xs.2.1 k n;simp only [af] at hb;obtain ⟨x0,xA,xI,x1,x3,x4,x5⟩:=xs;have hI2:K1[(ro H).length+1]? =some (.map (py (pNs c++(sNs c).take 0)) (pNs c++(sNs c).take 0).length):=by rw [List.take_zero,af]; exact hI1
             simp (maxSteps:=4000000) -implicitDefEqProofs only [aP,hf,x0,x1,x3,hb,hls,r5,↓ba,↓aG,aF,eu,sevalprocAttr];generalize hX:EvC aa C0 W0 _ (Code.loop _) _=Z;obtain ⟨X2,Y2,K3,K4,he,xs,z0,z1⟩:=Q8 hR hm (dZ h.ns (by decide)) _ 0 _ _ _ hX rfl (aV _) (xA) (by simp only [ls,x0]) hI2 (by simp only [x0,x3,gB,sevalprocAttr]; try rfl) (by simp only [x0,gB,sevalprocAttr]; try rfl) (by simp only [x0,gB,sevalprocAttr]; try rfl) (by simp only [x0,gB,sevalprocAttr]; try rfl);subst he;cases hf2:ck (fun j=>zt c j) c.shared.length 0 with
             | false=>simp (maxSteps:=4000000) -implicitDefEqProofs only [xs.1,z0,z1,hf2,↓aG,aF,eu,sevalprocAttr]
             | true=>simp (maxSteps:=4000000) -implicitDefEqProofs only [xs.1,z0,z1,hf2,↓aG,aF,eu,sevalprocAttr]
theorem Jq (H A:AH) (n:Nat) (L:AH) (cs vs:List AV) (e:TypeId) (hn:A.length=n) (hl:vs.length=cs.length) (ho:vs.all AV.one=true):bj (H++(A++.cells cs e::L)) (H.length+n) 0 vs=some (H++(A++.cells vs e::L)):=by subst hn;rw [<-aD,<-aD,<-ai];exact Pa (H++A) L cs vs e hl ho
theorem aeb {H:AH} {c:Cod} {vp vs vi:AV} (h:eW H c vp vs vi) {x:Ins} (hx:fk x.imm):Ev aa C0 W0 88 [.agg (bO c vp vs vi),.agg (eQ x),.agg gN] H=some (.bool (tG c x),H):=by
 obtain ⟨tm,ht,g0,g1,g2,g3⟩:=tm3 (.agg (bO c vp vs vi)) (.agg (eQ x)) (.agg gN) 93 (by decide);rw [acz,ht];rw [<-af (ro H)];obtain ⟨kind,op,d,a,b,imm,to,join⟩:=x;unfold tG;simp only at hx ⊢;have hli:=h.ro.li;have hib:=h.ni;have hwi:IntKind.i64.wrap ((c.insns.length:Int)+1)=(c.insns.length:Int)+1:=pw (by omega);have h107:=fun L fd fa fb far ff fbr fl fp fw ft fj fo=>aay (h.ro.aZ (an.app _ L)) fd fa fb far ff fbr fl fp fw ft fj fo hx;simp only [bO] at h107;cases h0:leB 0 kind with
 | false =>
   have h0':ltB kind 0=true:=by rw [dB]; rw [oh] at h0; exact h0
   simp (maxSteps:=4000000) -implicitDefEqProofs only [c88,f88,aP,g0,g1,g2,g3,hli,r5,↓ba,fi,fh,fg,fe,fc,e9,e8,e7,eZ,eY,eh,eg,h0',↓aG,aF,eu,sevalprocAttr]
 | true =>
   have h0':ltB kind 0=false:=by rw [fZ]; rw [dC] at h0; exact h0
   cases h1:ltB kind 16 with
   | false =>
     have h1':leB 16 kind=true:=by rw [dC]; rw [fZ] at h1; exact h1
     simp (maxSteps:=4000000) -implicitDefEqProofs only [c88,f88,aP,g0,g1,g2,g3,hli,r5,↓ba,fi,fh,fg,fe,fc,e9,e8,e7,eZ,eY,eh,eg,h0',h1',↓aG,aF,eu,sevalprocAttr]
   | true =>
     have h1':leB 16 kind=false:=by rw [oh]; rw [dB] at h1; exact h1
     rw [dC] at h0;rw [dB] at h1;obtain ⟨j,rfl⟩:∃ j:Nat,kind=j:=⟨kind.toNat,by omega⟩;have hj:j < 16:=by omega
     have hjj:((0:Int)<=(j:Int)/\(j:Int) < 16)=True:=eq_true (by omega);have hkr:=fun A B L=>LW (ro H) L A B hj;simp only [UG] at hkr;cases hF:CF j with
     | true =>
       cases hf:rX op with
       | false=>simp (maxSteps:=4000000) -implicitDefEqProofs only [c88,f88,aP,g0,g1,g2,g3,hli,r5,↓ba,fi,fh,fg,fe,fc,e9,e8,e7,eZ,eY,eh,eg,h0',h1',hjj,hkr,nw,sL,ng,↓nB,nF,↓nA,nE,↓nz,h107,hwi,hF,hf,↓aG,aF,eu,sevalprocAttr]
       | true =>
         cases hd:dr (kD j) d 16 with
         | false=>simp (maxSteps:=4000000) -implicitDefEqProofs only [c88,f88,aP,g0,g1,g2,g3,hli,r5,↓ba,fi,fh,fg,fe,fc,e9,e8,e7,eZ,eY,eh,eg,h0',h1',hjj,hkr,nw,sL,ng,↓nB,nF,↓nA,nE,↓nz,h107,hwi,hF,hf,hd,↓aG,aF,eu,sevalprocAttr]
         | true =>
           cases ha:dr (kA j) a 16 with
           | false=>simp (maxSteps:=4000000) -implicitDefEqProofs only [c88,f88,aP,g0,g1,g2,g3,hli,r5,↓ba,fi,fh,fg,fe,fc,e9,e8,e7,eZ,eY,eh,eg,h0',h1',hjj,hkr,nw,sL,ng,↓nB,nF,↓nA,nE,↓nz,h107,hwi,hF,hf,hd,ha,↓aG,aF,eu,sevalprocAttr]
           | true =>
             cases hb:dr (kB j) b 16 with
             | false=>simp (maxSteps:=4000000) -implicitDefEqProofs only [c88,f88,aP,g0,g1,g2,g3,hli,r5,↓ba,fi,fh,fg,fe,fc,e9,e8,e7,eZ,eY,eh,eg,h0',h1',hjj,hkr,nw,sL,ng,↓nB,nF,↓nA,nE,↓nz,h107,hwi,hF,hf,hd,ha,hb,↓aG,aF,eu,sevalprocAttr]
             | true =>
               cases hi:Bm c (vU j) (CH j) (CC j) (CG j) (CD j) imm with
               | false=>simp (maxSteps:=4000000) -implicitDefEqProofs only [c88,f88,aP,g0,g1,g2,g3,hli,r5,↓ba,fi,fh,fg,fe,fc,e9,e8,e7,eZ,eY,eh,eg,h0',h1',hjj,hkr,nw,sL,ng,↓nB,nF,↓nA,nE,↓nz,h107,hwi,hF,hf,hd,ha,hb,hi,↓aG,aF,eu,sevalprocAttr]
               | true =>
                 cases ht:dr (kTo j) to c.insns.length with
                 | false=>simp (maxSteps:=4000000) -implicitDefEqProofs only [c88,f88,aP,g0,g1,g2,g3,hli,r5,↓ba,fi,fh,fg,fe,fc,e9,e8,e7,eZ,eY,eh,eg,h0',h1',hjj,hkr,nw,sL,ng,↓nB,nF,↓nA,nE,↓nz,h107,hwi,hF,hf,hd,ha,hb,hi,ht,↓aG,aF,eu,sevalprocAttr]
                 | true =>simp (maxSteps:=4000000) -implicitDefEqProofs only [c88,f88,aP,g0,g1,g2,g3,hli,r5,↓ba,fi,fh,fg,fe,fc,e9,e8,e7,eZ,eY,eh,eg,h0',h1',hjj,hkr,nw,sL,ng,↓nB,nF,↓nA,nE,↓nz,h107,hwi,hF,hf,hd,ha,hb,hi,ht,↓aG,aF,eu,sevalprocAttr]
     | false =>
       cases hf:dr (ltB 0 (Bj j)) op (Bj j) with
       | false=>simp (maxSteps:=4000000) -implicitDefEqProofs only [c88,f88,aP,g0,g1,g2,g3,hli,r5,↓ba,fi,fh,fg,fe,fc,e9,e8,e7,eZ,eY,eh,eg,h0',h1',hjj,hkr,nw,sL,ng,↓nB,nF,↓nA,nE,↓nz,h107,hwi,hF,hf,↓aG,aF,eu,sevalprocAttr]
       | true =>
         cases hd:dr (kD j) d 16 with
         | false=>simp (maxSteps:=4000000) -implicitDefEqProofs only [c88,f88,aP,g0,g1,g2,g3,hli,r5,↓ba,fi,fh,fg,fe,fc,e9,e8,e7,eZ,eY,eh,eg,h0',h1',hjj,hkr,nw,sL,ng,↓nB,nF,↓nA,nE,↓nz,h107,hwi,hF,hf,hd,↓aG,aF,eu,sevalprocAttr]
         | true =>
           cases ha:dr (kA j) a 16 with
           | false=>simp (maxSteps:=4000000) -implicitDefEqProofs only [c88,f88,aP,g0,g1,g2,g3,hli,r5,↓ba,fi,fh,fg,fe,fc,e9,e8,e7,eZ,eY,eh,eg,h0',h1',hjj,hkr,nw,sL,ng,↓nB,nF,↓nA,nE,↓nz,h107,hwi,hF,hf,hd,ha,↓aG,aF,eu,sevalprocAttr]
           | true =>
             cases hb:dr (kB j) b 16 with
             | false=>simp (maxSteps:=4000000) -implicitDefEqProofs only [c88,f88,aP,g0,g1,g2,g3,hli,r5,↓ba,fi,fh,fg,fe,fc,e9,e8,e7,eZ,eY,eh,eg,h0',h1',hjj,hkr,nw,sL,ng,↓nB,nF,↓nA,nE,↓nz,h107,hwi,hF,hf,hd,ha,hb,↓aG,aF,eu,sevalprocAttr]
             | true =>
               cases hi:Bm c (vU j) (CH j) (CC j) (CG j) (CD j) imm with
               | false=>simp (maxSteps:=4000000) -implicitDefEqProofs only [c88,f88,aP,g0,g1,g2,g3,hli,r5,↓ba,fi,fh,fg,fe,fc,e9,e8,e7,eZ,eY,eh,eg,h0',h1',hjj,hkr,nw,sL,ng,↓nB,nF,↓nA,nE,↓nz,h107,hwi,hF,hf,hd,ha,hb,hi,↓aG,aF,eu,sevalprocAttr]
               | true =>
                 cases ht:dr (kTo j) to c.insns.length with
                 | false=>simp (maxSteps:=4000000) -implicitDefEqProofs only [c88,f88,aP,g0,g1,g2,g3,hli,r5,↓ba,fi,fh,fg,fe,fc,e9,e8,e7,eZ,eY,eh,eg,h0',h1',hjj,hkr,nw,sL,ng,↓nB,nF,↓nA,nE,↓nz,h107,hwi,hF,hf,hd,ha,hb,hi,ht,↓aG,aF,eu,sevalprocAttr]
                 | true =>simp (maxSteps:=4000000) -implicitDefEqProofs only [c88,f88,aP,g0,g1,g2,g3,hli,r5,↓ba,fi,fh,fg,fe,fc,e9,e8,e7,eZ,eY,eh,eg,h0',h1',hjj,hkr,nw,sL,ng,↓nB,nF,↓nA,nE,↓nz,h107,hwi,hF,hf,hd,ha,hb,hi,ht,↓aG,aF,eu,sevalprocAttr]
def opP (k op:Int):Bool:=br (CF k) (rX op) (dr (ltB 0 (Bj k)) op (Bj k))
theorem Z8 {k:Int} (h0:0<=k) (h1:k < 16) (op d a b imm to join:Int) (H:AH):Ev aa C0 W0 99 [.agg (eQ (⟨k,op,d,a,b,imm,to,join⟩:Ins))] H=some (.bool (opP k op),H):=by
 refine BE (p:=fun k=>Ev aa C0 W0 99 [.agg (eQ (⟨k,op,d,a,b,imm,to,join⟩:Ins))] H=some (.bool (opP k op),H)) h0 h1 ?_ ?_ ?_ ?_ ?_ ?_ ?_ ?_ ?_ ?_ ?_ ?_ ?_ ?_ ?_ ?_
 · obtain ⟨tm,ht,g0,g1⟩:=tm1 (.agg (eQ (⟨0,op,d,a,b,imm,to,join⟩:Ins))) 44 (by decide);rw [rE,ht];rw [<-af (ro H)];simp (maxSteps:=4000000) -implicitDefEqProofs only [c99,f99,aP,g0,g1,r5,↓ba,eqQ,↓lU,lV,↓aG,aF,eu,sevalprocAttr];first | done | rfl
 · obtain ⟨tm,ht,g0,g1⟩:=tm1 (.agg (eQ (⟨1,op,d,a,b,imm,to,join⟩:Ins))) 44 (by decide);rw [rE,ht];rw [<-af (ro H)];simp (maxSteps:=4000000) -implicitDefEqProofs only [c99,f99,aP,g0,g1,r5,↓ba,eqQ,↓lU,lV,↓aG,aF,eu,sevalprocAttr];first | done | rfl
 · obtain ⟨tm,ht,g0,g1⟩:=tm1 (.agg (eQ (⟨2,op,d,a,b,imm,to,join⟩:Ins))) 44 (by decide);rw [rE,ht];rw [<-af (ro H)];cases hq:leB 0 op <;> simp (maxSteps:=4000000) -implicitDefEqProofs only [c99,f99,aP,g0,g1,r5,↓ba,eqQ,hq,↓lU,lV,↓aG,aF,eu,sevalprocAttr] <;> (show _=some (AV.bool (leB 0 op && _),H); rw [hq]; rfl)
 · obtain ⟨tm,ht,g0,g1⟩:=tm1 (.agg (eQ (⟨3,op,d,a,b,imm,to,join⟩:Ins))) 44 (by decide);rw [rE,ht];rw [<-af (ro H)];cases hq:leB 0 op <;> simp (maxSteps:=4000000) -implicitDefEqProofs only [c99,f99,aP,g0,g1,r5,↓ba,eqQ,hq,↓lU,lV,↓aG,aF,eu,sevalprocAttr] <;> (show _=some (AV.bool (leB 0 op && _),H); rw [hq]; rfl)
 · obtain ⟨tm,ht,g0,g1⟩:=tm1 (.agg (eQ (⟨4,op,d,a,b,imm,to,join⟩:Ins))) 44 (by decide);rw [rE,ht];rw [<-af (ro H)];cases hq:leB 0 op <;> simp (maxSteps:=4000000) -implicitDefEqProofs only [c99,f99,aP,g0,g1,r5,↓ba,eqQ,hq,↓lU,lV,↓aG,aF,eu,sevalprocAttr] <;> (show _=some (AV.bool (leB 0 op && _),H); rw [hq]; rfl)
 · obtain ⟨tm,ht,g0,g1⟩:=tm1 (.agg (eQ (⟨5,op,d,a,b,imm,to,join⟩:Ins))) 44 (by decide);rw [rE,ht];rw [<-af (ro H)];simp (maxSteps:=4000000) -implicitDefEqProofs only [c99,f99,aP,g0,g1,r5,↓ba,eqQ,↓lU,lV,↓aG,aF,eu,sevalprocAttr];first | done | rfl
 · obtain ⟨tm,ht,g0,g1⟩:=tm1 (.agg (eQ (⟨6,op,d,a,b,imm,to,join⟩:Ins))) 44 (by decide);rw [rE,ht];rw [<-af (ro H)];simp (maxSteps:=4000000) -implicitDefEqProofs only [c99,f99,aP,g0,g1,r5,↓ba,eqQ,↓lU,lV,↓aG,aF,eu,sevalprocAttr];first | done | rfl
 · obtain ⟨tm,ht,g0,g1⟩:=tm1 (.agg (eQ (⟨7,op,d,a,b,imm,to,join⟩:Ins))) 44 (by decide);rw [rE,ht];rw [<-af (ro H)];simp (maxSteps:=4000000) -implicitDefEqProofs only [c99,f99,aP,g0,g1,r5,↓ba,eqQ,↓lU,lV,↓aG,aF,eu,sevalprocAttr];first | done | rfl
 · obtain ⟨tm,ht,g0,g1⟩:=tm1 (.agg (eQ (⟨8,op,d,a,b,imm,to,join⟩:Ins))) 44 (by decide);rw [rE,ht];rw [<-af (ro H)];simp (maxSteps:=4000000) -implicitDefEqProofs only [c99,f99,aP,g0,g1,r5,↓ba,eqQ,↓lU,lV,↓aG,aF,eu,sevalprocAttr];first | done | rfl
 · obtain ⟨tm,ht,g0,g1⟩:=tm1 (.agg (eQ (⟨9,op,d,a,b,imm,to,join⟩:Ins))) 44 (by decide);rw [rE,ht];rw [<-af (ro H)];simp (maxSteps:=4000000) -implicitDefEqProofs only [c99,f99,aP,g0,g1,r5,↓ba,eqQ,↓lU,lV,↓aG,aF,eu,sevalprocAttr];first | done | rfl
 · obtain ⟨tm,ht,g0,g1⟩:=tm1 (.agg (eQ (⟨10,op,d,a,b,imm,to,join⟩:Ins))) 44 (by decide);rw [rE,ht];rw [<-af (ro H)];simp (maxSteps:=4000000) -implicitDefEqProofs only [c99,f99,aP,g0,g1,r5,↓ba,eqQ,↓lU,lV,↓aG,aF,eu,sevalprocAttr];first | done | rfl
 · obtain ⟨tm,ht,g0,g1⟩:=tm1 (.agg (eQ (⟨11,op,d,a,b,imm,to,join⟩:Ins))) 44 (by decide);rw [rE,ht];rw [<-af (ro H)];simp (maxSteps:=4000000) -implicitDefEqProofs only [c99,f99,aP,g0,g1,r5,↓ba,eqQ,↓lU,lV,↓aG,aF,eu,sevalprocAttr];first | done | rfl
 · obtain ⟨tm,ht,g0,g1⟩:=tm1 (.agg (eQ (⟨12,op,d,a,b,imm,to,join⟩:Ins))) 44 (by decide);rw [rE,ht];rw [<-af (ro H)];simp (maxSteps:=4000000) -implicitDefEqProofs only [c99,f99,aP,g0,g1,r5,↓ba,eqQ,↓lU,lV,↓aG,aF,eu,sevalprocAttr];first | done | rfl
 · obtain ⟨tm,ht,g0,g1⟩:=tm1 (.agg (eQ (⟨13,op,d,a,b,imm,to,join⟩:Ins))) 44 (by decide);rw [rE,ht];rw [<-af (ro H)];simp (maxSteps:=4000000) -implicitDefEqProofs only [c99,f99,aP,g0,g1,r5,↓ba,eqQ,↓lU,lV,↓aG,aF,eu,sevalprocAttr];first | done | rfl
 · obtain ⟨tm,ht,g0,g1⟩:=tm1 (.agg (eQ (⟨14,op,d,a,b,imm,to,join⟩:Ins))) 44 (by decide);rw [rE,ht];rw [<-af (ro H)];simp (maxSteps:=4000000) -implicitDefEqProofs only [c99,f99,aP,g0,g1,r5,↓ba,eqQ,↓lU,lV,↓aG,aF,eu,sevalprocAttr];first | done | rfl
 · obtain ⟨tm,ht,g0,g1⟩:=tm1 (.agg (eQ (⟨15,op,d,a,b,imm,to,join⟩:Ins))) 44 (by decide);rw [rE,ht];rw [<-af (ro H)];simp (maxSteps:=4000000) -implicitDefEqProofs only [c99,f99,aP,g0,g1,r5,↓ba,eqQ,↓lU,lV,↓aG,aF,eu,sevalprocAttr];first | done | rfl
theorem ad6 {x:Ins} (h0:0<=x.kind) (h1:x.kind < 16) (H:AH):Ev aa C0 W0 99 [.agg (eQ x)] H=some (.bool (opP x.kind x.op),H):=by obtain ⟨k,op,d,a,b,imm,to,join⟩:=x;exact Z8 h0 h1 op d a b imm to join H
theorem V4 {H:AH} {c:Cod} {vp vs vi:AV} (h:eW H c vp vs vi) {k:Int} (h0:0<=k) (h1:k < 16) (op d a b:Int) {imm:Int} (hn:fk imm) (to join:Int):Ev aa C0 W0 100 [.agg (bO c vp vs vi),.agg (eQ (⟨k,op,d,a,b,imm,to,join⟩:Ins))] H=some (.bool (Bm c (vU k) (CH k) (CC k) (CG k) (CD k) imm),H):=by
 have hn':=hn;obtain ⟨n0,n1⟩:=hn;have hlp:=h.ro.lp;have hls:=h.ro.ls;have hwn:IntKind.i64.wrap imm=imm:=pw (by omega);have h123:=fun L=>aau (h.ro.aZ (an.app _ L)) hn';simp only [bO] at h123;refine BE (p:=fun k=>Ev aa C0 W0 100 [.agg (bO c vp vs vi),.agg (eQ (⟨k,op,d,a,b,imm,to,join⟩:Ins))] H=some (.bool (Bm c (vU k) (CH k) (CC k) (CG k) (CD k) imm),H)) h0 h1 ?_ ?_ ?_ ?_ ?_ ?_ ?_ ?_ ?_ ?_ ?_ ?_ ?_ ?_ ?_ ?_
 · obtain ⟨tm,ht,g0,g1,g2⟩:=tm2 (.agg (bO c vp vs vi)) (.agg (eQ (⟨0,op,d,a,b,imm,to,join⟩:Ins))) 69 (by decide);rw [lT,ht];rw [<-af (ro H)];simp (maxSteps:=4000000) -implicitDefEqProofs only [pa,f100,aP,g0,g1,g2,r5,↓ba,eqQ,hlp,hls,hwn,↓kO,h123,↓aG,aF,eu,sevalprocAttr];first | rfl | done
 · obtain ⟨tm,ht,g0,g1,g2⟩:=tm2 (.agg (bO c vp vs vi)) (.agg (eQ (⟨1,op,d,a,b,imm,to,join⟩:Ins))) 69 (by decide);rw [lT,ht];rw [<-af (ro H)];simp (maxSteps:=4000000) -implicitDefEqProofs only [pa,f100,aP,g0,g1,g2,r5,↓ba,eqQ,hlp,hls,hwn,↓kO,h123,↓aG,aF,eu,sevalprocAttr];first | rfl | done
 · obtain ⟨tm,ht,g0,g1,g2⟩:=tm2 (.agg (bO c vp vs vi)) (.agg (eQ (⟨2,op,d,a,b,imm,to,join⟩:Ins))) 69 (by decide);rw [lT,ht];rw [<-af (ro H)];simp (maxSteps:=4000000) -implicitDefEqProofs only [pa,f100,aP,g0,g1,g2,r5,↓ba,eqQ,hlp,hls,hwn,↓kO,h123,↓aG,aF,eu,sevalprocAttr];first | rfl | done
 · obtain ⟨tm,ht,g0,g1,g2⟩:=tm2 (.agg (bO c vp vs vi)) (.agg (eQ (⟨3,op,d,a,b,imm,to,join⟩:Ins))) 69 (by decide);rw [lT,ht];rw [<-af (ro H)];simp (maxSteps:=4000000) -implicitDefEqProofs only [pa,f100,aP,g0,g1,g2,r5,↓ba,eqQ,hlp,hls,hwn,↓kO,h123,↓aG,aF,eu,sevalprocAttr];first | rfl | done
 · obtain ⟨tm,ht,g0,g1,g2⟩:=tm2 (.agg (bO c vp vs vi)) (.agg (eQ (⟨4,op,d,a,b,imm,to,join⟩:Ins))) 69 (by decide);rw [lT,ht];rw [<-af (ro H)];simp (maxSteps:=4000000) -implicitDefEqProofs only [pa,f100,aP,g0,g1,g2,r5,↓ba,eqQ,hlp,hls,hwn,↓kO,h123,↓aG,aF,eu,sevalprocAttr];first | rfl | done
 · obtain ⟨tm,ht,g0,g1,g2⟩:=tm2 (.agg (bO c vp vs vi)) (.agg (eQ (⟨5,op,d,a,b,imm,to,join⟩:Ins))) 69 (by decide);rw [lT,ht];rw [<-af (ro H)];cases h0:leB 0 imm with
   | false =>simp (maxSteps:=4000000) -implicitDefEqProofs only [pa,f100,aP,g0,g1,g2,r5,↓ba,eqQ,hlp,hls,hwn,↓kO,h123,h0,↓aG,aF,eu,sevalprocAttr];show _=some (AV.bool (leB 0 imm && _ && _),H);rw [h0];rfl
   | true =>
     cases hl:ltB imm c.params.length with
     | false =>simp (maxSteps:=4000000) -implicitDefEqProofs only [pa,f100,aP,g0,g1,g2,r5,↓ba,eqQ,hlp,hls,hwn,↓kO,h123,h0,hl,↓aG,aF,eu,sevalprocAttr];show _=some (AV.bool (leB 0 imm && ltB imm c.params.length && _),H);rw [h0,hl];rfl
     | true =>
       rw [dC] at h0;obtain ⟨j,rfl⟩:∃ j:Nat,imm=j:=⟨imm.toNat,by omega⟩;have hj:j < c.params.length:=by have:=(dB _ _).1 hl; omega
       obtain ⟨i,kk,hi,hr0,hr1,hr2,hb⟩:=xW h.ro (an.refl _) hj;have h0':leB 0 (j:Int)=true:=z3 (by omega);simp (maxSteps:=4000000) -implicitDefEqProofs only [pa,f100,aP,g0,g1,g2,r5,↓ba,eqQ,hlp,hls,hwn,↓kO,h123,h0',hl,hi,hr1,↓aG,aF,eu,sevalprocAttr];show _=some (AV.bool (leB 0 (j:Int) && ltB (j:Int) c.params.length && !iS c j),H);rw [h0',hl,hb];rfl
 · obtain ⟨tm,ht,g0,g1,g2⟩:=tm2 (.agg (bO c vp vs vi)) (.agg (eQ (⟨6,op,d,a,b,imm,to,join⟩:Ins))) 69 (by decide);rw [lT,ht];rw [<-af (ro H)];simp (maxSteps:=4000000) -implicitDefEqProofs only [pa,f100,aP,g0,g1,g2,r5,↓ba,eqQ,hlp,hls,hwn,↓kO,h123,↓aG,aF,eu,sevalprocAttr];rfl
 · obtain ⟨tm,ht,g0,g1,g2⟩:=tm2 (.agg (bO c vp vs vi)) (.agg (eQ (⟨7,op,d,a,b,imm,to,join⟩:Ins))) 69 (by decide);rw [lT,ht];rw [<-af (ro H)];simp (maxSteps:=4000000) -implicitDefEqProofs only [pa,f100,aP,g0,g1,g2,r5,↓ba,eqQ,hlp,hls,hwn,↓kO,h123,↓aG,aF,eu,sevalprocAttr];rfl
 · obtain ⟨tm,ht,g0,g1,g2⟩:=tm2 (.agg (bO c vp vs vi)) (.agg (eQ (⟨8,op,d,a,b,imm,to,join⟩:Ins))) 69 (by decide);rw [lT,ht];rw [<-af (ro H)];simp (maxSteps:=4000000) -implicitDefEqProofs only [pa,f100,aP,g0,g1,g2,r5,↓ba,eqQ,hlp,hls,hwn,↓kO,h123,↓aG,aF,eu,sevalprocAttr];rfl
 · obtain ⟨tm,ht,g0,g1,g2⟩:=tm2 (.agg (bO c vp vs vi)) (.agg (eQ (⟨9,op,d,a,b,imm,to,join⟩:Ins))) 69 (by decide);rw [lT,ht];rw [<-af (ro H)];cases h0:leB 0 imm <;> simp (maxSteps:=4000000) -implicitDefEqProofs only [pa,f100,aP,g0,g1,g2,r5,↓ba,eqQ,hlp,hls,hwn,↓kO,h123,h0,↓aG,aF,eu,sevalprocAttr] <;> first | rfl | (show _=some (AV.bool (leB 0 imm && _),H); rw [h0]; rfl)
 · obtain ⟨tm,ht,g0,g1,g2⟩:=tm2 (.agg (bO c vp vs vi)) (.agg (eQ (⟨10,op,d,a,b,imm,to,join⟩:Ins))) 69 (by decide);rw [lT,ht];rw [<-af (ro H)];cases h0:leB 0 imm <;> simp (maxSteps:=4000000) -implicitDefEqProofs only [pa,f100,aP,g0,g1,g2,r5,↓ba,eqQ,hlp,hls,hwn,↓kO,h123,h0,↓aG,aF,eu,sevalprocAttr] <;> first | rfl | (show _=some (AV.bool (leB 0 imm && _),H); rw [h0]; rfl)
 · obtain ⟨tm,ht,g0,g1,g2⟩:=tm2 (.agg (bO c vp vs vi)) (.agg (eQ (⟨11,op,d,a,b,imm,to,join⟩:Ins))) 69 (by decide);rw [lT,ht];rw [<-af (ro H)];cases h0:leB 0 imm <;> simp (maxSteps:=4000000) -implicitDefEqProofs only [pa,f100,aP,g0,g1,g2,r5,↓ba,eqQ,hlp,hls,hwn,↓kO,h123,h0,↓aG,aF,eu,sevalprocAttr] <;> first | rfl | (show _=some (AV.bool (leB 0 imm && _),H); rw [h0]; rfl)
 · obtain ⟨tm,ht,g0,g1,g2⟩:=tm2 (.agg (bO c vp vs vi)) (.agg (eQ (⟨12,op,d,a,b,imm,to,join⟩:Ins))) 69 (by decide);rw [lT,ht];rw [<-af (ro H)];cases h0:leB 0 imm <;> simp (maxSteps:=4000000) -implicitDefEqProofs only [pa,f100,aP,g0,g1,g2,r5,↓ba,eqQ,hlp,hls,hwn,↓kO,h123,h0,↓aG,aF,eu,sevalprocAttr] <;> first | rfl | (show _=some (AV.bool (leB 0 imm && _),H); rw [h0]; rfl)
 · obtain ⟨tm,ht,g0,g1,g2⟩:=tm2 (.agg (bO c vp vs vi)) (.agg (eQ (⟨13,op,d,a,b,imm,to,join⟩:Ins))) 69 (by decide);rw [lT,ht];rw [<-af (ro H)];simp (maxSteps:=4000000) -implicitDefEqProofs only [pa,f100,aP,g0,g1,g2,r5,↓ba,eqQ,hlp,hls,hwn,↓kO,h123,↓aG,aF,eu,sevalprocAttr];first | rfl | done
 · obtain ⟨tm,ht,g0,g1,g2⟩:=tm2 (.agg (bO c vp vs vi)) (.agg (eQ (⟨14,op,d,a,b,imm,to,join⟩:Ins))) 69 (by decide);rw [lT,ht];rw [<-af (ro H)];simp (maxSteps:=4000000) -implicitDefEqProofs only [pa,f100,aP,g0,g1,g2,r5,↓ba,eqQ,hlp,hls,hwn,↓kO,h123,↓aG,aF,eu,sevalprocAttr];first | rfl | done
 · obtain ⟨tm,ht,g0,g1,g2⟩:=tm2 (.agg (bO c vp vs vi)) (.agg (eQ (⟨15,op,d,a,b,imm,to,join⟩:Ins))) 69 (by decide);rw [lT,ht];rw [<-af (ro H)];simp (maxSteps:=4000000) -implicitDefEqProofs only [pa,f100,aP,g0,g1,g2,r5,↓ba,eqQ,hlp,hls,hwn,↓kO,h123,↓aG,aF,eu,sevalprocAttr];first | rfl | done
theorem Cx (n l:Int):ltB n (l+1)=leB n l:=by rw [Bool.eq_iff_iff,dB,dC]; omega
theorem Q4 (c:Cod) (k op d a b imm to join:Int) (h0:leB 0 k=true) (h1:ltB k 16=true):tG c ⟨k,op,d,a,b,imm,to,join⟩=(dr (kD k) d 16 && dr (kA k) a 16 && dr (kB k) b 16 && opP k op && Bm c (vU k) (CH k) (CC k) (CG k) (CD k) imm && dr (kTo k) to c.insns.length && dr (CE k) join (c.insns.length+1)):=by unfold tG opP;simp only [h0,h1,bf];cases br (CF k) (rX op) (dr (ltB 0 (Bj k)) op (Bj k)) <;> cases dr (kD k) d 16 <;> cases dr (kA k) a 16 <;> cases dr (kB k) b 16 <;> simp
theorem aep {H:AH} {c:Cod} {vp vs vi:AV} (h:eW H c vp vs vi) {x:Ins} (hx:fk x.imm):Ev aa C0 W0 67 [.agg (bO c vp vs vi),.agg (eQ x)] H=some (.bool (tG c x),H):=by
 obtain ⟨tm,ht,g0,g1,g2⟩:=tm2 (.agg (bO c vp vs vi)) (.agg (eQ x)) 95 (by decide);rw [acR,ht];rw [<-af (ro H)];obtain ⟨kind,op,d,a,b,imm,to,join⟩:=x;simp only at hx ⊢;have hli:=h.ro.li;have hib:=h.ni;have hle:=Cx join c.insns.length;cases h0:leB 0 kind with
 | false =>
   have h0':ltB kind 0=true:=by rw [dB]; rw [oh] at h0; exact h0
   unfold tG;simp only [h0,bd];simp (maxSteps:=4000000) -implicitDefEqProofs only [c67,f67,aP,g0,g1,g2,r5,↓ba,hli,h0',↓aG,aF,eu,sevalprocAttr]
 | true =>
   have h0':ltB kind 0=false:=by rw [fZ]; rw [dC] at h0; exact h0
   cases h1:ltB kind 16 with
   | false =>
     have h1':leB 16 kind=true:=by rw [dC]; rw [fZ] at h1; exact h1
     unfold tG;simp only [h1,bd,gx];simp (maxSteps:=4000000) -implicitDefEqProofs only [c67,f67,aP,g0,g1,g2,r5,↓ba,hli,h0',h1',↓aG,aF,eu,sevalprocAttr]
   | true =>
     have h1':leB 16 kind=false:=by rw [oh]; rw [dB] at h1; exact h1
     rw [Q4 c _ _ _ _ _ _ _ _ h0 h1];rw [dC] at h0;rw [dB] at h1;have h97:=fun H=>ad7 h0 h1 H;have h99:=fun H=>ad6 (x:=⟨kind,op,d,a,b,imm,to,join⟩) h0 h1 H;have h100:=fun L=>V4 (h.ro.aZ (an.app _ L)) h0 h1 op d a b hx to join;simp only [eQ,bO] at h99 h100;have hto:dr (kTo kind) to c.insns.length=br (eqB kind 13) (leB 0 to && ltB to c.insns.length) (br (eqB kind 14) (leB 0 to && ltB to c.insns.length) (eqB to 0)):=by unfold dr kTo;cases eqB kind 13 <;> cases eqB kind 14 <;> rfl
     have hjo:dr (CE kind) join (c.insns.length+1)=br (eqB kind 14) (leB 0 join && leB join c.insns.length) (eqB join 0):=by unfold dr CE;rw [Cx]
     rw [hto,hjo];cases hd:dr (kD kind) d 16 with
     | false =>simp only [bd,gx];cases e13:eqB kind 13 <;> cases e14:eqB kind 14 <;> cases t0:leB 0 to <;> cases j0:leB 0 join <;> simp (maxSteps:=4000000) -implicitDefEqProofs only [c67,f67,aP,g0,g1,g2,hli,hle,h97,h99,h100,↓IG,↓IF,IL,↓IE,↓An,r5,↓ba,h0',h1',hd,e13,e14,t0,j0,↓aG,aF,eu,sevalprocAttr]
     | true =>
       cases ha:dr (kA kind) a 16 with
       | false =>simp only [bd,gx];cases e13:eqB kind 13 <;> cases e14:eqB kind 14 <;> cases t0:leB 0 to <;> cases j0:leB 0 join <;> simp (maxSteps:=4000000) -implicitDefEqProofs only [c67,f67,aP,g0,g1,g2,hli,hle,h97,h99,h100,↓IG,↓IF,IL,↓IE,↓An,r5,↓ba,h0',h1',hd,ha,e13,e14,t0,j0,↓aG,aF,eu,sevalprocAttr]
       | true =>
         cases hb:dr (kB kind) b 16 with
         | false =>simp only [bd,gx];cases e13:eqB kind 13 <;> cases e14:eqB kind 14 <;> cases t0:leB 0 to <;> cases j0:leB 0 join <;> simp (maxSteps:=4000000) -implicitDefEqProofs only [c67,f67,aP,g0,g1,g2,hli,hle,h97,h99,h100,↓IG,↓IF,IL,↓IE,↓An,r5,↓ba,h0',h1',hd,ha,hb,e13,e14,t0,j0,↓aG,aF,eu,sevalprocAttr]
         | true =>
           cases ho:opP kind op with
           | false =>simp only [bd,gx];cases e13:eqB kind 13 <;> cases e14:eqB kind 14 <;> cases t0:leB 0 to <;> cases j0:leB 0 join <;> simp (maxSteps:=4000000) -implicitDefEqProofs only [c67,f67,aP,g0,g1,g2,hli,hle,h97,h99,h100,↓IG,↓IF,IL,↓IE,↓An,r5,↓ba,h0',h1',hd,ha,hb,ho,e13,e14,t0,j0,↓aG,aF,eu,sevalprocAttr]
           | true =>
             cases hi:Bm c (vU kind) (CH kind) (CC kind) (CG kind) (CD kind) imm with
             | false =>simp only [bd,gx];cases e13:eqB kind 13 <;> cases e14:eqB kind 14 <;> cases t0:leB 0 to <;> cases j0:leB 0 join <;> simp (maxSteps:=4000000) -implicitDefEqProofs only [c67,f67,aP,g0,g1,g2,hli,hle,h97,h99,h100,↓IG,↓IF,IL,↓IE,↓An,r5,↓ba,h0',h1',hd,ha,hb,ho,hi,e13,e14,t0,j0,↓aG,aF,eu,sevalprocAttr]
             | true =>cases e13:eqB kind 13 <;> cases e14:eqB kind 14 <;> cases t0:leB 0 to <;> cases j0:leB 0 join <;> simp (maxSteps:=4000000) -implicitDefEqProofs only [c67,f67,aP,g0,g1,g2,hli,hle,h97,h99,h100,↓IG,↓IF,IL,↓IE,↓An,r5,↓ba,h0',h1',hd,ha,hb,ho,hi,e13,e14,t0,j0,↓aG,aF,eu,sevalprocAttr] <;> first | (cases eqB to 0 <;> rfl) | (cases ltB to c.insns.length <;> rfl)
def mW (c:Cod) (j:Nat):Ins:=c.insns.getD j ⟨0,0,0,0,0,0,0,0⟩
theorem CL {c:Cod} {j:Nat} (h:j < c.insns.length):mW c j=c.insns[j]'h:=by unfold mW;rw [gde,aj h]; rfl
theorem L0 {H:AH} {c:Cod} {vp vs vi:AV} (h:eW H c vp vs vi) {j:Nat} (hj:j < c.insns.length):fk (mW c j).imm:=by rw [CL hj]; exact h.im _ (List.getElem_mem _)
theorem Bl {H K:AH} {c:Cod} {vp vs vi:AV} (h:eW H c vp vs vi) (hA:an H K) {j:Nat} (hj:j < c.insns.length):∃ i k,(∀ kk,aC aa 64 vi (.int kk (j:Int))=some (.ptr i k))/\(∀ L,ak (K++L) i k 1=some [I (mW c j).kind])/\(∀ L,ak (K++L) i k 8=some (eQ (mW c j))):=by rw [CL hj];obtain ⟨i,k,hi,hr⟩:=h.i.ix j (eQ (c.insns[j]'hj)) (by rw [List.getElem?_map,aj hj]; rfl);exact ⟨i,k,hi,fun L=>xL hr hA L rfl,fun L=>iH hr hA L⟩
theorem Sn (H:AH) (i k:Nat):ldA aa 153 H i k=(ak H i k 192).map .agg:=by kernel_rfl
def yx (c:Cod):Int:=(mW c (c.insns.length - 1)).kind
def Gb (c:Cod):Bool:=eqB (yx c) 15 || eqB (yx c) 13
def allI (c:Cod):Bool:=ck (fun j=>tG c (mW c j)) c.insns.length 0
def jQ (c:Cod):Bool:=Ad c && !ltB (c.insns.length:Int) 1 && !ltB 2000 (c.insns.length:Int) && Gb c && allI c
theorem FI {G:AH} {c:Cod} {vp vs vi:AV} {q kb:Nat} (h:eW G c vp vs vi) (hq:G[q]? =some (.cells (bO c vp vs vi) 66)) (hkb:G[kb]? =some (.cells gN 153)) (hN:c.insns.length < 2 ^ 60):∀ (d j:Nat) (tm:List AV) (K:AH) (Z:Option (bk × St)),EvC aa C0 W0 plN SH (tm,K)=Z->c.insns.length - j=d->j<=c.insns.length->an G K->tm.length=49->tm.getD 1 uA=.ptr q 0->tm.getD 5 uA=.ptr kb 0->tm.getD 37 uA=vi->tm.getD 38 uA=I c.insns.length->tm.getD 39 uA=I ((j:Nat):Int) ->
   ∃ X Y K1 K2,Z=br (ck (fun j=>tG c (mW c j)) (c.insns.length) (j)) (some (.exit 0,(X,K1))) (some (.ret,(Y,K2)))/\(X.length=49/\an G K1/\X.getD 1 uA=.ptr q 0/\X.getD 5 uA=.ptr kb 0/\X.getD 37 uA=vi/\X.getD 38 uA=I c.insns.length)/\Y.length=49/\Y.getD 2 uA=.bool false:=by
 intro d;induction d with
 | zero =>
   intro j tm K Z hZ hd hj hA hlen h1 h5 h37 h38 h39;subst hZ;have hjl:j=c.insns.length:=by omega
   subst hjl;have hlt:ltB (((c.insns.length:Nat)):Int) (c.insns.length:Nat)=false:=cw (by omega);rw [dk (aw _),Nk];simp (maxSteps:=4000000) -implicitDefEqProofs only [Dy,f59,aP,hlen,h1,h5,h37,h38,h39,hlt,↓aG,aF,eu,sevalprocAttr];exact ⟨_,tm.set 2 (.bool false),_,K,rfl,⟨by first | exact hlen | simp only [List.length_set,hlen],hA,by first | exact h1 | simp only [hlen,h1,gB,sevalprocAttr],by first | exact h5 | simp only [hlen,h5,gB,sevalprocAttr],by first | exact h37 | simp only [hlen,h37,gB,sevalprocAttr],by first | exact h38 | simp only [hlen,h38,gB,sevalprocAttr]⟩,by simp only [ls,hlen],by simp only [hlen,dK,Nat.reduceLT]⟩
 | succ d ih =>
   intro j tm K Z hZ hd hj hA hlen h1 h5 h37 h38 h39;subst hZ;have hjN:j < c.insns.length:=by omega
   have hlt:ltB (j:Int) (c.insns.length:Nat)=true:=cu (by omega);have hw:=b6 (j:=j) (by omega);obtain ⟨i,k,hix,hrd0,hrd2⟩:=Bl h hA hjN;have h88:=fun L=>aeb ((h.aZ hA).aZ (an.app K L)) (L0 h hjN);have hbq:∀ L,ak (K++L) q 0 5=some (bO c vp vs vi):=fun L=>eU (hA.get hq) L 0 5;have hbk:∀ L,ak (K++L) kb 0 192=some gN:=fun L=>eU (hA.get hkb) L 0 192;simp only [eQ,bO] at h88;rw [cK hjN,Nk];rw [<-af K];cases hp:(tG c (mW c j)) with
   | true =>simp only [bf];simp (maxSteps:=4000000) -implicitDefEqProofs only [Dy,f59,aP,hlen,h1,h5,h37,h38,h39,hlt,hw,hix,hrd2,hbq,hbk,↓ZC,h88,z80,XO,Sn,hp,r5,↓ba,↓aG,aF,eu,sevalprocAttr];exact ih (j+1) _ _ _ rfl (by omega) (by omega) (by first | exact hA | exact hA.bX _ | exact (hA.bX _).bX _) (by simp only [ls,hlen]) (by simp only [hlen,h1,gB,sevalprocAttr]) (by simp only [hlen,h5,gB,sevalprocAttr]) (by simp only [hlen,h37,gB,sevalprocAttr]) (by simp only [hlen,h38,gB,sevalprocAttr]) (by simp only [hlen,h39,gB,sevalprocAttr])
   | false =>simp only [bd];simp (maxSteps:=4000000) -implicitDefEqProofs only [Dy,f59,aP,hlen,h1,h5,h37,h38,h39,hlt,hw,hix,hrd2,hbq,hbk,↓ZC,h88,z80,XO,Sn,hp,r5,↓ba,↓aG,aF,eu,sevalprocAttr];exact ⟨tm,_,K,_,rfl,⟨hlen,hA,h1,h5,h37,h38⟩,by simp only [ls,hlen],by simp only [hlen,gB,sevalprocAttr]⟩
theorem aev {H:AH} {c:Cod} {vp vs vi:AV} (h:eW H c vp vs vi):Ev aa C0 W0 59 [.agg (bO c vp vs vi)] H=some (.bool (jQ c),H):=by
 obtain ⟨tm,ht,g0,g1⟩:=tm1 (.agg (bO c vp vs vi)) 49 (by decide);rw [acX,ht];rw [<-af (ro H)];unfold jQ;have hli:=h.ro.li;have hib:=h.ni;have h86:=fun L=>aec (h.ro.aZ (an.app (ro H) L));simp only [bO] at h86;have hst:stA aa 153 (ro H++[bm.cells [AV.str c.name,vp,vs,I c.loc,vi] 66,bm.cells Jn 153]) ((ro H).length+1) 0 (.agg gN)=some (ro H++[bm.cells [AV.str c.name,vp,vs,I c.loc,vi] 66,bm.cells gN 153]):=by rw [XQ,if_pos (show (AV.agg gN).cells.length=192 from rfl)];exact Jq (ro H) [bm.cells [AV.str c.name,vp,vs,I c.loc,vi] 66] 1 [] Jn gN 153 rfl rfl rfl
 cases h0:Ad c with
 | false=>simp (maxSteps:=4000000) -implicitDefEqProofs only [c59,f59,aP,g0,g1,hli,↓II,h86,↓IH,oq,HD,hst,r5,↓ba,h0,↓aG,aF,eu,sevalprocAttr]
 | true =>
   cases h1:ltB (c.insns.length:Int) 1 with
   | true=>simp (maxSteps:=4000000) -implicitDefEqProofs only [c59,f59,aP,g0,g1,hli,↓II,h86,↓IH,oq,HD,hst,r5,↓ba,h0,h1,↓aG,aF,eu,sevalprocAttr]
   | false =>
     cases h2:ltB 2000 (c.insns.length:Int) with
     | true=>simp (maxSteps:=4000000) -implicitDefEqProofs only [c59,f59,aP,g0,g1,hli,↓II,h86,↓IH,oq,HD,hst,r5,↓ba,h0,h1,h2,↓aG,aF,eu,sevalprocAttr]
     | false =>
       have hn1:1<=c.insns.length:=by rw [fZ] at h1; omega
       have hw1:IntKind.i64.wrap ((c.insns.length:Int) - 1)=((c.insns.length - 1:Nat):Int):=by rw [pw (by omega)]; omega
       obtain ⟨i,k,hix,hrd0,hrd2⟩:=Bl h.ro (an.refl _) (j:=c.insns.length - 1) (by omega);have hlk:(mW c (c.insns.length - 1)).kind=yx c:=rfl;rw [hlk] at hrd0;unfold Gb;have hG:eW (ro H++[bm.cells (bO c vp vs vi) 66,bm.cells gN 153]) c vp vs vi:=h.ro.aZ (an.app _ _);have hq:(ro H++[bm.cells (bO c vp vs vi) 66,bm.cells gN 153])[(ro H).length]? =some (.cells (bO c vp vs vi) 66):=by rw [al (aw _),d9]; rfl
       have hkb:(ro H++[bm.cells (bO c vp vs vi) 66,bm.cells gN 153])[(ro H).length+1]? =some (.cells gN 153):=by rw [al (dI _ _),aN]; rfl
       cases e15:eqB (yx c) 15 with
       | true =>simp (maxSteps:=4000000) -implicitDefEqProofs only [c59,f59,aP,g0,g1,hli,↓II,h86,↓IH,oq,HD,hst,r5,↓ba,h0,h1,h2,hw1,hix,hrd0,e15,↓aG,aF,eu,sevalprocAttr];generalize hX:EvC aa C0 W0 _ (Code.loop _) _=Z;obtain ⟨X,Y,K1,K2,he,xs,y0,y1⟩:=FI hG hq hkb (dZ h.ni (by decide)) _ 0 _ _ _ hX rfl (aV _) (an.refl _) (by simp only [ls,g0]) (by simp only [g0,gB,sevalprocAttr]; try rfl) (by simp only [g0,gB,sevalprocAttr]; try rfl) (by simp only [g0,gB,sevalprocAttr]; try rfl) (by simp only [g0,gB,sevalprocAttr]; try rfl) (by simp only [g0,gB,sevalprocAttr]; try rfl);subst he;simp (maxSteps:=4000000) +contextual -implicitDefEqProofs only [xs.1,y0,y1,↓aG,aF,eu,sevalprocAttr];unfold allI;cases ck (fun j=>tG c (mW c j)) c.insns.length 0 <;> rfl
       | false =>
         cases e13:eqB (yx c) 13 with
         | true =>simp (maxSteps:=4000000) -implicitDefEqProofs only [c59,f59,aP,g0,g1,hli,↓II,h86,↓IH,oq,HD,hst,r5,↓ba,h0,h1,h2,hw1,hix,hrd0,e15,e13,↓aG,aF,eu,sevalprocAttr];generalize hX:EvC aa C0 W0 _ (Code.loop _) _=Z;obtain ⟨X,Y,K1,K2,he,xs,y0,y1⟩:=FI hG hq hkb (dZ h.ni (by decide)) _ 0 _ _ _ hX rfl (aV _) (an.refl _) (by simp only [ls,g0]) (by simp only [g0,gB,sevalprocAttr]; try rfl) (by simp only [g0,gB,sevalprocAttr]; try rfl) (by simp only [g0,gB,sevalprocAttr]; try rfl) (by simp only [g0,gB,sevalprocAttr]; try rfl) (by simp only [g0,gB,sevalprocAttr]; try rfl);subst he;simp (maxSteps:=4000000) +contextual -implicitDefEqProofs only [xs.1,y0,y1,↓aG,aF,eu,sevalprocAttr];unfold allI;cases ck (fun j=>tG c (mW c j)) c.insns.length 0 <;> rfl
         | false=>simp (maxSteps:=4000000) -implicitDefEqProofs only [c59,f59,aP,g0,g1,hli,↓II,h86,↓IH,oq,HD,hst,r5,↓ba,h0,h1,h2,hw1,hix,hrd0,e15,e13,↓aG,aF,eu,sevalprocAttr]
end Go.Dv
