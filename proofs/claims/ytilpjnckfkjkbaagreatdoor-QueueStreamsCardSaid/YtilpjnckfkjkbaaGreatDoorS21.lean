/- Part 21 of the walks (own work). -/
import Derived.Test.YtilpjnckfkjkbaaGreatDoorS20
open Bool renaming and_eq_true→aD,and_false→g9,false_and→bd,not_eq_true'→ba,true_and→aZ
open List renaming append_assoc→aE,append_nil→af,getElem?_append_left→aq,getElem?_append_right→aw,getElem?_eq_getElem→aj,getElem?_map→aI,getElem_mem→gC,length_append→ai,length_map→au,length_set→ar,length_take→eW
open Nat renaming le_refl→ax,lt_of_lt_of_le→bm,lt_trans→dB,mul_one→dS,reduceLT→aM
open Option renaming map_eq_some_iff→ah
open Go.Proofs.Tryz renaming prog→aa
set_option maxRecDepth 100000
set_option maxHeartbeats 4000000
set_option linter.unusedSimpArgs false
set_option linter.unusedVariables false
namespace Go.Dv
open Go.Proofs
attribute [local congr] aH bP bj bO bQ
theorem Br (n l:Int):ltB n (l+1)=leB n l:=by rw [Bool.eq_iff_iff,dC,dp]; omega
theorem OW (c:Cod) (k op d a b imm to join:Int) (h0:leB 0 k=true) (h1:ltB k 16=true):qP c ⟨k,op,d,a,b,imm,to,join⟩=(cP (kD k) d 16 && cP (kA k) a 16 && cP (kB k) b 16 && opP k op && Ae c (u6 k) (BB k) (Bw k) (BA k) (Bx k) imm && cP (kTo k) to c.insns.length && cP (By k) join (c.insns.length+1)):=by
 unfold qP opP
 simp only [h0,h1,aZ]
 cases br (Bz k) (rq op) (cP (ltB 0 (Ab k)) op (Ab k)) <;> cases cP (kD k) d 16 <;> cases cP (kA k) a 16 <;> cases cP (kB k) b 16 <;> simp
theorem Z6 {H:AH} {c:Cod} {vp vs vi:AV} (h:dO H c vp vs vi) {x:Ins} (hx:eD x.imm):Ev aa C0 W0 67 [.agg (bF c vp vs vi),.agg (ew x)] H=some (.bool (qP c x),H):=by
 obtain ⟨tm,ht,g0,g1,g2⟩:=tm2 (.agg (bF c vp vs vi)) (.agg (ew x)) 95 (by decide)
 rw [YR,ht]
 rw [<-af (ro H)]
 obtain ⟨kind,op,d,a,b,imm,to,join⟩:=x
 simp only at hx ⊢
 have hli:=h.ro.li
 have hib:=h.ni
 have hle:=Br join c.insns.length
 cases h0:leB 0 kind with
 | false =>
   have h0':ltB kind 0=true:=by rw [dC]; rw [nL] at h0; exact h0
   unfold qP
   simp only [h0,bd]
   simp (maxSteps:=4000000) -implicitDefEqProofs only [c67,Tryz.f67,aP,g0,g1,g2,r5,↓az,hli,h0',↓ao,an,eu,sevalprocAttr]
 | true =>
   have h0':ltB kind 0=false:=by rw [fe]; rw [dp] at h0; exact h0
   cases h1:ltB kind 16 with
   | false =>
     have h1':leB 16 kind=true:=by rw [dp]; rw [fe] at h1; exact h1
     unfold qP
     simp only [h1,bd,g9]
     simp (maxSteps:=4000000) -implicitDefEqProofs only [c67,Tryz.f67,aP,g0,g1,g2,r5,↓az,hli,h0',h1',↓ao,an,eu,sevalprocAttr]
   | true =>
     have h1':leB 16 kind=false:=by rw [nL]; rw [dC] at h1; exact h1
     rw [OW c _ _ _ _ _ _ _ _ h0 h1]
     rw [dp] at h0
     rw [dC] at h1
     have h97:=fun H=>ZQ h0 h1 H
     have h99:=fun H=>ZP (x:=⟨kind,op,d,a,b,imm,to,join⟩) h0 h1 H
     have h100:=fun L=>SI (h.ro.aX (al.app _ L)) h0 h1 op d a b hx to join
     simp only [ew,bF] at h99 h100
     have hto:cP (kTo kind) to c.insns.length=br (eqB kind 13) (leB 0 to && ltB to c.insns.length) (br (eqB kind 14) (leB 0 to && ltB to c.insns.length) (eqB to 0)):=by
       unfold cP kTo
       cases eqB kind 13 <;> cases eqB kind 14 <;> rfl
     have hjo:cP (By kind) join (c.insns.length+1)=br (eqB kind 14) (leB 0 join && leB join c.insns.length) (eqB join 0):=by
       unfold cP By
       rw [Br]
     rw [hto,hjo]
     cases hd:cP (kD kind) d 16 with
     | false =>
       simp only [bd,g9]
       cases e13:eqB kind 13 <;> cases e14:eqB kind 14 <;> cases t0:leB 0 to <;> cases j0:leB 0 join <;> simp (maxSteps:=4000000) -implicitDefEqProofs only [c67,Tryz.f67,aP,g0,g1,g2,hli,hle,h97,h99,h100,↓GN,↓GM,GS,↓GK,↓zi,r5,↓az,h0',h1',hd,e13,e14,t0,j0,↓ao,an,eu,sevalprocAttr]
     | true =>
       cases ha:cP (kA kind) a 16 with
       | false =>
         simp only [bd,g9]
         cases e13:eqB kind 13 <;> cases e14:eqB kind 14 <;> cases t0:leB 0 to <;> cases j0:leB 0 join <;> simp (maxSteps:=4000000) -implicitDefEqProofs only [c67,Tryz.f67,aP,g0,g1,g2,hli,hle,h97,h99,h100,↓GN,↓GM,GS,↓GK,↓zi,r5,↓az,h0',h1',hd,ha,e13,e14,t0,j0,↓ao,an,eu,sevalprocAttr]
       | true =>
         cases hb:cP (kB kind) b 16 with
         | false =>
           simp only [bd,g9]
           cases e13:eqB kind 13 <;> cases e14:eqB kind 14 <;> cases t0:leB 0 to <;> cases j0:leB 0 join <;> simp (maxSteps:=4000000) -implicitDefEqProofs only [c67,Tryz.f67,aP,g0,g1,g2,hli,hle,h97,h99,h100,↓GN,↓GM,GS,↓GK,↓zi,r5,↓az,h0',h1',hd,ha,hb,e13,e14,t0,j0,↓ao,an,eu,sevalprocAttr]
         | true =>
           cases ho:opP kind op with
           | false =>
             simp only [bd,g9]
             cases e13:eqB kind 13 <;> cases e14:eqB kind 14 <;> cases t0:leB 0 to <;> cases j0:leB 0 join <;> simp (maxSteps:=4000000) -implicitDefEqProofs only [c67,Tryz.f67,aP,g0,g1,g2,hli,hle,h97,h99,h100,↓GN,↓GM,GS,↓GK,↓zi,r5,↓az,h0',h1',hd,ha,hb,ho,e13,e14,t0,j0,↓ao,an,eu,sevalprocAttr]
           | true =>
             cases hi:Ae c (u6 kind) (BB kind) (Bw kind) (BA kind) (Bx kind) imm with
             | false =>
               simp only [bd,g9]
               cases e13:eqB kind 13 <;> cases e14:eqB kind 14 <;> cases t0:leB 0 to <;> cases j0:leB 0 join <;> simp (maxSteps:=4000000) -implicitDefEqProofs only [c67,Tryz.f67,aP,g0,g1,g2,hli,hle,h97,h99,h100,↓GN,↓GM,GS,↓GK,↓zi,r5,↓az,h0',h1',hd,ha,hb,ho,hi,e13,e14,t0,j0,↓ao,an,eu,sevalprocAttr]
             | true =>
               cases e13:eqB kind 13 <;> cases e14:eqB kind 14 <;> cases t0:leB 0 to <;> cases j0:leB 0 join <;> simp (maxSteps:=4000000) -implicitDefEqProofs only [c67,Tryz.f67,aP,g0,g1,g2,hli,hle,h97,h99,h100,↓GN,↓GM,GS,↓GK,↓zi,r5,↓az,h0',h1',hd,ha,hb,ho,hi,e13,e14,t0,j0,↓ao,an,eu,sevalprocAttr] <;> first | (cases eqB to 0 <;> rfl) | (cases ltB to c.insns.length <;> rfl)
def k6 (c:Cod) (j:Nat):Ins:=c.insns.getD j ⟨0,0,0,0,0,0,0,0⟩
theorem BE {c:Cod} {j:Nat} (h:j < c.insns.length):k6 c j=c.insns[j]'h:=by
 unfold k6
 rw [gde,aj h]; rfl
theorem JS {H:AH} {c:Cod} {vp vs vi:AV} (h:dO H c vp vs vi) {j:Nat} (hj:j < c.insns.length):eD (k6 c j).imm:=by
 rw [BE hj]; exact h.im _ (gC _)
theorem Ad {H K:AH} {c:Cod} {vp vs vi:AV} (h:dO H c vp vs vi) (hA:al H K) {j:Nat} (hj:j < c.insns.length):∃ i k,(∀ kk,aG aa 64 vi (.int kk (j:Int))=some (.ptr i k))/\(∀ L,ak (K++L) i k 1=some [I (k6 c j).kind])/\(∀ L,ak (K++L) i k 8=some (ew (k6 c j))):=by
 rw [BE hj]
 obtain ⟨i,k,hi,hr⟩:=h.i.ix j (ew (c.insns[j]'hj)) (by rw [aI,aj hj]; rfl)
 exact ⟨i,k,hi,fun L=>A6 hr hA L rfl,fun L=>jB hr hA L⟩
theorem P6 (H:AH) (i k:Nat):ldA aa 153 H i k=(ak H i k 192).map .agg:=by kernel_rfl
def xq (c:Cod):Int:=(k6 c (c.insns.length - 1)).kind
def EE (c:Cod):Bool:=eqB (xq c) 15 || eqB (xq c) 13
def allI (c:Cod):Bool:=bA (fun j=>qP c (k6 c j)) c.insns.length 0
def iK (c:Cod):Bool:=y5 c && !ltB (c.insns.length:Int) 1 && !ltB 2000 (c.insns.length:Int) && EE c && allI c
theorem MV {G:AH} {c:Cod} {vp vs vi:AV} {q kb:Nat} (h:dO G c vp vs vi) (hq:G[q]? =some (.cells (bF c vp vs vi) 66)) (hkb:G[kb]? =some (.cells fZ 153)) (hN:c.insns.length < 2 ^ 60):∀ (d j:Nat) (tm:List AV) (K:AH),c.insns.length - j=d->j<=c.insns.length->al G K->tm.length=49->tm.getD 1 uA=.ptr q 0->tm.getD 5 uA=.ptr kb 0->tm.getD 37 uA=vi->tm.getD 38 uA=I c.insns.length->tm.getD 39 uA=I ((j:Nat):Int) ->
   ∃ X Y K1 K2,EvC aa C0 W0 plN Jy (tm,K)=br (bA (fun j=>qP c (k6 c j)) (c.insns.length) (j)) (some (.exit 0,(X,K1))) (some (.ret,(Y,K2)))/\(X.length=49/\al G K1/\X.getD 1 uA=.ptr q 0/\X.getD 5 uA=.ptr kb 0/\X.getD 37 uA=vi/\X.getD 38 uA=I c.insns.length)/\Y.length=49/\Y.getD 2 uA=.bool false:=by
 intro d
 induction d with
 | zero =>
   intro j tm K hd hj hA hlen h1 h5 h37 h38 h39
   have hjl:j=c.insns.length:=by omega
   subst hjl
   have hlt:ltB (((c.insns.length:Nat)):Int) (c.insns.length:Nat)=false:=db (by omega)
   rw [cN (ax _),Li]
   simp (maxSteps:=4000000) -implicitDefEqProofs only [Cm,Tryz.f59,aP,hlen,h1,h5,h37,h38,h39,hlt,↓ao,an,eu,sevalprocAttr]
   exact ⟨_,tm.set 2 (.bool false),_,K,rfl,⟨by first | exact hlen | simp only [ar,hlen],hA,by first | exact h1 | simp only [hlen,h1,gB,sevalprocAttr],by first | exact h5 | simp only [hlen,h5,gB,sevalprocAttr],by first | exact h37 | simp only [hlen,h37,gB,sevalprocAttr],by first | exact h38 | simp only [hlen,h38,gB,sevalprocAttr]⟩,by simp only [ls,hlen],by simp only [hlen,dq,aM]⟩
 | succ d ih =>
   intro j tm K hd hj hA hlen h1 h5 h37 h38 h39
   have hjN:j < c.insns.length:=by omega
   have hlt:ltB (j:Int) (c.insns.length:Nat)=true:=cQ (by omega)
   have hw:=cD (j:=j) (by omega)
   obtain ⟨i,k,hix,hrd0,hrd2⟩:=Ad h hA hjN
   have h88:=fun L=>ZU ((h.aX hA).aX (al.app K L)) (JS h hjN)
   have hbq:∀ L,ak (K++L) q 0 5=some (bF c vp vs vi):=fun L=>eQ (hA.get hq) L 0 5
   have hbk:∀ L,ak (K++L) kb 0 192=some fZ:=fun L=>eQ (hA.get hkb) L 0 192
   simp only [ew,bF] at h88
   rw [ch hjN,Li]
   rw [<-af K]
   cases hp:(qP c (k6 c j)) with
   | true =>
     simp only [aZ]
     simp (maxSteps:=4000000) -implicitDefEqProofs only [Cm,Tryz.f59,aP,hlen,h1,h5,h37,h38,h39,hlt,hw,hix,hrd2,hbq,hbk,↓VW,h88,z80,Ug,P6,hp,r5,↓az,↓ao,an,eu,sevalprocAttr]
     exact ih (j+1) _ _ (by omega) (by omega) (by first | exact hA | exact hA.bS _ | exact (hA.bS _).bS _) (by simp only [ls,hlen]) (by simp only [hlen,h1,gB,sevalprocAttr]) (by simp only [hlen,h5,gB,sevalprocAttr]) (by simp only [hlen,h37,gB,sevalprocAttr]) (by simp only [hlen,h38,gB,sevalprocAttr]) (by simp only [hlen,h39,gB,sevalprocAttr])
   | false =>
     simp only [bd]
     simp (maxSteps:=4000000) -implicitDefEqProofs only [Cm,Tryz.f59,aP,hlen,h1,h5,h37,h38,h39,hlt,hw,hix,hrd2,hbq,hbk,↓VW,h88,z80,Ug,P6,hp,r5,↓az,↓ao,an,eu,sevalprocAttr]
     exact ⟨tm,_,K,_,rfl,⟨hlen,hA,h1,h5,h37,h38⟩,by simp only [ls,hlen],by simp only [hlen,gB,sevalprocAttr]⟩
theorem AS {G:AH} {c:Cod} {vp vs vi:AV} {q kb:Nat} {tm:List AV} {K:AH} {Z:Option (bu × St)} (hX:EvC aa C0 W0 plN Jy (tm,K)=Z) (h:dO G c vp vs vi) (hq:G[q]? =some (.cells (bF c vp vs vi) 66)) (hkb:G[kb]? =some (.cells fZ 153)) (hN:c.insns.length < 2 ^ 60) (hA:al G K) (hlen:tm.length=49) (h1:tm.getD 1 uA=.ptr q 0) (h5:tm.getD 5 uA=.ptr kb 0) (h37:tm.getD 37 uA=vi) (h38:tm.getD 38 uA=I c.insns.length) (h39:tm.getD 39 uA=I ((0:Nat):Int)) :
   ∃ X Y K1 K2,Z=br (bA (fun j=>qP c (k6 c j)) (c.insns.length) (0)) (some (.exit 0,(X,K1))) (some (.ret,(Y,K2)))/\(X.length=49/\al G K1/\X.getD 1 uA=.ptr q 0/\X.getD 5 uA=.ptr kb 0/\X.getD 37 uA=vi/\X.getD 38 uA=I c.insns.length)/\Y.length=49/\Y.getD 2 uA=.bool false:=by
 subst hX
 exact MV h hq hkb hN (c.insns.length) 0 tm K (by omega) (by omega) hA hlen h1 h5 h37 h38 h39
theorem aac {H:AH} {c:Cod} {vp vs vi:AV} (h:dO H c vp vs vi):Ev aa C0 W0 59 [.agg (bF c vp vs vi)] H=some (.bool (iK c),H):=by
 obtain ⟨tm,ht,g0,g1⟩:=tm1 (.agg (bF c vp vs vi)) 49 (by decide)
 rw [YX,ht]
 rw [<-af (ro H)]
 unfold iK
 have hli:=h.ro.li
 have hib:=h.ni
 have h86:=fun L=>ZV (h.ro.aX (al.app (ro H) L))
 simp only [bF] at h86
 have hst:stA aa 153 (ro H++[bo.cells [AV.str c.name,vp,vs,I c.loc,vi] 66,bo.cells Hu 153]) ((ro H).length+1) 0 (.agg fZ)=some (ro H++[bo.cells [AV.str c.name,vp,vs,I c.loc,vi] 66,bo.cells fZ 153]):=by
   rw [Uk,if_pos (show (AV.agg fZ).cells.length=192 from rfl)]
   exact Hx (ro H) [bo.cells [AV.str c.name,vp,vs,I c.loc,vi] 66] 1 [] Hu fZ 153 rfl rfl rfl
 cases h0:y5 c with
 | false=>simp (maxSteps:=4000000) -implicitDefEqProofs only [c59,Tryz.f59,aP,g0,g1,hli,↓GP,h86,↓GO,nM,FY,hst,r5,↓az,h0,↓ao,an,eu,sevalprocAttr]
 | true =>
   cases h1:ltB (c.insns.length:Int) 1 with
   | true=>simp (maxSteps:=4000000) -implicitDefEqProofs only [c59,Tryz.f59,aP,g0,g1,hli,↓GP,h86,↓GO,nM,FY,hst,r5,↓az,h0,h1,↓ao,an,eu,sevalprocAttr]
   | false =>
     cases h2:ltB 2000 (c.insns.length:Int) with
     | true=>simp (maxSteps:=4000000) -implicitDefEqProofs only [c59,Tryz.f59,aP,g0,g1,hli,↓GP,h86,↓GO,nM,FY,hst,r5,↓az,h0,h1,h2,↓ao,an,eu,sevalprocAttr]
     | false =>
       have hn1:1<=c.insns.length:=by rw [fe] at h1; omega
       have hw1:IntKind.i64.wrap ((c.insns.length:Int) - 1)=((c.insns.length - 1:Nat):Int):=by rw [qN (by omega)]; omega
       obtain ⟨i,k,hix,hrd0,hrd2⟩:=Ad h.ro (al.refl _) (j:=c.insns.length - 1) (by omega)
       have hlk:(k6 c (c.insns.length - 1)).kind=xq c:=rfl
       rw [hlk] at hrd0
       unfold EE
       have hG:dO (ro H++[bo.cells (bF c vp vs vi) 66,bo.cells fZ 153]) c vp vs vi:=h.ro.aX (al.app _ _)
       have hq:(ro H++[bo.cells (bF c vp vs vi) 66,bo.cells fZ 153])[(ro H).length]? =some (.cells (bF c vp vs vi) 66):=by rw [aw (ax _),Nat.sub_self]; rfl
       have hkb:(ro H++[bo.cells (bF c vp vs vi) 66,bo.cells fZ 153])[(ro H).length+1]? =some (.cells fZ 153):=by rw [aw (Nat.le_add_right _ _),Nat.add_sub_cancel_left]; rfl
       cases e15:eqB (xq c) 15 with
       | true =>
         simp (maxSteps:=4000000) -implicitDefEqProofs only [c59,Tryz.f59,aP,g0,g1,hli,↓GP,h86,↓GO,nM,FY,hst,r5,↓az,h0,h1,h2,hw1,hix,hrd0,e15,↓ao,an,eu,sevalprocAttr]
         generalize hX:EvC aa C0 W0 _ (Code.loop _) _=Z
         obtain ⟨X,Y,K1,K2,he,xs,y0,y1⟩:=AS  hX hG hq hkb (dB h.ni (by decide)) (al.refl _) (by simp only [ls,g0]) (by simp only [g0,gB,sevalprocAttr]; try rfl) (by simp only [g0,gB,sevalprocAttr]; try rfl) (by simp only [g0,gB,sevalprocAttr]; try rfl) (by simp only [g0,gB,sevalprocAttr]; try rfl) (by simp only [g0,gB,sevalprocAttr]; try rfl)
         subst he
         simp (maxSteps:=4000000) +contextual -implicitDefEqProofs only [xs.1,y0,y1,↓ao,an,eu,sevalprocAttr]
         unfold allI
         cases bA (fun j=>qP c (k6 c j)) c.insns.length 0 <;> rfl
       | false =>
         cases e13:eqB (xq c) 13 with
         | true =>
           simp (maxSteps:=4000000) -implicitDefEqProofs only [c59,Tryz.f59,aP,g0,g1,hli,↓GP,h86,↓GO,nM,FY,hst,r5,↓az,h0,h1,h2,hw1,hix,hrd0,e15,e13,↓ao,an,eu,sevalprocAttr]
           generalize hX:EvC aa C0 W0 _ (Code.loop _) _=Z
           obtain ⟨X,Y,K1,K2,he,xs,y0,y1⟩:=AS  hX hG hq hkb (dB h.ni (by decide)) (al.refl _) (by simp only [ls,g0]) (by simp only [g0,gB,sevalprocAttr]; try rfl) (by simp only [g0,gB,sevalprocAttr]; try rfl) (by simp only [g0,gB,sevalprocAttr]; try rfl) (by simp only [g0,gB,sevalprocAttr]; try rfl) (by simp only [g0,gB,sevalprocAttr]; try rfl)
           subst he
           simp (maxSteps:=4000000) +contextual -implicitDefEqProofs only [xs.1,y0,y1,↓ao,an,eu,sevalprocAttr]
           unfold allI
           cases bA (fun j=>qP c (k6 c j)) c.insns.length 0 <;> rfl
         | false=>simp (maxSteps:=4000000) -implicitDefEqProofs only [c59,Tryz.f59,aP,g0,g1,hli,↓GP,h86,↓GO,nM,FY,hst,r5,↓az,h0,h1,h2,hw1,hix,hrd0,e15,e13,↓ao,an,eu,sevalprocAttr]
theorem Tg (s:ByteArray) (H:AH):bf aa none 164 1 [(0,.str s)] H=some (.slice H.length 0 1 1 1 true,H++[.cells [.str s] 9]):=by kernel_rfl
theorem Fm (s:ByteArray) (H L:AH):bf aa none 164 1 [(0,.str s)] (H++L)=some (.slice (H.length+L.length) 0 1 1 1 true,H++(L++[.cells [.str s] 9])):=by rw [Tg,ai,aE]
theorem Own.ge {b:Nat} {H:AH} {es:Nat} {elem:TypeId} {v:AV} {xs:List AV} (h:Own b H es elem v xs) {i k e len cap:Nat} {ex:Bool} (hv:v=.slice i k e len cap ex):b<=i/\i < H.length:=by
 cases h with
 | nil=>cases hv
 | «at» i2 k2 len2 cap2 ex2 cs2 xs2 hb2 hi2 hl2 hc2 h2=>cases hv; exact ⟨hb2,aJ hi2⟩
theorem XA:pW aa 164 (some 164) 9 1:=⟨by kernel_rfl,⟨.str eS,by kernel_rfl,by kernel_rfl,by simp [AV.cells]⟩,by kernel_rfl,by kernel_rfl⟩
theorem by9:aa.bytesOf 9=16:=by kernel_rfl
theorem FJ {G K:AH} {v:AV} {l:List ByteArray} (hA:al G K) (ho:Own G.length K 1 9 v (l.map .str)) (hl:l.length < 2 ^ 30) (s:ByteArray) :
   ∃ v' K',gv aa none 164 (some 164) v (.slice K.length 0 1 1 1 true) (K++[.cells [.str s] 9])=some (v',K')/\al G K'/\Own G.length K' 1 9 v' ((l++[s]).map .str):=by
 have hlen:=ho.length
 rw [au,dS] at hlen
 have ho':Own G.length (K++[.cells [.str s] 9]) 1 9 v (l.map .str):=ho.other fun i k es len cap ex e=>aq (ho.ge e).2
 have hrow:Row (K++[.cells [.str s] 9]) 1 (.slice K.length 0 1 1 1 true) [.str s]:=.at _ _ _ _ _ _ (by rw [gu]; rfl)
 obtain ⟨v',K',he,hown,hlv,hll,hsame⟩:=r7 XA ho' (by rw [ai]; exact Nat.le_add_right_of_le hA.len) hrow rfl (by
   rw [by9,<-hlen,cg]; unfold fR; rw [aD,decide_eq_true_iff,decide_eq_true_iff]; constructor <;> omega)
 refine ⟨v',K',he,fun j hj=>?_,by rw [List.map_append]; exact hown⟩
 rw [hsame j (by rw [ai]; exact Nat.lt_add_right _ (bm hj hA.len)),aq (bm hj hA.len),hA j hj]
 intro i k len cap ex e
 have:=(ho.ge e).1
 omega
theorem H8 {G:AH} {c:Cod} {vp vs vi:AV} {q:Nat} (h:dO G c vp vs vi) (hq:G[q]? =some (.cells (bF c vp vs vi) 66)) (hb:c.params.length<=6) (hN:c.params.length < 2 ^ 60):∀ (d j:Nat) (tm:List AV) (K:AH),c.params.length - j=d->j<=c.params.length->(tm.length=98/\al G K/\tm.getD 1 uA=.ptr q 0/\tm.getD 4 uA=I ((j:Nat):Int)/\∃ v,tm.getD 3 uA=v/\Own G.length K 1 9 v (((pNs c).take j).map .str)) ->
   ∃ X K1,EvC aa C0 W0 m8 EK (tm,K)=some (.exit 0,(X,K1))/\(X.length=98/\al G K1/\X.getD 1 uA=.ptr q 0/\X.getD 4 uA=I ((c.params.length:Nat):Int)/\∃ v,X.getD 3 uA=v/\Own G.length K1 1 9 v (((pNs c).take c.params.length).map .str)):=by
 intro d
 induction d with
 | zero =>
   intro j tm K hd hj hI
   have hjl:j=c.params.length:=by omega
   subst hjl
   have hI0:=hI
   obtain ⟨hlen,hA,h1,hx,v,h3,ho⟩:=hI
   have hlt:ltB (((c.params.length:Nat)):Int) (c.params.length:Nat)=false:=db (by omega)
   have hbq:∀ L k n,ak (K++L) q k n=if k+n<=(bF c vp vs vi).length then some (((bF c vp vs vi).drop k).take n) else none:=fun L k n=>eQ (hA.get hq) L k n
   have hbq0:∀ k n,ak K q k n=if k+n<=(bF c vp vs vi).length then some (((bF c vp vs vi).drop k).take n) else none:=fun k n=>by have:=hbq [] k n; rwa [af] at this
   have hlp:=h.lp
   rw [Lh]
   simp (maxSteps:=4000000) -implicitDefEqProofs only [Fp,Tryz.f66,aP,hlen,h1,hx,h3,hlt,hbq0,hlp,r5,↓az,↓ao,an,eu,sevalprocAttr]
   refine ⟨_,K,rfl,?_⟩
   exact ⟨by first | exact hlen | simp only [ar,hlen],hA,Aj2 (by simp only [hlen,h1,hx,gB,and_self,sevalprocAttr]) ⟨v,by simp only [hlen,h3,gB,sevalprocAttr],ho⟩⟩
 | succ d ih =>
   intro j tm K hd hj hI
   have hI0:=hI
   obtain ⟨hlen,hA,h1,hx,v,h3,ho⟩:=hI
   have hjN:j < c.params.length:=by omega
   have hlt:ltB (j:Int) (c.params.length:Nat)=true:=cQ (by omega)
   have hw:=cD (j:=j) (by omega)
   have hbq:∀ L k n,ak (K++L) q k n=if k+n<=(bF c vp vs vi).length then some (((bF c vp vs vi).drop k).take n) else none:=fun L k n=>eQ (hA.get hq) L k n
   have hbq0:∀ k n,ak K q k n=if k+n<=(bF c vp vs vi).length then some (((bF c vp vs vi).drop k).take n) else none:=fun k n=>by have:=hbq [] k n; rwa [af] at this
   have hlp:=h.lp
   obtain ⟨i,k,b,hix,hrd0,hrd2⟩:=Ix h hA hjN
   have hts:=qe (l:=pNs c) (j:=j) (by rw [kJ]; exact hjN)
   obtain ⟨v',K',happ,hA',ho'⟩:=FJ hA ho (by rw [eW]; omega) (fQ (pNs c) j)
   rw [Lh]
   rw [<-af K]
   simp (maxSteps:=4000000) -implicitDefEqProofs only [Fp,Tryz.f66,aP,hlen,h1,hx,h3,hlt,hw,hbq,hlp,hix,hrd0,↓ck,↓gh,Fm,happ,r5,↓az,↓ao,an,eu,sevalprocAttr]
   generalize hX:EvC aa C0 W0 _ _ _=Z
   have key:∀ (tmN:List AV) (KN:AH),EvC aa C0 W0 m8 EK (tmN,KN)=Z->(tmN.length=98/\al G KN/\tmN.getD 1 uA=.ptr q 0/\tmN.getD 4 uA=I (((j+1):Nat):Int)/\∃ v,tmN.getD 3 uA=v/\Own G.length KN 1 9 v (((pNs c).take (j+1)).map .str))->∃ X K1,Z=some (.exit 0,(X,K1))/\(X.length=98/\al G K1/\X.getD 1 uA=.ptr q 0/\X.getD 4 uA=I ((c.params.length:Nat):Int)/\∃ v,X.getD 3 uA=v/\Own G.length K1 1 9 v (((pNs c).take c.params.length).map .str)):=by
     intro tmN KN h hJ
     obtain ⟨X,K1,A,B⟩:=ih (j+1) tmN KN (by omega) (by omega) hJ
     exact ⟨X,K1,h.symm.trans A,B⟩
   refine key _ _ hX ?_
   exact ⟨by simp only [ls,hlen],hA',Aj2 (by simp only [hlen,h1,hx,gB,and_self,sevalprocAttr]) ⟨v',by simp only [hlen,h3,gB,sevalprocAttr],by rw [hts]; first | exact ho' | (rw [<-aE]; exact ho')⟩⟩
theorem Gg {G:AH} {c:Cod} {vp vs vi:AV} {q:Nat} {tm:List AV} {K:AH} {Z:Option (bu × St)} (hX:EvC aa C0 W0 m8 EK (tm,K)=Z) (h:dO G c vp vs vi) (hq:G[q]? =some (.cells (bF c vp vs vi) 66)) (hb:c.params.length<=6) (hN:c.params.length < 2 ^ 60) (hI:tm.length=98/\al G K/\tm.getD 1 uA=.ptr q 0/\tm.getD 4 uA=I ((0:Nat):Int)/\∃ v,tm.getD 3 uA=v/\Own G.length K 1 9 v (((pNs c).take 0).map .str)) :
   ∃ X K1,Z=some (.exit 0,(X,K1))/\(X.length=98/\al G K1/\X.getD 1 uA=.ptr q 0/\X.getD 4 uA=I ((c.params.length:Nat):Int)/\∃ v,X.getD 3 uA=v/\Own G.length K1 1 9 v (((pNs c).take c.params.length).map .str)):=by
 subst hX
 exact H8 h hq hb hN (c.params.length) 0 tm K (by omega) (by omega) hI
theorem H7 {G:AH} {c:Cod} {vp vs vi:AV} {q:Nat} (h:dO G c vp vs vi) (hq:G[q]? =some (.cells (bF c vp vs vi) 66)) (hb:c.params.length<=6) (hb2:c.shared.length<=4) (hN:c.shared.length < 2 ^ 60):∀ (d j:Nat) (tm:List AV) (K:AH),c.shared.length - j=d->j<=c.shared.length->(tm.length=98/\al G K/\tm.getD 1 uA=.ptr q 0/\tm.getD 5 uA=I ((j:Nat):Int)/\∃ v,tm.getD 3 uA=v/\Own G.length K 1 9 v ((pNs c++(sNs c).take j).map .str)) ->
   ∃ X K1 Y K2,EvC aa C0 W0 m8 EJ (tm,K)=br (bA (fun j=>(!ltB (jO c j) 1 && !ltB 64 (jO c j))) (c.shared.length) (j)) (some (.exit 2,(X,K1))) (some (.ret,(Y,K2)))/\(bA (fun j=>(!ltB (jO c j) 1 && !ltB 64 (jO c j))) (c.shared.length) (j)=true->X.length=98/\al G K1/\X.getD 1 uA=.ptr q 0/\X.getD 5 uA=I ((c.shared.length:Nat):Int)/\∃ v,X.getD 3 uA=v/\Own G.length K1 1 9 v ((pNs c++(sNs c).take c.shared.length).map .str))/\Y.length=98/\Y.getD 2 uA=.bool false:=by
 intro d
 induction d with
 | zero =>
   intro j tm K hd hj hI
   have hjl:j=c.shared.length:=by omega
   subst hjl
   have hI0:=hI
   obtain ⟨hlen,hA,h1,hx,v,h3,ho⟩:=hI
   have hlt:ltB (((c.shared.length:Nat)):Int) (c.shared.length:Nat)=false:=db (by omega)
   have hbq:∀ L k n,ak (K++L) q k n=if k+n<=(bF c vp vs vi).length then some (((bF c vp vs vi).drop k).take n) else none:=fun L k n=>eQ (hA.get hq) L k n
   have hbq0:∀ k n,ak K q k n=if k+n<=(bF c vp vs vi).length then some (((bF c vp vs vi).drop k).take n) else none:=fun k n=>by have:=hbq [] k n; rwa [af] at this
   have hls:=h.ls
   rw [cN (ax _)]
   rw [Lg]
   simp (maxSteps:=4000000) -implicitDefEqProofs only [zC,Tryz.f66,aP,hlen,h1,hx,h3,hlt,hbq0,hls,r5,↓az,↓ao,an,eu,sevalprocAttr]
   refine ⟨_,K,tm.set 2 (.bool false),K,rfl,?_,by simp only [ls,hlen],by simp only [hlen,dq,aM]⟩
   try intro _
   exact ⟨by first | exact hlen | simp only [ar,hlen],hA,Aj2 (by simp only [hlen,h1,hx,gB,and_self,sevalprocAttr]) ⟨v,by simp only [hlen,h3,gB,sevalprocAttr],ho⟩⟩
 | succ d ih =>
   intro j tm K hd hj hI
   have hI0:=hI
   obtain ⟨hlen,hA,h1,hx,v,h3,ho⟩:=hI
   have hjN:j < c.shared.length:=by omega
   have hlt:ltB (j:Int) (c.shared.length:Nat)=true:=cQ (by omega)
   have hw:=cD (j:=j) (by omega)
   have hbq:∀ L k n,ak (K++L) q k n=if k+n<=(bF c vp vs vi).length then some (((bF c vp vs vi).drop k).take n) else none:=fun L k n=>eQ (hA.get hq) L k n
   have hbq0:∀ k n,ak K q k n=if k+n<=(bF c vp vs vi).length then some (((bF c vp vs vi).drop k).take n) else none:=fun k n=>by have:=hbq [] k n; rwa [af] at this
   have hls:=h.ls
   obtain ⟨i,k,hix,hrd0,hrd1,hrd2⟩:=HS h hA hjN
   have hts:=qe (l:=sNs c) (j:=j) (by rw [sy]; exact hjN)
   obtain ⟨v',K',happ,hA',ho'⟩:=FJ hA ho (by rw [ai,eW,kJ]; omega) (fQ (sNs c) j)
   rw [ch hjN]
   rw [Lg]
   rw [<-af K]
   cases hp:((!ltB (jO c j) 1 && !ltB 64 (jO c j))) with
   | true =>
     rw [aD,ba,ba] at hp
     obtain ⟨hp3,hp4⟩:=hp
     simp only [aZ]
     simp (maxSteps:=4000000) -implicitDefEqProofs only [zC,Tryz.f66,aP,hlen,h1,hx,h3,hlt,hw,hbq,hls,hix,hrd0,hrd1,↓ck,↓gh,Fm,happ,r5,↓az,hp3,hp4,↓ao,an,eu,sevalprocAttr]
     generalize hX:EvC aa C0 W0 _ _ _=Z
     have key:∀ (tmN:List AV) (KN:AH),EvC aa C0 W0 m8 EJ (tmN,KN)=Z->(tmN.length=98/\al G KN/\tmN.getD 1 uA=.ptr q 0/\tmN.getD 5 uA=I (((j+1):Nat):Int)/\∃ v,tmN.getD 3 uA=v/\Own G.length KN 1 9 v ((pNs c++(sNs c).take (j+1)).map .str))->∃ X K1 Y K2,Z=br (bA (fun j=>(!ltB (jO c j) 1 && !ltB 64 (jO c j))) (c.shared.length) (j+1)) (some (.exit 2,(X,K1))) (some (.ret,(Y,K2)))/\(bA (fun j=>(!ltB (jO c j) 1 && !ltB 64 (jO c j))) (c.shared.length) (j+1)=true->X.length=98/\al G K1/\X.getD 1 uA=.ptr q 0/\X.getD 5 uA=I ((c.shared.length:Nat):Int)/\∃ v,X.getD 3 uA=v/\Own G.length K1 1 9 v ((pNs c++(sNs c).take c.shared.length).map .str))/\Y.length=98/\Y.getD 2 uA=.bool false:=by
       intro tmN KN h hJ
       obtain ⟨X,K1,Y,K2,A,B⟩:=ih (j+1) tmN KN (by omega) (by omega) hJ
       exact ⟨X,K1,Y,K2,h.symm.trans A,B⟩
     refine key _ _ hX ?_
     exact ⟨by simp only [ls,hlen],hA',Aj2 (by simp only [hlen,h1,hx,gB,and_self,sevalprocAttr]) ⟨v',by simp only [hlen,h3,gB,sevalprocAttr],by rw [hts]; first | exact ho' | (rw [<-aE]; exact ho')⟩⟩
   | false =>
     simp only [bd]
     cases hp3:ltB (jO c j) 1 with
     | true =>
       simp (maxSteps:=4000000) -implicitDefEqProofs only [zC,Tryz.f66,aP,hlen,h1,hx,h3,hlt,hw,hbq,hls,hix,hrd0,hrd1,↓ck,↓gh,Fm,happ,r5,↓az,hp3,↓ao,an,eu,sevalprocAttr]
       exact ⟨tm,K,_,_,rfl,by first | exact trivial | (intro h; cases h),by simp only [ls,hlen],by simp only [hlen,gB,sevalprocAttr]⟩
     | false =>
       rw [hp3] at hp
       have hp4:ltB 64 (jO c j)=true:=by simpa using hp
       simp (maxSteps:=4000000) -implicitDefEqProofs only [zC,Tryz.f66,aP,hlen,h1,hx,h3,hlt,hw,hbq,hls,hix,hrd0,hrd1,↓ck,↓gh,Fm,happ,r5,↓az,hp3,hp4,↓ao,an,eu,sevalprocAttr]
       exact ⟨tm,K,_,_,rfl,by first | exact trivial | (intro h; cases h),by simp only [ls,hlen],by simp only [hlen,gB,sevalprocAttr]⟩
theorem Gf {G:AH} {c:Cod} {vp vs vi:AV} {q:Nat} {tm:List AV} {K:AH} {Z:Option (bu × St)} (hX:EvC aa C0 W0 m8 EJ (tm,K)=Z) (h:dO G c vp vs vi) (hq:G[q]? =some (.cells (bF c vp vs vi) 66)) (hb:c.params.length<=6) (hb2:c.shared.length<=4) (hN:c.shared.length < 2 ^ 60) (hI:tm.length=98/\al G K/\tm.getD 1 uA=.ptr q 0/\tm.getD 5 uA=I ((0:Nat):Int)/\∃ v,tm.getD 3 uA=v/\Own G.length K 1 9 v ((pNs c++(sNs c).take 0).map .str)) :
   ∃ X K1 Y K2,Z=br (bA (fun j=>(!ltB (jO c j) 1 && !ltB 64 (jO c j))) (c.shared.length) (0)) (some (.exit 2,(X,K1))) (some (.ret,(Y,K2)))/\(bA (fun j=>(!ltB (jO c j) 1 && !ltB 64 (jO c j))) (c.shared.length) (0)=true->X.length=98/\al G K1/\X.getD 1 uA=.ptr q 0/\X.getD 5 uA=I ((c.shared.length:Nat):Int)/\∃ v,X.getD 3 uA=v/\Own G.length K1 1 9 v ((pNs c++(sNs c).take c.shared.length).map .str))/\Y.length=98/\Y.getD 2 uA=.bool false:=by
 subst hX
 exact H7 h hq hb hb2 hN (c.shared.length) 0 tm K (by omega) (by omega) hI
theorem C1 {H K:AH} {v:AV} {l:List ByteArray} (hs:SlS 164 1 H v (l.map fun s=>[AV.str s])) (hA:al H K) {j:Nat} (hj:j < l.length):∃ i k,(∀ kk,aG aa 164 v (.int kk (j:Int))=some (.ptr i k))/\(∀ L,ak (K++L) i k 1=some [.str (fQ l j)]):=by
 obtain ⟨i,k,hi,hr⟩:=hs.ix j [.str (fQ l j)] (by
   rw [aI,aj hj]
   unfold fQ
   rw [gde,aj hj]; rfl)
 exact ⟨i,k,hi,fun L=>jB hr hA L⟩
def xH (l:List ByteArray) (i:Nat):Bool:=bA (fun k=>!sEq (fQ l k) (fQ l i)) i 0
def pA (l:List ByteArray) (i:Nat):Bool:=lA (fQ l i) && xH l i
theorem Own.sls {b:Nat} {H:AH} {v:AV} {l:List ByteArray} (h:Own b H 1 9 v (l.map .str)):SlS 164 1 H v (l.map fun s=>[AV.str s]):=by
 have hlen:=h.length
 rw [au,dS] at hlen
 generalize hxs:l.map AV.str=xs at h
 cases h with
 | nil =>
   have:l=[]:=by simpa using hxs
   subst this
   exact ⟨fun G=>Sf G,fun j r hr=>by simp at hr,.inl ⟨rfl,rfl⟩⟩
 | «at» i k len cap ex cs xs hb hi hl hc h =>
   rw [cg] at hlen
   refine ⟨fun G=>by rw [P0,au,hlen],fun j r hr=>?_,.inr ⟨i,k,cap,ex,by rw [au,hlen],by unfold okC; rw [hi],by rw [au,hlen,pF,hxs]; exact h⟩⟩
   rw [aI] at hr
   obtain ⟨w,hw,rfl⟩:=ah.1 hr
   have hj:j < len:=by rw [<-hlen]; exact aJ hw
   refine ⟨i,k+j * 1,fun kk=>by rw [Qe,if_pos ⟨by omega,by omega,rfl⟩]; rfl,?_⟩
   have:=jU h (j:=j) (x:=.str w) (by rw [<-hxs,aI,hw]; rfl)
   rwa [dS]
theorem WS {H:AH} {v:AV} {l:List ByteArray} {i:Nat} (hs:SlS 164 1 H v (l.map fun s=>[AV.str s])) (hi:i < l.length) (hN:i < 2 ^ 60):∀ (d j:Nat) (tm:List AV) (K:AH),i - j=d->j<=i->al H K->tm.length=98->tm.getD 3 uA=v->tm.getD 6 uA=I ((i:Nat):Int)->tm.getD 7 uA=I ((j:Nat):Int) ->
   ∃ X Y K1 K2,EvC aa C0 W0 m8 Jx (tm,K)=br (bA (fun j=>!sEq (fQ l j) (fQ l i)) (i) (j)) (some (.exit 6,(X,K1))) (some (.ret,(Y,K2)))/\(X.length=98/\al H K1/\X.getD 3 uA=v/\X.getD 6 uA=I ((i:Nat):Int))/\Y.length=98/\Y.getD 2 uA=.bool false:=by
 intro d
 induction d with
 | zero =>
   intro j tm K hd hj hA hlen h3 h6 h7
   have hjl:j=i:=by omega
   have hlt:ltB (j:Int) (i:Nat)=false:=db (by omega)
   rw [cN (by omega),Lf]
   simp (maxSteps:=4000000) -implicitDefEqProofs only [Cl,Tryz.f66,aP,hlen,h3,h6,h7,hlt,↓ao,an,eu,sevalprocAttr]
   exact ⟨_,tm.set 2 (.bool false),_,K,rfl,⟨by first | exact hlen | simp only [ar,hlen],hA,by first | exact h3 | simp only [hlen,h3,gB,sevalprocAttr],by first | exact h6 | simp only [hlen,h6,gB,sevalprocAttr]⟩,by simp only [ls,hlen],by simp only [hlen,dq,aM]⟩
 | succ d ih =>
   intro j tm K hd hj hA hlen h3 h6 h7
   have hjN:j < i:=by omega
   have hlt:ltB (j:Int) (i:Nat)=true:=cQ (by omega)
   have hw:=cD (j:=j) (by omega)
   obtain ⟨i0,k0,hix,hrd⟩:=C1 hs hA (j:=j) (by omega)
   obtain ⟨i1,k1,hix1,hrd1⟩:=C1 hs hA hi
   rw [ch hjN,Lf]
   rw [<-af K]
   cases hp:(!sEq (fQ l j) (fQ l i)) with
   | true =>
     simp only [aZ]
     rw [ba] at hp
     simp (maxSteps:=4000000) -implicitDefEqProofs only [Cl,Tryz.f66,aP,hlen,h3,h6,h7,hlt,hw,Be,hix,hrd,hix1,hrd1,hp,r5,↓az,↓ao,an,eu,sevalprocAttr]
     exact ih (j+1) _ _ (by omega) (by omega) (by first | exact hA | exact hA.bS _ | exact (hA.bS _).bS _ | exact hA) (by simp only [ls,hlen]) (by simp only [hlen,h3,gB,sevalprocAttr]) (by simp only [hlen,h6,gB,sevalprocAttr]) (by simp only [hlen,h7,gB,sevalprocAttr])
   | false =>
     simp only [bd]
     rw [Bool.not_eq_false'] at hp
     simp (maxSteps:=4000000) -implicitDefEqProofs only [Cl,Tryz.f66,aP,hlen,h3,h6,h7,hlt,hw,Be,hix,hrd,hix1,hrd1,hp,r5,↓az,↓ao,an,eu,sevalprocAttr]
     exact ⟨tm,_,K,_,rfl,⟨hlen,hA,h3,h6⟩,by simp only [ls,hlen],by simp only [hlen,gB,sevalprocAttr]⟩
theorem LQ {H:AH} {v:AV} {l:List ByteArray} {i:Nat} {tm:List AV} {K:AH} {Z:Option (bu × St)} (hX:EvC aa C0 W0 m8 Jx (tm,K)=Z) (hs:SlS 164 1 H v (l.map fun s=>[AV.str s])) (hi:i < l.length) (hN:i < 2 ^ 60) (hA:al H K) (hlen:tm.length=98) (h3:tm.getD 3 uA=v) (h6:tm.getD 6 uA=I ((i:Nat):Int)) (h7:tm.getD 7 uA=I ((0:Nat):Int)) :
   ∃ X Y K1 K2,Z=br (bA (fun j=>!sEq (fQ l j) (fQ l i)) (i) (0)) (some (.exit 6,(X,K1))) (some (.ret,(Y,K2)))/\(X.length=98/\al H K1/\X.getD 3 uA=v/\X.getD 6 uA=I ((i:Nat):Int))/\Y.length=98/\Y.getD 2 uA=.bool false:=by
 subst hX
 exact WS hs hi hN (i) 0 tm K (by omega) (by omega) hA hlen h3 h6 h7
theorem Uz {H:AH} {v:AV} {l:List ByteArray} (hs:SlS 164 1 H v (l.map fun s=>[AV.str s])) (hz:∀ s∈l,s.size < 2 ^ 60) (hN:l.length < 2 ^ 60):∀ (d j:Nat) (tm:List AV) (K:AH),l.length - j=d->j<=l.length->(tm.length=98/\al H K/\tm.getD 3 uA=v/\tm.getD 6 uA=I ((j:Nat):Int)) ->
   ∃ X K1 Y K2,EvC aa C0 W0 m8 EI (tm,K)=br (bA (fun j=>pA l j) (l.length) (j)) (some (.exit 4,(X,K1))) (some (.ret,(Y,K2)))/\(bA (fun j=>pA l j) (l.length) (j)=true->X.length=98/\al H K1/\X.getD 3 uA=v/\X.getD 6 uA=I ((l.length:Nat):Int))/\Y.length=98/\Y.getD 2 uA=.bool false:=by
 intro d
 induction d with
 | zero =>
   intro j tm K hd hj hI
   have hjl:j=l.length:=by omega
   subst hjl
   have hI0:=hI
   obtain ⟨hlen,hA,h3,h6⟩:=hI
   have hlt:ltB (((l.length:Nat)):Int) (l.length:Nat)=false:=db (by omega)
   have hl:∀ G,dR aa 164 G v=some (I l.length):=fun G=>by have:=hs.len G; rwa [au] at this
   rw [cN (ax _)]
   rw [Le]
   simp (maxSteps:=4000000) -implicitDefEqProofs only [zB,Tryz.f66,aP,hlen,h3,h6,hlt,hl,↓gh,r5,↓az,↓ao,an,eu,sevalprocAttr]
   refine ⟨_,K,tm.set 2 (.bool false),K,rfl,?_,by simp only [ls,hlen],by simp only [hlen,dq,aM]⟩
   try intro _
   exact ⟨by first | exact hlen | simp only [ar,hlen],hA,by simp only [hlen,h3,h6,gB,and_self,sevalprocAttr]⟩
 | succ d ih =>
   intro j tm K hd hj hI
   have hI0:=hI
   obtain ⟨hlen,hA,h3,h6⟩:=hI
   have hjN:j < l.length:=by omega
   have hlt:ltB (j:Int) (l.length:Nat)=true:=cQ (by omega)
   have hw:=cD (j:=j) (by omega)
   have hl:∀ G,dR aa 164 G v=some (I l.length):=fun G=>by have:=hs.len G; rwa [au] at this
   obtain ⟨i,k,hix,hrd⟩:=C1 hs hA hjN
   have hsK:=(hs.same hA)
   have hnz:(fQ l j).size < 2 ^ 60:=by
     unfold fQ
     rw [gde,aj hjN]
     exact hz _ (gC _)
   have h96:=fun L=>Wp hnz L
   rw [ch hjN]
   rw [Le]
   rw [<-af K]
   cases hp:(pA l j) with
   | true =>
     unfold pA at hp
     rw [aD] at hp
     obtain ⟨hp1,hp2⟩:=hp
     simp only [aZ]
     simp (maxSteps:=4000000) -implicitDefEqProofs only [zB,Tryz.f66,aP,hlen,h3,h6,hlt,hw,hl,hix,hrd,↓gh,↓DJ,h96,r5,↓az,hp1,↓ao,an,eu,sevalprocAttr]
     generalize hX:EvC aa C0 W0 _ (Code.loop _) _=Z
     obtain ⟨X,Y,K1,K2,he,xs,y0,y1⟩:=LQ  hX hsK hjN (by omega) (al.app _ _) (by simp only [ls,hlen,h3,h6]) (by simp only [hlen,h3,h6,gB,sevalprocAttr]; try rfl) (by simp only [hlen,h3,h6,gB,sevalprocAttr]; try rfl) (by simp only [hlen,h3,h6,gB,sevalprocAttr]; try rfl)
     subst he
     unfold xH at hp2
     simp (maxSteps:=4000000) -implicitDefEqProofs only [hp2,xs.1,xs.2.2.2,hw,↓ao,an,eu,sevalprocAttr]
     generalize hX:EvC aa C0 W0 _ _ _=Z
     have key:∀ (tmN:List AV) (KN:AH),EvC aa C0 W0 m8 EI (tmN,KN)=Z->(tmN.length=98/\al H KN/\tmN.getD 3 uA=v/\tmN.getD 6 uA=I (((j+1):Nat):Int))->∃ X K1 Y K2,Z=br (bA (fun j=>pA l j) (l.length) (j+1)) (some (.exit 4,(X,K1))) (some (.ret,(Y,K2)))/\(bA (fun j=>pA l j) (l.length) (j+1)=true->X.length=98/\al H K1/\X.getD 3 uA=v/\X.getD 6 uA=I ((l.length:Nat):Int))/\Y.length=98/\Y.getD 2 uA=.bool false:=by
       intro tmN KN h hJ
       obtain ⟨X,K1,Y,K2,A,B⟩:=ih (j+1) tmN KN (by omega) (by omega) hJ
       exact ⟨X,K1,Y,K2,h.symm.trans A,B⟩
     refine key _ _ hX ?_
     exact ⟨by simp only [ls,xs.1],hA.trans xs.2.1,by simp only [xs.1,xs.2.2.1,gB,and_self,sevalprocAttr]⟩
   | false =>
     simp only [bd]
     unfold pA at hp
     cases hp1:lA (fQ l j) with
     | false =>
       simp (maxSteps:=4000000) -implicitDefEqProofs only [zB,Tryz.f66,aP,hlen,h3,h6,hlt,hw,hl,hix,hrd,↓gh,↓DJ,h96,r5,↓az,hp1,↓ao,an,eu,sevalprocAttr]
       exact ⟨tm,K,_,_,rfl,by first | exact trivial | (intro h; cases h),by simp only [ls,hlen],by simp only [hlen,gB,sevalprocAttr]⟩
     | true =>
       rw [hp1,aZ] at hp
       unfold xH at hp
       simp (maxSteps:=4000000) -implicitDefEqProofs only [zB,Tryz.f66,aP,hlen,h3,h6,hlt,hw,hl,hix,hrd,↓gh,↓DJ,h96,r5,↓az,hp1,↓ao,an,eu,sevalprocAttr]
       generalize hX:EvC aa C0 W0 _ (Code.loop _) _=Z
       obtain ⟨X,Y,K1,K2,he,xs,y0,y1⟩:=LQ  hX hsK hjN (by omega) (al.app _ _) (by simp only [ls,hlen,h3,h6]) (by simp only [hlen,h3,h6,gB,sevalprocAttr]; try rfl) (by simp only [hlen,h3,h6,gB,sevalprocAttr]; try rfl) (by simp only [hlen,h3,h6,gB,sevalprocAttr]; try rfl)
       subst he
       simp (maxSteps:=4000000) -implicitDefEqProofs only [hp,y0,y1,↓ao,an,eu,sevalprocAttr]
       exact ⟨tm,K,Y,_,rfl,by first | exact trivial | (intro h; cases h),y0,y1⟩
theorem Sa {H:AH} {v:AV} {l:List ByteArray} {tm:List AV} {K:AH} {Z:Option (bu × St)} (hX:EvC aa C0 W0 m8 EI (tm,K)=Z) (hs:SlS 164 1 H v (l.map fun s=>[AV.str s])) (hz:∀ s∈l,s.size < 2 ^ 60) (hN:l.length < 2 ^ 60) (hI:tm.length=98/\al H K/\tm.getD 3 uA=v/\tm.getD 6 uA=I ((0:Nat):Int)) :
   ∃ X K1 Y K2,Z=br (bA (fun j=>pA l j) (l.length) (0)) (some (.exit 4,(X,K1))) (some (.ret,(Y,K2)))/\(bA (fun j=>pA l j) (l.length) (0)=true->X.length=98/\al H K1/\X.getD 3 uA=v/\X.getD 6 uA=I ((l.length:Nat):Int))/\Y.length=98/\Y.getD 2 uA=.bool false:=by
 subst hX
 exact Uz hs hz hN (l.length) 0 tm K (by omega) (by omega) hI
end Go.Dv
