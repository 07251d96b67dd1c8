/- Part 20 of the walks (own work). -/
import Derived.Test.YtilpjnckfkjkbaaGreatDoorZ19
set_option maxRecDepth 100000
set_option maxHeartbeats 4000000
set_option linter.unusedSimpArgs false
set_option linter.unusedVariables false
namespace Go.Dv
open Go.Proofs
attribute [local congr] bind_congr_first cb_congr condA_congr gd_congr br_congr
theorem leB_succ (n l:Int):ltB n (l+1)=leB n l:=by rw [Bool.eq_iff_iff,ltB_iff,leB_iff]; omega
theorem insP_eq (c:Cod) (k op d a b imm to join:Int) (h0:leB 0 k=true) (h1:ltB k 16=true):insP c ⟨k,op,d,a,b,imm,to,join⟩=(withinP (kD k) d 16 && withinP (kA k) a 16 && withinP (kB k) b 16 && opP k op && immG c (kWord k) (kArr k) (kPar k) (kBar k) (kLoc k) imm && withinP (kTo k) to c.insns.length && withinP (kJoin k) join (c.insns.length+1)):=by
 unfold insP opP
 simp only [h0,h1,Bool.true_and]
 cases br (kFold k) (foldP op) (withinP (ltB 0 (kOps k)) op (kOps k)) <;> cases withinP (kD k) d 16 <;> cases withinP (kA k) a 16 <;> cases withinP (kB k) b 16 <;> simp
theorem ev67 {H:AH} {c:Cod} {vp vs vi:AV} (h:CodR H c vp vs vi) {x:Ins} (hx:i32R x.imm):Ev Tryz.prog C0 W0 67 [.agg (rowC c vp vs vi),.agg (rowI x)] H=some (.bool (insP c x),H):=by
 obtain ⟨tm,ht,g0,g1,g2⟩:=tm2 (.agg (rowC c vp vs vi)) (.agg (rowI x)) 95 (by decide)
 rw [fe67,ht]
 rw [<-List.append_nil (ro H)]
 obtain ⟨kind,op,d,a,b,imm,to,join⟩:=x
 simp only at hx ⊢
 have hli:=h.ro.li
 have hib:=h.ni
 have hle:=leB_succ join c.insns.length
 cases h0:leB 0 kind with
 | false =>
   have h0':ltB kind 0=true:=by rw [ltB_iff]; rw [leB_iff0] at h0; exact h0
   unfold insP
   simp only [h0,Bool.false_and]
   simp (maxSteps:=4000000) -implicitDefEqProofs only [c67,Tryz.f67,aP,g0,g1,g2,r5,↓evLd,hli,h0',↓evDn,evUp,eu,sevalprocAttr]
 | true =>
   have h0':ltB kind 0=false:=by rw [ltB_iff0]; rw [leB_iff] at h0; exact h0
   cases h1:ltB kind 16 with
   | false =>
     have h1':leB 16 kind=true:=by rw [leB_iff]; rw [ltB_iff0] at h1; exact h1
     unfold insP
     simp only [h1,Bool.false_and,Bool.and_false]
     simp (maxSteps:=4000000) -implicitDefEqProofs only [c67,Tryz.f67,aP,g0,g1,g2,r5,↓evLd,hli,h0',h1',↓evDn,evUp,eu,sevalprocAttr]
   | true =>
     have h1':leB 16 kind=false:=by rw [leB_iff0]; rw [ltB_iff] at h1; exact h1
     rw [insP_eq c _ _ _ _ _ _ _ _ h0 h1]
     rw [leB_iff] at h0
     rw [ltB_iff] at h1
     have h97:=fun H=>ev97 h0 h1 H
     have h99:=fun H=>ev99 (x:=⟨kind,op,d,a,b,imm,to,join⟩) h0 h1 H
     have h100:=fun L=>ev100k (h.ro.agree (Agree.app _ L)) h0 h1 op d a b hx to join
     simp only [rowI,rowC] at h99 h100
     have hto:withinP (kTo kind) to c.insns.length=br (eqB kind 13) (leB 0 to && ltB to c.insns.length) (br (eqB kind 14) (leB 0 to && ltB to c.insns.length) (eqB to 0)):=by
       unfold withinP kTo
       cases eqB kind 13 <;> cases eqB kind 14 <;> rfl
     have hjo:withinP (kJoin kind) join (c.insns.length+1)=br (eqB kind 14) (leB 0 join && leB join c.insns.length) (eqB join 0):=by
       unfold withinP kJoin
       rw [leB_succ]
     rw [hto,hjo]
     cases hd:withinP (kD kind) d 16 with
     | false =>
       simp only [Bool.false_and,Bool.and_false]
       cases e13:eqB kind 13 <;> cases e14:eqB kind 14 <;> cases t0:leB 0 to <;> cases j0:leB 0 join <;> simp (maxSteps:=4000000) -implicitDefEqProofs only [c67,Tryz.f67,aP,g0,g1,g2,hli,hle,h97,h99,h100,↓fc97,↓fc98,ev98,↓fc99,↓fc100,r5,↓evLd,h0',h1',hd,e13,e14,t0,j0,↓evDn,evUp,eu,sevalprocAttr]
     | true =>
       cases ha:withinP (kA kind) a 16 with
       | false =>
         simp only [Bool.false_and,Bool.and_false]
         cases e13:eqB kind 13 <;> cases e14:eqB kind 14 <;> cases t0:leB 0 to <;> cases j0:leB 0 join <;> simp (maxSteps:=4000000) -implicitDefEqProofs only [c67,Tryz.f67,aP,g0,g1,g2,hli,hle,h97,h99,h100,↓fc97,↓fc98,ev98,↓fc99,↓fc100,r5,↓evLd,h0',h1',hd,ha,e13,e14,t0,j0,↓evDn,evUp,eu,sevalprocAttr]
       | true =>
         cases hb:withinP (kB kind) b 16 with
         | false =>
           simp only [Bool.false_and,Bool.and_false]
           cases e13:eqB kind 13 <;> cases e14:eqB kind 14 <;> cases t0:leB 0 to <;> cases j0:leB 0 join <;> simp (maxSteps:=4000000) -implicitDefEqProofs only [c67,Tryz.f67,aP,g0,g1,g2,hli,hle,h97,h99,h100,↓fc97,↓fc98,ev98,↓fc99,↓fc100,r5,↓evLd,h0',h1',hd,ha,hb,e13,e14,t0,j0,↓evDn,evUp,eu,sevalprocAttr]
         | true =>
           cases ho:opP kind op with
           | false =>
             simp only [Bool.false_and,Bool.and_false]
             cases e13:eqB kind 13 <;> cases e14:eqB kind 14 <;> cases t0:leB 0 to <;> cases j0:leB 0 join <;> simp (maxSteps:=4000000) -implicitDefEqProofs only [c67,Tryz.f67,aP,g0,g1,g2,hli,hle,h97,h99,h100,↓fc97,↓fc98,ev98,↓fc99,↓fc100,r5,↓evLd,h0',h1',hd,ha,hb,ho,e13,e14,t0,j0,↓evDn,evUp,eu,sevalprocAttr]
           | true =>
             cases hi:immG c (kWord kind) (kArr kind) (kPar kind) (kBar kind) (kLoc kind) imm with
             | false =>
               simp only [Bool.false_and,Bool.and_false]
               cases e13:eqB kind 13 <;> cases e14:eqB kind 14 <;> cases t0:leB 0 to <;> cases j0:leB 0 join <;> simp (maxSteps:=4000000) -implicitDefEqProofs only [c67,Tryz.f67,aP,g0,g1,g2,hli,hle,h97,h99,h100,↓fc97,↓fc98,ev98,↓fc99,↓fc100,r5,↓evLd,h0',h1',hd,ha,hb,ho,hi,e13,e14,t0,j0,↓evDn,evUp,eu,sevalprocAttr]
             | true =>
               cases e13:eqB kind 13 <;> cases e14:eqB kind 14 <;> cases t0:leB 0 to <;> cases j0:leB 0 join <;> simp (maxSteps:=4000000) -implicitDefEqProofs only [c67,Tryz.f67,aP,g0,g1,g2,hli,hle,h97,h99,h100,↓fc97,↓fc98,ev98,↓fc99,↓fc100,r5,↓evLd,h0',h1',hd,ha,hb,ho,hi,e13,e14,t0,j0,↓evDn,evUp,eu,sevalprocAttr] <;> first | (cases eqB to 0 <;> rfl) | (cases ltB to c.insns.length <;> rfl)
def insAt (c:Cod) (j:Nat):Ins:=c.insns.getD j ⟨0,0,0,0,0,0,0,0⟩
theorem insAt_eq {c:Cod} {j:Nat} (h:j < c.insns.length):insAt c j=c.insns[j]'h:=by
 unfold insAt
 rw [gde,List.getElem?_eq_getElem h]; rfl
theorem ins_im {H:AH} {c:Cod} {vp vs vi:AV} (h:CodR H c vp vs vi) {j:Nat} (hj:j < c.insns.length):i32R (insAt c j).imm:=by
 rw [insAt_eq hj]; exact h.im _ (List.getElem_mem _)
theorem ins_at {H K:AH} {c:Cod} {vp vs vi:AV} (h:CodR H c vp vs vi) (hA:Agree H K) {j:Nat} (hj:j < c.insns.length):∃ i k,(∀ kk,indexAddrA Tryz.prog 64 vi (.int kk (j:Int))=some (.ptr i k))/\(∀ L,rdCells (K++L) i k 1=some [I (insAt c j).kind])/\(∀ L,rdCells (K++L) i k 8=some (rowI (insAt c j))):=by
 rw [insAt_eq hj]
 obtain ⟨i,k,hi,hr⟩:=h.i.ix j (rowI (c.insns[j]'hj)) (by rw [List.getElem?_map,List.getElem?_eq_getElem hj]; rfl)
 exact ⟨i,k,hi,fun L=>row_0 hr hA L rfl,fun L=>row_rd hr hA L⟩
theorem ld153 (H:AH) (i k:Nat):ldA Tryz.prog 153 H i k=(rdCells H i k 192).map .agg:=by kernel_rfl
def lastK (c:Cod):Int:=(insAt c (c.insns.length - 1)).kind
def lastP (c:Cod):Bool:=eqB (lastK c) 15 || eqB (lastK c) 13
def allI (c:Cod):Bool:=allF (fun j=>insP c (insAt c j)) c.insns.length 0
def validP (c:Cod):Bool:=headP c && !ltB (c.insns.length:Int) 1 && !ltB 2000 (c.insns.length:Int) && lastP c && allI c
theorem valid_l {G:AH} {c:Cod} {vp vs vi:AV} {q kb:Nat} (h:CodR G c vp vs vi) (hq:G[q]? =some (.cells (rowC c vp vs vi) 66)) (hkb:G[kb]? =some (.cells kindsCs 153)) (hN:c.insns.length < 2 ^ 60):∀ (d j:Nat) (tm:List AV) (K:AH),c.insns.length - j=d->j<=c.insns.length->Agree G K->tm.length=49->tm.getD 1 uA=.ptr q 0->tm.getD 5 uA=.ptr kb 0->tm.getD 37 uA=vi->tm.getD 38 uA=I c.insns.length->tm.getD 39 uA=I ((j:Nat):Int) ->
   ∃ X Y K1 K2,EvC Tryz.prog C0 W0 plN l59_0 (tm,K)=br (allF (fun j=>insP c (insAt c j)) (c.insns.length) (j)) (some (.exit 0,(X,K1))) (some (.ret,(Y,K2)))/\(X.length=49/\Agree G K1/\X.getD 1 uA=.ptr q 0/\X.getD 5 uA=.ptr kb 0/\X.getD 37 uA=vi/\X.getD 38 uA=I c.insns.length)/\Y.length=49/\Y.getD 2 uA=.bool false:=by
 intro d
 induction d with
 | zero =>
   intro j tm K hd hj hA hlen h1 h5 h37 h38 h39
   have hjl:j=c.insns.length:=by omega
   subst hjl
   have hlt:ltB (((c.insns.length:Nat)):Int) (c.insns.length:Nat)=false:=ltB_f (by omega)
   rw [allF_end (Nat.le_refl _),el59_0]
   simp (maxSteps:=4000000) -implicitDefEqProofs only [b59_0,Tryz.f59,aP,hlen,h1,h5,h37,h38,h39,hlt,↓evDn,evUp,eu,sevalprocAttr]
   exact ⟨_,tm.set 2 (.bool false),_,K,rfl,⟨by first | exact hlen | simp only [List.length_set,hlen],hA,by first | exact h1 | simp only [hlen,h1,gB,sevalprocAttr],by first | exact h5 | simp only [hlen,h5,gB,sevalprocAttr],by first | exact h37 | simp only [hlen,h37,gB,sevalprocAttr],by first | exact h38 | simp only [hlen,h38,gB,sevalprocAttr]⟩,by simp only [ls,hlen],by simp only [hlen,gs_self,Nat.reduceLT]⟩
 | succ d ih =>
   intro j tm K hd hj hA hlen h1 h5 h37 h38 h39
   have hjN:j < c.insns.length:=by omega
   have hlt:ltB (j:Int) (c.insns.length:Nat)=true:=ltB_t (by omega)
   have hw:=inc_i (j:=j) (by omega)
   obtain ⟨i,k,hix,hrd0,hrd2⟩:=ins_at h hA hjN
   have h88:=fun L=>ev88 ((h.agree hA).agree (Agree.app K L)) (ins_im h hjN)
   have hbq:∀ L,rdCells (K++L) q 0 5=some (rowC c vp vs vi):=fun L=>obj_rd (hA.get hq) L 0 5
   have hbk:∀ L,rdCells (K++L) kb 0 192=some kindsCs:=fun L=>obj_rd (hA.get hkb) L 0 192
   simp only [rowI,rowC] at h88
   rw [allF_step hjN,el59_0]
   rw [<-List.append_nil K]
   cases hp:(insP c (insAt c j)) with
   | true =>
     simp only [Bool.true_and]
     simp (maxSteps:=4000000) -implicitDefEqProofs only [b59_0,Tryz.f59,aP,hlen,h1,h5,h37,h38,h39,hlt,hw,hix,hrd2,hbq,hbk,↓fc88,h88,z80,st80,ld153,hp,r5,↓evLd,↓evDn,evUp,eu,sevalprocAttr]
     exact ih (j+1) _ _ (by omega) (by omega) (by first | exact hA | exact hA.appR _ | exact (hA.appR _).appR _) (by simp only [ls,hlen]) (by simp only [hlen,h1,gB,sevalprocAttr]) (by simp only [hlen,h5,gB,sevalprocAttr]) (by simp only [hlen,h37,gB,sevalprocAttr]) (by simp only [hlen,h38,gB,sevalprocAttr]) (by simp only [hlen,h39,gB,sevalprocAttr])
   | false =>
     simp only [Bool.false_and]
     simp (maxSteps:=4000000) -implicitDefEqProofs only [b59_0,Tryz.f59,aP,hlen,h1,h5,h37,h38,h39,hlt,hw,hix,hrd2,hbq,hbk,↓fc88,h88,z80,st80,ld153,hp,r5,↓evLd,↓evDn,evUp,eu,sevalprocAttr]
     exact ⟨tm,_,K,_,rfl,⟨hlen,hA,h1,h5,h37,h38⟩,by simp only [ls,hlen],by simp only [hlen,gB,sevalprocAttr]⟩
theorem valid_l' {G:AH} {c:Cod} {vp vs vi:AV} {q kb:Nat} {tm:List AV} {K:AH} {Z:Option (AExit × St)} (hX:EvC Tryz.prog C0 W0 plN l59_0 (tm,K)=Z) (h:CodR G c vp vs vi) (hq:G[q]? =some (.cells (rowC c vp vs vi) 66)) (hkb:G[kb]? =some (.cells kindsCs 153)) (hN:c.insns.length < 2 ^ 60) (hA:Agree G K) (hlen:tm.length=49) (h1:tm.getD 1 uA=.ptr q 0) (h5:tm.getD 5 uA=.ptr kb 0) (h37:tm.getD 37 uA=vi) (h38:tm.getD 38 uA=I c.insns.length) (h39:tm.getD 39 uA=I ((0:Nat):Int)) :
   ∃ X Y K1 K2,Z=br (allF (fun j=>insP c (insAt c j)) (c.insns.length) (0)) (some (.exit 0,(X,K1))) (some (.ret,(Y,K2)))/\(X.length=49/\Agree G K1/\X.getD 1 uA=.ptr q 0/\X.getD 5 uA=.ptr kb 0/\X.getD 37 uA=vi/\X.getD 38 uA=I c.insns.length)/\Y.length=49/\Y.getD 2 uA=.bool false:=by
 subst hX
 exact valid_l h hq hkb hN (c.insns.length) 0 tm K (by omega) (by omega) hA hlen h1 h5 h37 h38 h39
theorem ev59 {H:AH} {c:Cod} {vp vs vi:AV} (h:CodR H c vp vs vi):Ev Tryz.prog C0 W0 59 [.agg (rowC c vp vs vi)] H=some (.bool (validP c),H):=by
 obtain ⟨tm,ht,g0,g1⟩:=tm1 (.agg (rowC c vp vs vi)) 49 (by decide)
 rw [fe59,ht]
 rw [<-List.append_nil (ro H)]
 unfold validP
 have hli:=h.ro.li
 have hib:=h.ni
 have h86:=fun L=>ev86 (h.ro.agree (Agree.app (ro H) L))
 simp only [rowC] at h86
 have hst:stA Tryz.prog 153 (ro H++[AObj.cells [AV.str c.name,vp,vs,I c.loc,vi] 66,AObj.cells z153L 153]) ((ro H).length+1) 0 (.agg kindsCs)=some (ro H++[AObj.cells [AV.str c.name,vp,vs,I c.loc,vi] 66,AObj.cells kindsCs 153]):=by
   rw [st153,if_pos (show (AV.agg kindsCs).cells.length=192 from rfl)]
   exact wr_fullA (ro H) [AObj.cells [AV.str c.name,vp,vs,I c.loc,vi] 66] 1 [] z153L kindsCs 153 rfl rfl rfl
 cases h0:headP c with
 | false=>simp (maxSteps:=4000000) -implicitDefEqProofs only [c59,Tryz.f59,aP,g0,g1,hli,↓fc86,h86,↓fc87,kinds_ev,z153,hst,r5,↓evLd,h0,↓evDn,evUp,eu,sevalprocAttr]
 | true =>
   cases h1:ltB (c.insns.length:Int) 1 with
   | true=>simp (maxSteps:=4000000) -implicitDefEqProofs only [c59,Tryz.f59,aP,g0,g1,hli,↓fc86,h86,↓fc87,kinds_ev,z153,hst,r5,↓evLd,h0,h1,↓evDn,evUp,eu,sevalprocAttr]
   | false =>
     cases h2:ltB 2000 (c.insns.length:Int) with
     | true=>simp (maxSteps:=4000000) -implicitDefEqProofs only [c59,Tryz.f59,aP,g0,g1,hli,↓fc86,h86,↓fc87,kinds_ev,z153,hst,r5,↓evLd,h0,h1,h2,↓evDn,evUp,eu,sevalprocAttr]
     | false =>
       have hn1:1<=c.insns.length:=by rw [ltB_iff0] at h1; omega
       have hw1:IntKind.i64.wrap ((c.insns.length:Int) - 1)=((c.insns.length - 1:Nat):Int):=by rw [wr_i (by omega)]; omega
       obtain ⟨i,k,hix,hrd0,hrd2⟩:=ins_at h.ro (Agree.refl _) (j:=c.insns.length - 1) (by omega)
       have hlk:(insAt c (c.insns.length - 1)).kind=lastK c:=rfl
       rw [hlk] at hrd0
       unfold lastP
       have hG:CodR (ro H++[AObj.cells (rowC c vp vs vi) 66,AObj.cells kindsCs 153]) c vp vs vi:=h.ro.agree (Agree.app _ _)
       have hq:(ro H++[AObj.cells (rowC c vp vs vi) 66,AObj.cells kindsCs 153])[(ro H).length]? =some (.cells (rowC c vp vs vi) 66):=by rw [List.getElem?_append_right (Nat.le_refl _),Nat.sub_self]; rfl
       have hkb:(ro H++[AObj.cells (rowC c vp vs vi) 66,AObj.cells kindsCs 153])[(ro H).length+1]? =some (.cells kindsCs 153):=by rw [List.getElem?_append_right (Nat.le_add_right _ _),Nat.add_sub_cancel_left]; rfl
       cases e15:eqB (lastK c) 15 with
       | true =>
         simp (maxSteps:=4000000) -implicitDefEqProofs only [c59,Tryz.f59,aP,g0,g1,hli,↓fc86,h86,↓fc87,kinds_ev,z153,hst,r5,↓evLd,h0,h1,h2,hw1,hix,hrd0,e15,↓evDn,evUp,eu,sevalprocAttr]
         generalize hX:EvC Tryz.prog C0 W0 _ (Code.loop _) _=Z
         obtain ⟨X,Y,K1,K2,he,xs,y0,y1⟩:=valid_l'  hX hG hq hkb (Nat.lt_trans h.ni (by decide)) (Agree.refl _) (by simp only [ls,g0]) (by simp only [g0,gB,sevalprocAttr]; try rfl) (by simp only [g0,gB,sevalprocAttr]; try rfl) (by simp only [g0,gB,sevalprocAttr]; try rfl) (by simp only [g0,gB,sevalprocAttr]; try rfl) (by simp only [g0,gB,sevalprocAttr]; try rfl)
         subst he
         simp (maxSteps:=4000000) +contextual -implicitDefEqProofs only [xs.1,y0,y1,↓evDn,evUp,eu,sevalprocAttr]
         unfold allI
         cases allF (fun j=>insP c (insAt c j)) c.insns.length 0 <;> rfl
       | false =>
         cases e13:eqB (lastK c) 13 with
         | true =>
           simp (maxSteps:=4000000) -implicitDefEqProofs only [c59,Tryz.f59,aP,g0,g1,hli,↓fc86,h86,↓fc87,kinds_ev,z153,hst,r5,↓evLd,h0,h1,h2,hw1,hix,hrd0,e15,e13,↓evDn,evUp,eu,sevalprocAttr]
           generalize hX:EvC Tryz.prog C0 W0 _ (Code.loop _) _=Z
           obtain ⟨X,Y,K1,K2,he,xs,y0,y1⟩:=valid_l'  hX hG hq hkb (Nat.lt_trans h.ni (by decide)) (Agree.refl _) (by simp only [ls,g0]) (by simp only [g0,gB,sevalprocAttr]; try rfl) (by simp only [g0,gB,sevalprocAttr]; try rfl) (by simp only [g0,gB,sevalprocAttr]; try rfl) (by simp only [g0,gB,sevalprocAttr]; try rfl) (by simp only [g0,gB,sevalprocAttr]; try rfl)
           subst he
           simp (maxSteps:=4000000) +contextual -implicitDefEqProofs only [xs.1,y0,y1,↓evDn,evUp,eu,sevalprocAttr]
           unfold allI
           cases allF (fun j=>insP c (insAt c j)) c.insns.length 0 <;> rfl
         | false=>simp (maxSteps:=4000000) -implicitDefEqProofs only [c59,Tryz.f59,aP,g0,g1,hli,↓fc86,h86,↓fc87,kinds_ev,z153,hst,r5,↓evLd,h0,h1,h2,hw1,hix,hrd0,e15,e13,↓evDn,evUp,eu,sevalprocAttr]
theorem bs164' (s:ByteArray) (H:AH):buildSliceA Tryz.prog none 164 1 [(0,.str s)] H=some (.slice H.length 0 1 1 1 true,H++[.cells [.str s] 9]):=by kernel_rfl
theorem bs164 (s:ByteArray) (H L:AH):buildSliceA Tryz.prog none 164 1 [(0,.str s)] (H++L)=some (.slice (H.length+L.length) 0 1 1 1 true,H++(L++[.cells [.str s] 9])):=by rw [bs164',List.length_append,List.append_assoc]
theorem Own.ge {b:Nat} {H:AH} {es:Nat} {elem:TypeId} {v:AV} {xs:List AV} (h:Own b H es elem v xs) {i k e len cap:Nat} {ex:Bool} (hv:v=.slice i k e len cap ex):b<=i/\i < H.length:=by
 cases h with
 | nil=>cases hv
 | «at» i2 k2 len2 cap2 ex2 cs2 xs2 hb2 hi2 hl2 hc2 h2=>cases hv; exact ⟨hb2,lt_of_get hi2⟩
theorem at164:AppT Tryz.prog 164 (some 164) 9 1:=⟨by kernel_rfl,⟨.str eS,by kernel_rfl,by kernel_rfl,by simp [AV.cells]⟩,by kernel_rfl,by kernel_rfl⟩
theorem by9:Tryz.prog.bytesOf 9=16:=by kernel_rfl
theorem app_str {G K:AH} {v:AV} {l:List ByteArray} (hA:Agree G K) (ho:Own G.length K 1 9 v (l.map .str)) (hl:l.length < 2 ^ 30) (s:ByteArray) :
   ∃ v' K',appendA Tryz.prog none 164 (some 164) v (.slice K.length 0 1 1 1 true) (K++[.cells [.str s] 9])=some (v',K')/\Agree G K'/\Own G.length K' 1 9 v' ((l++[s]).map .str):=by
 have hlen:=ho.length
 rw [List.length_map,Nat.mul_one] at hlen
 have ho':Own G.length (K++[.cells [.str s] 9]) 1 9 v (l.map .str):=ho.other fun i k es len cap ex e=>List.getElem?_append_left (ho.ge e).2
 have hrow:Row (K++[.cells [.str s] 9]) 1 (.slice K.length 0 1 1 1 true) [.str s]:=.at _ _ _ _ _ _ (by rw [rd_app0]; rfl)
 obtain ⟨v',K',he,hown,hlv,hll,hsame⟩:=append_own at164 ho' (by rw [List.length_append]; exact Nat.le_add_right_of_le hA.len) hrow rfl (by
   rw [by9,<-hlen,lenOfA_slice]; unfold growOk; rw [Bool.and_eq_true,decide_eq_true_iff,decide_eq_true_iff]; constructor <;> omega)
 refine ⟨v',K',he,fun j hj=>?_,by rw [List.map_append]; exact hown⟩
 rw [hsame j (by rw [List.length_append]; exact Nat.lt_add_right _ (Nat.lt_of_lt_of_le hj hA.len)),List.getElem?_append_left (Nat.lt_of_lt_of_le hj hA.len),hA j hj]
 intro i k len cap ex e
 have:=(ho.ge e).1
 omega
theorem rhead_pl {G:AH} {c:Cod} {vp vs vi:AV} {q:Nat} (h:CodR G c vp vs vi) (hq:G[q]? =some (.cells (rowC c vp vs vi) 66)) (hb:c.params.length<=6) (hN:c.params.length < 2 ^ 60):∀ (d j:Nat) (tm:List AV) (K:AH),c.params.length - j=d->j<=c.params.length->(tm.length=98/\Agree G K/\tm.getD 1 uA=.ptr q 0/\tm.getD 4 uA=I ((j:Nat):Int)/\∃ v,tm.getD 3 uA=v/\Own G.length K 1 9 v (((pNs c).take j).map .str)) ->
   ∃ X K1,EvC Tryz.prog C0 W0 pl66 l66_0 (tm,K)=some (.exit 0,(X,K1))/\(X.length=98/\Agree G K1/\X.getD 1 uA=.ptr q 0/\X.getD 4 uA=I ((c.params.length:Nat):Int)/\∃ v,X.getD 3 uA=v/\Own G.length K1 1 9 v (((pNs c).take c.params.length).map .str)):=by
 intro d
 induction d with
 | zero =>
   intro j tm K hd hj hI
   have hjl:j=c.params.length:=by omega
   subst hjl
   have hI0:=hI
   obtain ⟨hlen,hA,h1,hx,v,h3,ho⟩:=hI
   have hlt:ltB (((c.params.length:Nat)):Int) (c.params.length:Nat)=false:=ltB_f (by omega)
   have hbq:∀ L k n,rdCells (K++L) q k n=if k+n<=(rowC c vp vs vi).length then some (((rowC c vp vs vi).drop k).take n) else none:=fun L k n=>obj_rd (hA.get hq) L k n
   have hbq0:∀ k n,rdCells K q k n=if k+n<=(rowC c vp vs vi).length then some (((rowC c vp vs vi).drop k).take n) else none:=fun k n=>by have:=hbq [] k n; rwa [List.append_nil] at this
   have hlp:=h.lp
   rw [el66_0]
   simp (maxSteps:=4000000) -implicitDefEqProofs only [b66_0,Tryz.f66,aP,hlen,h1,hx,h3,hlt,hbq0,hlp,r5,↓evLd,↓evDn,evUp,eu,sevalprocAttr]
   refine ⟨_,K,rfl,?_⟩
   exact ⟨by first | exact hlen | simp only [List.length_set,hlen],hA,Aj2 (by simp only [hlen,h1,hx,gB,and_self,sevalprocAttr]) ⟨v,by simp only [hlen,h3,gB,sevalprocAttr],ho⟩⟩
 | succ d ih =>
   intro j tm K hd hj hI
   have hI0:=hI
   obtain ⟨hlen,hA,h1,hx,v,h3,ho⟩:=hI
   have hjN:j < c.params.length:=by omega
   have hlt:ltB (j:Int) (c.params.length:Nat)=true:=ltB_t (by omega)
   have hw:=inc_i (j:=j) (by omega)
   have hbq:∀ L k n,rdCells (K++L) q k n=if k+n<=(rowC c vp vs vi).length then some (((rowC c vp vs vi).drop k).take n) else none:=fun L k n=>obj_rd (hA.get hq) L k n
   have hbq0:∀ k n,rdCells K q k n=if k+n<=(rowC c vp vs vi).length then some (((rowC c vp vs vi).drop k).take n) else none:=fun k n=>by have:=hbq [] k n; rwa [List.append_nil] at this
   have hlp:=h.lp
   obtain ⟨i,k,b,hix,hrd0,hrd2⟩:=prn_at h hA hjN
   have hts:=take_snoc (l:=pNs c) (j:=j) (by rw [pNs_len]; exact hjN)
   obtain ⟨v',K',happ,hA',ho'⟩:=app_str hA ho (by rw [List.length_take]; omega) (nmAt (pNs c) j)
   rw [el66_0]
   rw [<-List.append_nil K]
   simp (maxSteps:=4000000) -implicitDefEqProofs only [b66_0,Tryz.f66,aP,hlen,h1,hx,h3,hlt,hw,hbq,hlp,hix,hrd0,↓callA_append,↓callA_len,bs164,happ,r5,↓evLd,↓evDn,evUp,eu,sevalprocAttr]
   generalize hX:EvC Tryz.prog C0 W0 _ _ _=Z
   have key:∀ (tmN:List AV) (KN:AH),EvC Tryz.prog C0 W0 pl66 l66_0 (tmN,KN)=Z->(tmN.length=98/\Agree G KN/\tmN.getD 1 uA=.ptr q 0/\tmN.getD 4 uA=I (((j+1):Nat):Int)/\∃ v,tmN.getD 3 uA=v/\Own G.length KN 1 9 v (((pNs c).take (j+1)).map .str))->∃ X K1,Z=some (.exit 0,(X,K1))/\(X.length=98/\Agree G K1/\X.getD 1 uA=.ptr q 0/\X.getD 4 uA=I ((c.params.length:Nat):Int)/\∃ v,X.getD 3 uA=v/\Own G.length K1 1 9 v (((pNs c).take c.params.length).map .str)):=by
     intro tmN KN h hJ
     obtain ⟨X,K1,A,B⟩:=ih (j+1) tmN KN (by omega) (by omega) hJ
     exact ⟨X,K1,h.symm.trans A,B⟩
   refine key _ _ hX ?_
   exact ⟨by simp only [ls,hlen],hA',Aj2 (by simp only [hlen,h1,hx,gB,and_self,sevalprocAttr]) ⟨v',by simp only [hlen,h3,gB,sevalprocAttr],by rw [hts]; first | exact ho' | (rw [<-List.append_assoc]; exact ho')⟩⟩
theorem rhead_pl' {G:AH} {c:Cod} {vp vs vi:AV} {q:Nat} {tm:List AV} {K:AH} {Z:Option (AExit × St)} (hX:EvC Tryz.prog C0 W0 pl66 l66_0 (tm,K)=Z) (h:CodR G c vp vs vi) (hq:G[q]? =some (.cells (rowC c vp vs vi) 66)) (hb:c.params.length<=6) (hN:c.params.length < 2 ^ 60) (hI:tm.length=98/\Agree G K/\tm.getD 1 uA=.ptr q 0/\tm.getD 4 uA=I ((0:Nat):Int)/\∃ v,tm.getD 3 uA=v/\Own G.length K 1 9 v (((pNs c).take 0).map .str)) :
   ∃ X K1,Z=some (.exit 0,(X,K1))/\(X.length=98/\Agree G K1/\X.getD 1 uA=.ptr q 0/\X.getD 4 uA=I ((c.params.length:Nat):Int)/\∃ v,X.getD 3 uA=v/\Own G.length K1 1 9 v (((pNs c).take c.params.length).map .str)):=by
 subst hX
 exact rhead_pl h hq hb hN (c.params.length) 0 tm K (by omega) (by omega) hI
theorem rhead_sl {G:AH} {c:Cod} {vp vs vi:AV} {q:Nat} (h:CodR G c vp vs vi) (hq:G[q]? =some (.cells (rowC c vp vs vi) 66)) (hb:c.params.length<=6) (hb2:c.shared.length<=4) (hN:c.shared.length < 2 ^ 60):∀ (d j:Nat) (tm:List AV) (K:AH),c.shared.length - j=d->j<=c.shared.length->(tm.length=98/\Agree G K/\tm.getD 1 uA=.ptr q 0/\tm.getD 5 uA=I ((j:Nat):Int)/\∃ v,tm.getD 3 uA=v/\Own G.length K 1 9 v ((pNs c++(sNs c).take j).map .str)) ->
   ∃ X K1 Y K2,EvC Tryz.prog C0 W0 pl66 l66_1 (tm,K)=br (allF (fun j=>(!ltB (szAt c j) 1 && !ltB 64 (szAt c j))) (c.shared.length) (j)) (some (.exit 2,(X,K1))) (some (.ret,(Y,K2)))/\(allF (fun j=>(!ltB (szAt c j) 1 && !ltB 64 (szAt c j))) (c.shared.length) (j)=true->X.length=98/\Agree G K1/\X.getD 1 uA=.ptr q 0/\X.getD 5 uA=I ((c.shared.length:Nat):Int)/\∃ v,X.getD 3 uA=v/\Own G.length K1 1 9 v ((pNs c++(sNs c).take c.shared.length).map .str))/\Y.length=98/\Y.getD 2 uA=.bool false:=by
 intro d
 induction d with
 | zero =>
   intro j tm K hd hj hI
   have hjl:j=c.shared.length:=by omega
   subst hjl
   have hI0:=hI
   obtain ⟨hlen,hA,h1,hx,v,h3,ho⟩:=hI
   have hlt:ltB (((c.shared.length:Nat)):Int) (c.shared.length:Nat)=false:=ltB_f (by omega)
   have hbq:∀ L k n,rdCells (K++L) q k n=if k+n<=(rowC c vp vs vi).length then some (((rowC c vp vs vi).drop k).take n) else none:=fun L k n=>obj_rd (hA.get hq) L k n
   have hbq0:∀ k n,rdCells K q k n=if k+n<=(rowC c vp vs vi).length then some (((rowC c vp vs vi).drop k).take n) else none:=fun k n=>by have:=hbq [] k n; rwa [List.append_nil] at this
   have hls:=h.ls
   rw [allF_end (Nat.le_refl _)]
   rw [el66_1]
   simp (maxSteps:=4000000) -implicitDefEqProofs only [b66_1,Tryz.f66,aP,hlen,h1,hx,h3,hlt,hbq0,hls,r5,↓evLd,↓evDn,evUp,eu,sevalprocAttr]
   refine ⟨_,K,tm.set 2 (.bool false),K,rfl,?_,by simp only [ls,hlen],by simp only [hlen,gs_self,Nat.reduceLT]⟩
   try intro _
   exact ⟨by first | exact hlen | simp only [List.length_set,hlen],hA,Aj2 (by simp only [hlen,h1,hx,gB,and_self,sevalprocAttr]) ⟨v,by simp only [hlen,h3,gB,sevalprocAttr],ho⟩⟩
 | succ d ih =>
   intro j tm K hd hj hI
   have hI0:=hI
   obtain ⟨hlen,hA,h1,hx,v,h3,ho⟩:=hI
   have hjN:j < c.shared.length:=by omega
   have hlt:ltB (j:Int) (c.shared.length:Nat)=true:=ltB_t (by omega)
   have hw:=inc_i (j:=j) (by omega)
   have hbq:∀ L k n,rdCells (K++L) q k n=if k+n<=(rowC c vp vs vi).length then some (((rowC c vp vs vi).drop k).take n) else none:=fun L k n=>obj_rd (hA.get hq) L k n
   have hbq0:∀ k n,rdCells K q k n=if k+n<=(rowC c vp vs vi).length then some (((rowC c vp vs vi).drop k).take n) else none:=fun k n=>by have:=hbq [] k n; rwa [List.append_nil] at this
   have hls:=h.ls
   obtain ⟨i,k,hix,hrd0,hrd1,hrd2⟩:=shr_at h hA hjN
   have hts:=take_snoc (l:=sNs c) (j:=j) (by rw [sNs_len]; exact hjN)
   obtain ⟨v',K',happ,hA',ho'⟩:=app_str hA ho (by rw [List.length_append,List.length_take,pNs_len]; omega) (nmAt (sNs c) j)
   rw [allF_step hjN]
   rw [el66_1]
   rw [<-List.append_nil K]
   cases hp:((!ltB (szAt c j) 1 && !ltB 64 (szAt c j))) with
   | true =>
     rw [Bool.and_eq_true,Bool.not_eq_true',Bool.not_eq_true'] at hp
     obtain ⟨hp3,hp4⟩:=hp
     simp only [Bool.true_and]
     simp (maxSteps:=4000000) -implicitDefEqProofs only [b66_1,Tryz.f66,aP,hlen,h1,hx,h3,hlt,hw,hbq,hls,hix,hrd0,hrd1,↓callA_append,↓callA_len,bs164,happ,r5,↓evLd,hp3,hp4,↓evDn,evUp,eu,sevalprocAttr]
     generalize hX:EvC Tryz.prog C0 W0 _ _ _=Z
     have key:∀ (tmN:List AV) (KN:AH),EvC Tryz.prog C0 W0 pl66 l66_1 (tmN,KN)=Z->(tmN.length=98/\Agree G KN/\tmN.getD 1 uA=.ptr q 0/\tmN.getD 5 uA=I (((j+1):Nat):Int)/\∃ v,tmN.getD 3 uA=v/\Own G.length KN 1 9 v ((pNs c++(sNs c).take (j+1)).map .str))->∃ X K1 Y K2,Z=br (allF (fun j=>(!ltB (szAt c j) 1 && !ltB 64 (szAt c j))) (c.shared.length) (j+1)) (some (.exit 2,(X,K1))) (some (.ret,(Y,K2)))/\(allF (fun j=>(!ltB (szAt c j) 1 && !ltB 64 (szAt c j))) (c.shared.length) (j+1)=true->X.length=98/\Agree G K1/\X.getD 1 uA=.ptr q 0/\X.getD 5 uA=I ((c.shared.length:Nat):Int)/\∃ v,X.getD 3 uA=v/\Own G.length K1 1 9 v ((pNs c++(sNs c).take c.shared.length).map .str))/\Y.length=98/\Y.getD 2 uA=.bool false:=by
       intro tmN KN h hJ
       obtain ⟨X,K1,Y,K2,A,B⟩:=ih (j+1) tmN KN (by omega) (by omega) hJ
       exact ⟨X,K1,Y,K2,h.symm.trans A,B⟩
     refine key _ _ hX ?_
     exact ⟨by simp only [ls,hlen],hA',Aj2 (by simp only [hlen,h1,hx,gB,and_self,sevalprocAttr]) ⟨v',by simp only [hlen,h3,gB,sevalprocAttr],by rw [hts]; first | exact ho' | (rw [<-List.append_assoc]; exact ho')⟩⟩
   | false =>
     simp only [Bool.false_and]
     cases hp3:ltB (szAt c j) 1 with
     | true =>
       simp (maxSteps:=4000000) -implicitDefEqProofs only [b66_1,Tryz.f66,aP,hlen,h1,hx,h3,hlt,hw,hbq,hls,hix,hrd0,hrd1,↓callA_append,↓callA_len,bs164,happ,r5,↓evLd,hp3,↓evDn,evUp,eu,sevalprocAttr]
       exact ⟨tm,K,_,_,rfl,by first | exact trivial | (intro h; cases h),by simp only [ls,hlen],by simp only [hlen,gB,sevalprocAttr]⟩
     | false =>
       rw [hp3] at hp
       have hp4:ltB 64 (szAt c j)=true:=by simpa using hp
       simp (maxSteps:=4000000) -implicitDefEqProofs only [b66_1,Tryz.f66,aP,hlen,h1,hx,h3,hlt,hw,hbq,hls,hix,hrd0,hrd1,↓callA_append,↓callA_len,bs164,happ,r5,↓evLd,hp3,hp4,↓evDn,evUp,eu,sevalprocAttr]
       exact ⟨tm,K,_,_,rfl,by first | exact trivial | (intro h; cases h),by simp only [ls,hlen],by simp only [hlen,gB,sevalprocAttr]⟩
theorem rhead_sl' {G:AH} {c:Cod} {vp vs vi:AV} {q:Nat} {tm:List AV} {K:AH} {Z:Option (AExit × St)} (hX:EvC Tryz.prog C0 W0 pl66 l66_1 (tm,K)=Z) (h:CodR G c vp vs vi) (hq:G[q]? =some (.cells (rowC c vp vs vi) 66)) (hb:c.params.length<=6) (hb2:c.shared.length<=4) (hN:c.shared.length < 2 ^ 60) (hI:tm.length=98/\Agree G K/\tm.getD 1 uA=.ptr q 0/\tm.getD 5 uA=I ((0:Nat):Int)/\∃ v,tm.getD 3 uA=v/\Own G.length K 1 9 v ((pNs c++(sNs c).take 0).map .str)) :
   ∃ X K1 Y K2,Z=br (allF (fun j=>(!ltB (szAt c j) 1 && !ltB 64 (szAt c j))) (c.shared.length) (0)) (some (.exit 2,(X,K1))) (some (.ret,(Y,K2)))/\(allF (fun j=>(!ltB (szAt c j) 1 && !ltB 64 (szAt c j))) (c.shared.length) (0)=true->X.length=98/\Agree G K1/\X.getD 1 uA=.ptr q 0/\X.getD 5 uA=I ((c.shared.length:Nat):Int)/\∃ v,X.getD 3 uA=v/\Own G.length K1 1 9 v ((pNs c++(sNs c).take c.shared.length).map .str))/\Y.length=98/\Y.getD 2 uA=.bool false:=by
 subst hX
 exact rhead_sl h hq hb hb2 hN (c.shared.length) 0 tm K (by omega) (by omega) hI
theorem str_at {H K:AH} {v:AV} {l:List ByteArray} (hs:SlS 164 1 H v (l.map fun s=>[AV.str s])) (hA:Agree H K) {j:Nat} (hj:j < l.length):∃ i k,(∀ kk,indexAddrA Tryz.prog 164 v (.int kk (j:Int))=some (.ptr i k))/\(∀ L,rdCells (K++L) i k 1=some [.str (nmAt l j)]):=by
 obtain ⟨i,k,hi,hr⟩:=hs.ix j [.str (nmAt l j)] (by
   rw [List.getElem?_map,List.getElem?_eq_getElem hj]
   unfold nmAt
   rw [gde,List.getElem?_eq_getElem hj]; rfl)
 exact ⟨i,k,hi,fun L=>row_rd hr hA L⟩
def freshP (l:List ByteArray) (i:Nat):Bool:=allF (fun k=>!sEq (nmAt l k) (nmAt l i)) i 0
def newP (l:List ByteArray) (i:Nat):Bool:=nameP (nmAt l i) && freshP l i
theorem Own.sls {b:Nat} {H:AH} {v:AV} {l:List ByteArray} (h:Own b H 1 9 v (l.map .str)):SlS 164 1 H v (l.map fun s=>[AV.str s]):=by
 have hlen:=h.length
 rw [List.length_map,Nat.mul_one] at hlen
 generalize hxs:l.map AV.str=xs at h
 cases h with
 | nil =>
   have:l=[]:=by simpa using hxs
   subst this
   exact ⟨fun G=>ln164n G,fun j r hr=>by simp at hr,.inl ⟨rfl,rfl⟩⟩
 | «at» i k len cap ex cs xs hb hi hl hc h =>
   rw [lenOfA_slice] at hlen
   refine ⟨fun G=>by rw [ln164,List.length_map,hlen],fun j r hr=>?_,.inr ⟨i,k,cap,ex,by rw [List.length_map,hlen],by unfold okC; rw [hi],by rw [List.length_map,hlen,flat1,hxs]; exact h⟩⟩
   rw [List.getElem?_map] at hr
   obtain ⟨w,hw,rfl⟩:=Option.map_eq_some_iff.1 hr
   have hj:j < len:=by rw [<-hlen]; exact lt_of_get hw
   refine ⟨i,k+j * 1,fun kk=>by rw [ia164,if_pos ⟨by omega,by omega,rfl⟩]; rfl,?_⟩
   have:=rd_cell h (j:=j) (x:=.str w) (by rw [<-hxs,List.getElem?_map,hw]; rfl)
   rwa [Nat.mul_one]
theorem dup_l {H:AH} {v:AV} {l:List ByteArray} {i:Nat} (hs:SlS 164 1 H v (l.map fun s=>[AV.str s])) (hi:i < l.length) (hN:i < 2 ^ 60):∀ (d j:Nat) (tm:List AV) (K:AH),i - j=d->j<=i->Agree H K->tm.length=98->tm.getD 3 uA=v->tm.getD 6 uA=I ((i:Nat):Int)->tm.getD 7 uA=I ((j:Nat):Int) ->
   ∃ X Y K1 K2,EvC Tryz.prog C0 W0 pl66 l66_2 (tm,K)=br (allF (fun j=>!sEq (nmAt l j) (nmAt l i)) (i) (j)) (some (.exit 6,(X,K1))) (some (.ret,(Y,K2)))/\(X.length=98/\Agree H K1/\X.getD 3 uA=v/\X.getD 6 uA=I ((i:Nat):Int))/\Y.length=98/\Y.getD 2 uA=.bool false:=by
 intro d
 induction d with
 | zero =>
   intro j tm K hd hj hA hlen h3 h6 h7
   have hjl:j=i:=by omega
   have hlt:ltB (j:Int) (i:Nat)=false:=ltB_f (by omega)
   rw [allF_end (by omega),el66_2]
   simp (maxSteps:=4000000) -implicitDefEqProofs only [b66_2,Tryz.f66,aP,hlen,h3,h6,h7,hlt,↓evDn,evUp,eu,sevalprocAttr]
   exact ⟨_,tm.set 2 (.bool false),_,K,rfl,⟨by first | exact hlen | simp only [List.length_set,hlen],hA,by first | exact h3 | simp only [hlen,h3,gB,sevalprocAttr],by first | exact h6 | simp only [hlen,h6,gB,sevalprocAttr]⟩,by simp only [ls,hlen],by simp only [hlen,gs_self,Nat.reduceLT]⟩
 | succ d ih =>
   intro j tm K hd hj hA hlen h3 h6 h7
   have hjN:j < i:=by omega
   have hlt:ltB (j:Int) (i:Nat)=true:=ltB_t (by omega)
   have hw:=inc_i (j:=j) (by omega)
   obtain ⟨i0,k0,hix,hrd⟩:=str_at hs hA (j:=j) (by omega)
   obtain ⟨i1,k1,hix1,hrd1⟩:=str_at hs hA hi
   rw [allF_step hjN,el66_2]
   rw [<-List.append_nil K]
   cases hp:(!sEq (nmAt l j) (nmAt l i)) with
   | true =>
     simp only [Bool.true_and]
     rw [Bool.not_eq_true'] at hp
     simp (maxSteps:=4000000) -implicitDefEqProofs only [b66_2,Tryz.f66,aP,hlen,h3,h6,h7,hlt,hw,plr66_22,hix,hrd,hix1,hrd1,hp,r5,↓evLd,↓evDn,evUp,eu,sevalprocAttr]
     exact ih (j+1) _ _ (by omega) (by omega) (by first | exact hA | exact hA.appR _ | exact (hA.appR _).appR _ | exact hA) (by simp only [ls,hlen]) (by simp only [hlen,h3,gB,sevalprocAttr]) (by simp only [hlen,h6,gB,sevalprocAttr]) (by simp only [hlen,h7,gB,sevalprocAttr])
   | false =>
     simp only [Bool.false_and]
     rw [Bool.not_eq_false'] at hp
     simp (maxSteps:=4000000) -implicitDefEqProofs only [b66_2,Tryz.f66,aP,hlen,h3,h6,h7,hlt,hw,plr66_22,hix,hrd,hix1,hrd1,hp,r5,↓evLd,↓evDn,evUp,eu,sevalprocAttr]
     exact ⟨tm,_,K,_,rfl,⟨hlen,hA,h3,h6⟩,by simp only [ls,hlen],by simp only [hlen,gB,sevalprocAttr]⟩
theorem dup_l' {H:AH} {v:AV} {l:List ByteArray} {i:Nat} {tm:List AV} {K:AH} {Z:Option (AExit × St)} (hX:EvC Tryz.prog C0 W0 pl66 l66_2 (tm,K)=Z) (hs:SlS 164 1 H v (l.map fun s=>[AV.str s])) (hi:i < l.length) (hN:i < 2 ^ 60) (hA:Agree H K) (hlen:tm.length=98) (h3:tm.getD 3 uA=v) (h6:tm.getD 6 uA=I ((i:Nat):Int)) (h7:tm.getD 7 uA=I ((0:Nat):Int)) :
   ∃ X Y K1 K2,Z=br (allF (fun j=>!sEq (nmAt l j) (nmAt l i)) (i) (0)) (some (.exit 6,(X,K1))) (some (.ret,(Y,K2)))/\(X.length=98/\Agree H K1/\X.getD 3 uA=v/\X.getD 6 uA=I ((i:Nat):Int))/\Y.length=98/\Y.getD 2 uA=.bool false:=by
 subst hX
 exact dup_l hs hi hN (i) 0 tm K (by omega) (by omega) hA hlen h3 h6 h7
theorem new_l {H:AH} {v:AV} {l:List ByteArray} (hs:SlS 164 1 H v (l.map fun s=>[AV.str s])) (hz:∀ s∈l,s.size < 2 ^ 60) (hN:l.length < 2 ^ 60):∀ (d j:Nat) (tm:List AV) (K:AH),l.length - j=d->j<=l.length->(tm.length=98/\Agree H K/\tm.getD 3 uA=v/\tm.getD 6 uA=I ((j:Nat):Int)) ->
   ∃ X K1 Y K2,EvC Tryz.prog C0 W0 pl66 l66_3 (tm,K)=br (allF (fun j=>newP l j) (l.length) (j)) (some (.exit 4,(X,K1))) (some (.ret,(Y,K2)))/\(allF (fun j=>newP l j) (l.length) (j)=true->X.length=98/\Agree H K1/\X.getD 3 uA=v/\X.getD 6 uA=I ((l.length:Nat):Int))/\Y.length=98/\Y.getD 2 uA=.bool false:=by
 intro d
 induction d with
 | zero =>
   intro j tm K hd hj hI
   have hjl:j=l.length:=by omega
   subst hjl
   have hI0:=hI
   obtain ⟨hlen,hA,h3,h6⟩:=hI
   have hlt:ltB (((l.length:Nat)):Int) (l.length:Nat)=false:=ltB_f (by omega)
   have hl:∀ G,lenA Tryz.prog 164 G v=some (I l.length):=fun G=>by have:=hs.len G; rwa [List.length_map] at this
   rw [allF_end (Nat.le_refl _)]
   rw [el66_3]
   simp (maxSteps:=4000000) -implicitDefEqProofs only [b66_3,Tryz.f66,aP,hlen,h3,h6,hlt,hl,↓callA_len,r5,↓evLd,↓evDn,evUp,eu,sevalprocAttr]
   refine ⟨_,K,tm.set 2 (.bool false),K,rfl,?_,by simp only [ls,hlen],by simp only [hlen,gs_self,Nat.reduceLT]⟩
   try intro _
   exact ⟨by first | exact hlen | simp only [List.length_set,hlen],hA,by simp only [hlen,h3,h6,gB,and_self,sevalprocAttr]⟩
 | succ d ih =>
   intro j tm K hd hj hI
   have hI0:=hI
   obtain ⟨hlen,hA,h3,h6⟩:=hI
   have hjN:j < l.length:=by omega
   have hlt:ltB (j:Int) (l.length:Nat)=true:=ltB_t (by omega)
   have hw:=inc_i (j:=j) (by omega)
   have hl:∀ G,lenA Tryz.prog 164 G v=some (I l.length):=fun G=>by have:=hs.len G; rwa [List.length_map] at this
   obtain ⟨i,k,hix,hrd⟩:=str_at hs hA hjN
   have hsK:=(hs.same hA)
   have hnz:(nmAt l j).size < 2 ^ 60:=by
     unfold nmAt
     rw [gde,List.getElem?_eq_getElem hjN]
     exact hz _ (List.getElem_mem _)
   have h96:=fun L=>ev96 hnz L
   rw [allF_step hjN]
   rw [el66_3]
   rw [<-List.append_nil K]
   cases hp:(newP l j) with
   | true =>
     unfold newP at hp
     rw [Bool.and_eq_true] at hp
     obtain ⟨hp1,hp2⟩:=hp
     simp only [Bool.true_and]
     simp (maxSteps:=4000000) -implicitDefEqProofs only [b66_3,Tryz.f66,aP,hlen,h3,h6,hlt,hw,hl,hix,hrd,↓callA_len,↓fc96,h96,r5,↓evLd,hp1,↓evDn,evUp,eu,sevalprocAttr]
     generalize hX:EvC Tryz.prog C0 W0 _ (Code.loop _) _=Z
     obtain ⟨X,Y,K1,K2,he,xs,y0,y1⟩:=dup_l'  hX hsK hjN (by omega) (Agree.app _ _) (by simp only [ls,hlen,h3,h6]) (by simp only [hlen,h3,h6,gB,sevalprocAttr]; try rfl) (by simp only [hlen,h3,h6,gB,sevalprocAttr]; try rfl) (by simp only [hlen,h3,h6,gB,sevalprocAttr]; try rfl)
     subst he
     unfold freshP at hp2
     simp (maxSteps:=4000000) -implicitDefEqProofs only [hp2,xs.1,xs.2.2.2,hw,↓evDn,evUp,eu,sevalprocAttr]
     generalize hX:EvC Tryz.prog C0 W0 _ _ _=Z
     have key:∀ (tmN:List AV) (KN:AH),EvC Tryz.prog C0 W0 pl66 l66_3 (tmN,KN)=Z->(tmN.length=98/\Agree H KN/\tmN.getD 3 uA=v/\tmN.getD 6 uA=I (((j+1):Nat):Int))->∃ X K1 Y K2,Z=br (allF (fun j=>newP l j) (l.length) (j+1)) (some (.exit 4,(X,K1))) (some (.ret,(Y,K2)))/\(allF (fun j=>newP l j) (l.length) (j+1)=true->X.length=98/\Agree H K1/\X.getD 3 uA=v/\X.getD 6 uA=I ((l.length:Nat):Int))/\Y.length=98/\Y.getD 2 uA=.bool false:=by
       intro tmN KN h hJ
       obtain ⟨X,K1,Y,K2,A,B⟩:=ih (j+1) tmN KN (by omega) (by omega) hJ
       exact ⟨X,K1,Y,K2,h.symm.trans A,B⟩
     refine key _ _ hX ?_
     exact ⟨by simp only [ls,xs.1],hA.trans xs.2.1,by simp only [xs.1,xs.2.2.1,gB,and_self,sevalprocAttr]⟩
   | false =>
     simp only [Bool.false_and]
     unfold newP at hp
     cases hp1:nameP (nmAt l j) with
     | false =>
       simp (maxSteps:=4000000) -implicitDefEqProofs only [b66_3,Tryz.f66,aP,hlen,h3,h6,hlt,hw,hl,hix,hrd,↓callA_len,↓fc96,h96,r5,↓evLd,hp1,↓evDn,evUp,eu,sevalprocAttr]
       exact ⟨tm,K,_,_,rfl,by first | exact trivial | (intro h; cases h),by simp only [ls,hlen],by simp only [hlen,gB,sevalprocAttr]⟩
     | true =>
       rw [hp1,Bool.true_and] at hp
       unfold freshP at hp
       simp (maxSteps:=4000000) -implicitDefEqProofs only [b66_3,Tryz.f66,aP,hlen,h3,h6,hlt,hw,hl,hix,hrd,↓callA_len,↓fc96,h96,r5,↓evLd,hp1,↓evDn,evUp,eu,sevalprocAttr]
       generalize hX:EvC Tryz.prog C0 W0 _ (Code.loop _) _=Z
       obtain ⟨X,Y,K1,K2,he,xs,y0,y1⟩:=dup_l'  hX hsK hjN (by omega) (Agree.app _ _) (by simp only [ls,hlen,h3,h6]) (by simp only [hlen,h3,h6,gB,sevalprocAttr]; try rfl) (by simp only [hlen,h3,h6,gB,sevalprocAttr]; try rfl) (by simp only [hlen,h3,h6,gB,sevalprocAttr]; try rfl)
       subst he
       simp (maxSteps:=4000000) -implicitDefEqProofs only [hp,y0,y1,↓evDn,evUp,eu,sevalprocAttr]
       exact ⟨tm,K,Y,_,rfl,by first | exact trivial | (intro h; cases h),y0,y1⟩
theorem new_l' {H:AH} {v:AV} {l:List ByteArray} {tm:List AV} {K:AH} {Z:Option (AExit × St)} (hX:EvC Tryz.prog C0 W0 pl66 l66_3 (tm,K)=Z) (hs:SlS 164 1 H v (l.map fun s=>[AV.str s])) (hz:∀ s∈l,s.size < 2 ^ 60) (hN:l.length < 2 ^ 60) (hI:tm.length=98/\Agree H K/\tm.getD 3 uA=v/\tm.getD 6 uA=I ((0:Nat):Int)) :
   ∃ X K1 Y K2,Z=br (allF (fun j=>newP l j) (l.length) (0)) (some (.exit 4,(X,K1))) (some (.ret,(Y,K2)))/\(allF (fun j=>newP l j) (l.length) (0)=true->X.length=98/\Agree H K1/\X.getD 3 uA=v/\X.getD 6 uA=I ((l.length:Nat):Int))/\Y.length=98/\Y.getD 2 uA=.bool false:=by
 subst hX
 exact new_l hs hz hN (l.length) 0 tm K (by omega) (by omega) hI
end Go.Dv
