/- Part 21 of the walks (own work). -/
import Derived.Test.YtilpjnckfkjkbaaGreatDoorZ20
import Derived.Test.YtilpjnckfkjkbaaGreatDoorZ14
set_option maxRecDepth 100000
set_option maxHeartbeats 4000000
set_option linter.unusedSimpArgs false
set_option linter.unusedVariables false
namespace Go.Dv
open Go.Proofs
attribute [local congr] bind_congr_first cb_congr condA_congr gd_congr br_congr
theorem sIn_iff (l:List ByteArray) (s:ByteArray):sIn l s=true↔s∈l:=by
 unfold sIn
 induction l with
 | nil=>simp
 | cons x l ih =>
   rw [List.contains_cons,Bool.or_eq_true,ih,List.mem_cons]
   rw [sEq_beq,sEq_iff]
theorem fresh_sIn {l:List ByteArray} {i:Nat} (hi:i < l.length):freshP l i=!sIn (l.take i) (nmAt l i):=by
 rw [Bool.eq_iff_iff]
 unfold freshP
 rw [allF_iff,Bool.not_eq_true',<-Bool.not_eq_true,sIn_iff]
 have hn:∀ k,k < l.length->l[k]? =some (nmAt l k):=fun k hk=>by
   unfold nmAt
   rw [gde,List.getElem?_eq_getElem hk]; rfl
 constructor
 · intro h hm
   obtain ⟨k,hk⟩:=List.mem_iff_getElem?.1 hm
   have hki:k < i:=by
     have:=lt_of_get hk
     rw [List.length_take] at this; omega
   rw [List.getElem?_take_of_lt hki,hn k (by omega)] at hk
   have:=h k hki
   rw [Bool.not_eq_true',Option.some.inj hk] at this
   have e:sEq (nmAt l i) (nmAt l i)=true:=by rw [sEq_iff]
   rw [e] at this; cases this
 · intro h k hk
   rw [Bool.not_eq_true',<-Bool.not_eq_true,sEq_iff]
   intro e
   refine h (List.mem_iff_getElem?.2 ⟨k,?_⟩)
   rw [List.getElem?_take_of_lt hk,hn k (by omega),e]
theorem nm_app1 {p s:List ByteArray} {j:Nat} (h:j < p.length):nmAt (p++s) j=nmAt p j:=by
 unfold nmAt
 rw [gde,gde,List.getElem?_append_left h]
theorem nm_app2 {p s:List ByteArray} (j:Nat):nmAt (p++s) (p.length+j)=nmAt s j:=by
 unfold nmAt
 rw [gde,gde,List.getElem?_append_right (Nat.le_add_right _ _),Nat.add_sub_cancel_left]
def allN (c:Cod):List ByteArray:=pNs c++sNs c
def szP (c:Cod) (j:Nat):Bool:=!ltB (szAt c j) 1 && !ltB 64 (szAt c j)
theorem names_eq (c:Cod):(allF (fun j=>szP c j) c.shared.length 0 && allF (fun j=>newP (allN c) j) (allN c).length 0)=(allF (fun j=>parF c j) c.params.length 0 && allF (fun j=>shrF c j) c.shared.length 0):=by
 have hlen:(allN c).length=c.params.length+c.shared.length:=by unfold allN; rw [List.length_append,pNs_len,sNs_len]
 have hpar:∀ j,j < c.params.length->newP (allN c) j=parF c j:=fun j hj=>by
   unfold newP parF
   rw [fresh_sIn (by omega)]
   unfold allN
   rw [nm_app1 (by rw [pNs_len]; exact hj),List.take_append_of_le_length (by rw [pNs_len]; omega)]
 have hshr:∀ j,j < c.shared.length->(szP c j && newP (allN c) (c.params.length+j))=shrF c j:=fun j hj=>by
   unfold newP shrF szP
   rw [fresh_sIn (by omega)]
   unfold allN
   have e:=pNs_len c
   rw [<-e,nm_app2 j,List.take_append,List.take_of_length_le (Nat.le_add_right _ _),Nat.add_sub_cancel_left]
   cases nameP (nmAt (sNs c) j) <;> cases sIn (pNs c++List.take j (sNs c)) (nmAt (sNs c) j) <;> cases ltB (szAt c j) 1 <;> cases ltB 64 (szAt c j) <;> rfl
 rw [Bool.eq_iff_iff,Bool.and_eq_true,Bool.and_eq_true,allF_iff,allF_iff,allF_iff,allF_iff,hlen]
 constructor
 · intro ⟨h1,h2⟩
   refine ⟨fun j hj=>?_,fun j hj=>?_⟩
   · rw [<-hpar j hj]; exact h2 j (by omega)
   · rw [<-hshr j hj,h1 j hj,h2 _ (by omega)]; rfl
 · intro ⟨h1,h2⟩
   have hs:∀ j,j < c.shared.length->szP c j=true/\newP (allN c) (c.params.length+j)=true:=fun j hj=>by
     have:=h2 j hj
     rw [<-hshr j hj,Bool.and_eq_true] at this; exact this
   refine ⟨fun j hj=>(hs j hj).1,fun j hj=>?_⟩
   rcases Nat.lt_or_ge j c.params.length with c1 | c1
   · rw [hpar j c1]; exact h1 j c1
   · have:=(hs (j - c.params.length) (by omega)).2
     rwa [Nat.add_sub_cancel' c1] at this
def headR (c:Cod):Bool:=nameP c.name && !ltB 6 (c.params.length:Int) && !ltB 4 (c.shared.length:Int) && (allF (fun j=>szP c j) c.shared.length 0 && allF (fun j=>newP (allN c) j) (allN c).length 0)
theorem ev66 {H:AH} {c:Cod} {vp vs vi:AV} (h:CodR H c vp vs vi):Ev Tryz.prog C0 W0 66 [.agg (rowC c vp vs vi)] H=some (.bool (headR c),H):=by
 obtain ⟨tm,ht,g0,g1⟩:=tm1 (.agg (rowC c vp vs vi)) 98 (by decide)
 rw [fe66,ht]
 rw [<-List.append_nil (ro H)]
 unfold headR
 have hlp:=h.ro.lp
 have hls:=h.ro.ls
 have h96:=fun L=>ev96 h.nm L
 cases h0:nameP c.name with
 | false=>simp (maxSteps:=4000000) -implicitDefEqProofs only [c66,Tryz.f66,aP,g0,g1,hlp,hls,↓fc96,h96,r5,↓evLd,h0,↓evDn,evUp,eu,sevalprocAttr]
 | true =>
   cases h1:ltB 6 (c.params.length:Int) with
   | true=>simp (maxSteps:=4000000) -implicitDefEqProofs only [c66,Tryz.f66,aP,g0,g1,hlp,hls,↓fc96,h96,r5,↓evLd,h0,h1,↓evDn,evUp,eu,sevalprocAttr]
   | false =>
     cases h2:ltB 4 (c.shared.length:Int) with
     | true=>simp (maxSteps:=4000000) -implicitDefEqProofs only [c66,Tryz.f66,aP,g0,g1,hlp,hls,↓fc96,h96,r5,↓evLd,h0,h1,h2,↓evDn,evUp,eu,sevalprocAttr]
     | false =>
       simp (maxSteps:=4000000) -implicitDefEqProofs only [c66,Tryz.f66,aP,g0,g1,hlp,hls,↓fc96,h96,r5,↓evLd,h0,h1,h2,↓evDn,evUp,eu,sevalprocAttr]
       have hG:CodR (ro H++[AObj.cells (rowC c vp vs vi) 66]) c vp vs vi:=h.ro.agree (Agree.app _ _)
       have hq:(ro H++[AObj.cells (rowC c vp vs vi) 66])[(ro H).length]? =some (.cells (rowC c vp vs vi) 66):=by rw [List.getElem?_append_right (Nat.le_refl _),Nat.sub_self]; rfl
       have hb:c.params.length<=6:=by rw [ltB_iff0] at h1; omega
       have hb2:c.shared.length<=4:=by rw [ltB_iff0] at h2; omega
       generalize hX:EvC Tryz.prog C0 W0 _ (Code.loop _) _=Z
       obtain ⟨X,K1,he,i0,iA,i1,ix,v,i3,io⟩:=rhead_pl' (q:=(ro H).length) hX hG hq hb (by omega) ⟨by simp only [ls,g0],Agree.refl _,by simp only [g0,gB,sevalprocAttr]; try rfl,by simp only [g0,gB,sevalprocAttr]; try rfl,.nilSlice,by simp only [g0,gB,sevalprocAttr]; try rfl,.nil⟩
       subst he
       simp (maxSteps:=4000000) -implicitDefEqProofs only [aP,i0,i1,i3,↓evDn,evUp,eu,sevalprocAttr]
       generalize hX2:EvC Tryz.prog C0 W0 _ (Code.loop _) _=Z
       obtain ⟨X2,K2,Y2,L2,he,hi2,y0,y1⟩:=rhead_sl' (q:=(ro H).length) hX2 hG hq hb hb2 (by omega) ⟨by simp only [ls,i0],iA,by simp only [i0,i1,gB,sevalprocAttr]; try rfl,by simp only [i0,gB,sevalprocAttr]; try rfl,v,by simp only [i0,i3,gB,sevalprocAttr]; try rfl,by rw [List.take_zero,List.append_nil]; rw [List.take_of_length_le (by rw [pNs_len]; exact Nat.le_refl _)] at io; exact io⟩
       subst he
       unfold szP
       cases hf:allF (fun j=>!ltB (szAt c j) 1 && !ltB 64 (szAt c j)) c.shared.length 0 with
       | false=>simp (maxSteps:=4000000) -implicitDefEqProofs only [y0,y1,hf,↓evDn,evUp,eu,sevalprocAttr]
       | true =>
         obtain ⟨j0,jA,j1,jx,v2,j3,jo⟩:=hi2 hf
         rw [List.take_of_length_le (by rw [sNs_len]; exact Nat.le_refl _)] at jo
         have hsl:SlS 164 1 K2 v2 ((allN c).map fun s=>[AV.str s]):=jo.sls
         have hln:(allN c).length=c.params.length+c.shared.length:=by unfold allN; rw [List.length_append,pNs_len,sNs_len]
         have hz:∀ s∈allN c,s.size < 2 ^ 60:=by
           intro s hs
           unfold allN pNs sNs at hs
           rw [List.mem_append,List.mem_map,List.mem_map] at hs
           rcases hs with ⟨p,hp,rfl⟩ | ⟨p,hp,rfl⟩
           · exact h.pn p hp
           · exact h.sn p hp
         simp (maxSteps:=4000000) -implicitDefEqProofs only [aP,hf,j0,j1,j3,↓evDn,evUp,eu,sevalprocAttr]
         generalize hX3:EvC Tryz.prog C0 W0 _ (Code.loop _) _=Z
         obtain ⟨X3,K3,Y3,L3,he,hi3,z0,z1⟩:=new_l' hX3 hsl hz (by omega) ⟨by simp only [ls,j0],Agree.refl _,by simp only [j0,j3,gB,sevalprocAttr]; try rfl,by simp only [j0,gB,sevalprocAttr]; try rfl⟩
         subst he
         cases hf2:allF (fun j=>newP (allN c) j) (allN c).length 0 with
         | false=>simp (maxSteps:=4000000) -implicitDefEqProofs only [z0,z1,hf2,↓evDn,evUp,eu,sevalprocAttr]
         | true =>
           have k0:=(hi3 hf2).1
           simp (maxSteps:=4000000) -implicitDefEqProofs only [k0,hf2,↓evDn,evUp,eu,sevalprocAttr]
def validR (c:Cod):Bool:=headR c && !ltB c.loc 0 && !ltB 64 c.loc && !ltB (c.insns.length:Int) 1 && !ltB 2000 (c.insns.length:Int) && allI c && lastP c
theorem valid_eq (c:Cod):validR c=validP c:=by
 unfold validR validP headR headP
 rw [names_eq]
 ac_rfl
theorem rvalid_l {G:AH} {c:Cod} {vp vs vi:AV} {q:Nat} (h:CodR G c vp vs vi) (hq:G[q]? =some (.cells (rowC c vp vs vi) 66)) (hN:c.insns.length < 2 ^ 60):∀ (d j:Nat) (tm:List AV) (K:AH),c.insns.length - j=d->j<=c.insns.length->Agree G K->tm.length=60->tm.getD 1 uA=.ptr q 0->tm.getD 3 uA=I c.insns.length->tm.getD 4 uA=I ((j:Nat):Int) ->
   ∃ X Y K1 K2,EvC Tryz.prog C0 W0 pl37 l37_0 (tm,K)=br (allF (fun j=>insP c (insAt c j)) (c.insns.length) (j)) (some (.exit 0,(X,K1))) (some (.ret,(Y,K2)))/\(X.length=60/\Agree G K1/\X.getD 1 uA=.ptr q 0/\X.getD 3 uA=I c.insns.length)/\Y.length=60/\Y.getD 2 uA=.bool false:=by
 intro d
 induction d with
 | zero =>
   intro j tm K hd hj hA hlen h1 h3 h4
   have hjl:j=c.insns.length:=by omega
   subst hjl
   have hlt:ltB (((c.insns.length:Nat)):Int) (c.insns.length:Nat)=false:=ltB_f (by omega)
   rw [allF_end (Nat.le_refl _),el37_0]
   simp (maxSteps:=4000000) -implicitDefEqProofs only [b37_0,Tryz.f37,aP,hlen,h1,h3,h4,hlt,↓evDn,evUp,eu,sevalprocAttr]
   exact ⟨_,tm.set 2 (.bool false),_,K,rfl,⟨by first | exact hlen | simp only [List.length_set,hlen],hA,by first | exact h1 | simp only [hlen,h1,gB,sevalprocAttr],by first | exact h3 | simp only [hlen,h3,gB,sevalprocAttr]⟩,by simp only [ls,hlen],by simp only [hlen,gs_self,Nat.reduceLT]⟩
 | succ d ih =>
   intro j tm K hd hj hA hlen h1 h3 h4
   have hjN:j < c.insns.length:=by omega
   have hlt:ltB (j:Int) (c.insns.length:Nat)=true:=ltB_t (by omega)
   have hw:=inc_i (j:=j) (by omega)
   obtain ⟨i,k,hix,hrd0,hrd2⟩:=ins_at h hA hjN
   have h67:=fun L=>ev67 ((h.agree hA).agree (Agree.app K L)) (ins_im h hjN)
   have hbq:∀ L k n,rdCells (K++L) q k n=if k+n<=(rowC c vp vs vi).length then some (((rowC c vp vs vi).drop k).take n) else none:=fun L k n=>obj_rd (hA.get hq) L k n
   simp only [rowI,rowC] at h67
   rw [allF_step hjN,el37_0]
   rw [<-List.append_nil K]
   cases hp:(insP c (insAt c j)) with
   | true =>
     simp only [Bool.true_and]
     simp (maxSteps:=4000000) -implicitDefEqProofs only [b37_0,Tryz.f37,aP,hlen,h1,h3,h4,hlt,hw,plr37_7,rds67,hix,hrd2,hbq,↓fc67,h67,hp,r5,↓evLd,↓evDn,evUp,eu,sevalprocAttr]
     exact ih (j+1) _ _ (by omega) (by omega) (by first | exact hA | exact hA.appR _ | exact (hA.appR _).appR _) (by simp only [ls,hlen]) (by simp only [hlen,h1,gB,sevalprocAttr]) (by simp only [hlen,h3,gB,sevalprocAttr]) (by simp only [hlen,h4,gB,sevalprocAttr])
   | false =>
     simp only [Bool.false_and]
     simp (maxSteps:=4000000) -implicitDefEqProofs only [b37_0,Tryz.f37,aP,hlen,h1,h3,h4,hlt,hw,plr37_7,rds67,hix,hrd2,hbq,↓fc67,h67,hp,r5,↓evLd,↓evDn,evUp,eu,sevalprocAttr]
     exact ⟨tm,_,K,_,rfl,⟨hlen,hA,h1,h3⟩,by simp only [ls,hlen],by simp only [hlen,gB,sevalprocAttr]⟩
theorem rvalid_l' {G:AH} {c:Cod} {vp vs vi:AV} {q:Nat} {tm:List AV} {K:AH} {Z:Option (AExit × St)} (hX:EvC Tryz.prog C0 W0 pl37 l37_0 (tm,K)=Z) (h:CodR G c vp vs vi) (hq:G[q]? =some (.cells (rowC c vp vs vi) 66)) (hN:c.insns.length < 2 ^ 60) (hA:Agree G K) (hlen:tm.length=60) (h1:tm.getD 1 uA=.ptr q 0) (h3:tm.getD 3 uA=I c.insns.length) (h4:tm.getD 4 uA=I ((0:Nat):Int)) :
   ∃ X Y K1 K2,Z=br (allF (fun j=>insP c (insAt c j)) (c.insns.length) (0)) (some (.exit 0,(X,K1))) (some (.ret,(Y,K2)))/\(X.length=60/\Agree G K1/\X.getD 1 uA=.ptr q 0/\X.getD 3 uA=I c.insns.length)/\Y.length=60/\Y.getD 2 uA=.bool false:=by
 subst hX
 exact rvalid_l h hq hN (c.insns.length) 0 tm K (by omega) (by omega) hA hlen h1 h3 h4
theorem ev37 {H:AH} {c:Cod} {vp vs vi:AV} (h:CodR H c vp vs vi):Ev Tryz.prog C0 W0 37 [.agg (rowC c vp vs vi)] H=some (.bool (validP c),H):=by
 rw [<-valid_eq]
 obtain ⟨tm,ht,g0,g1⟩:=tm1 (.agg (rowC c vp vs vi)) 60 (by decide)
 rw [fe37,ht]
 rw [<-List.append_nil (ro H)]
 unfold validR
 have hli:=h.ro.li
 have hib:=h.ni
 have h66:=fun L=>ev66 (h.ro.agree (Agree.app (ro H) L))
 simp only [rowC] at h66
 cases h0:headR c with
 | false=>simp (maxSteps:=4000000) -implicitDefEqProofs only [c37,Tryz.f37,aP,g0,g1,hli,↓fc66,h66,r5,↓evLd,h0,↓evDn,evUp,eu,sevalprocAttr]
 | true =>
   cases h1:ltB c.loc 0 with
   | true=>simp (maxSteps:=4000000) -implicitDefEqProofs only [c37,Tryz.f37,aP,g0,g1,hli,↓fc66,h66,r5,↓evLd,h0,h1,↓evDn,evUp,eu,sevalprocAttr]
   | false =>
     cases h2:ltB 64 c.loc with
     | true=>simp (maxSteps:=4000000) -implicitDefEqProofs only [c37,Tryz.f37,aP,g0,g1,hli,↓fc66,h66,r5,↓evLd,h0,h1,h2,↓evDn,evUp,eu,sevalprocAttr]
     | false =>
       cases h3:ltB (c.insns.length:Int) 1 with
       | true=>simp (maxSteps:=4000000) -implicitDefEqProofs only [c37,Tryz.f37,aP,g0,g1,hli,↓fc66,h66,r5,↓evLd,h0,h1,h2,h3,↓evDn,evUp,eu,sevalprocAttr]
       | false =>
         cases h4:ltB 2000 (c.insns.length:Int) with
         | true=>simp (maxSteps:=4000000) -implicitDefEqProofs only [c37,Tryz.f37,aP,g0,g1,hli,↓fc66,h66,r5,↓evLd,h0,h1,h2,h3,h4,↓evDn,evUp,eu,sevalprocAttr]
         | false =>
           have hn1:1<=c.insns.length:=by rw [ltB_iff0] at h3; omega
           have hw1:IntKind.i64.wrap ((c.insns.length:Int) - 1)=((c.insns.length - 1:Nat):Int):=by rw [wr_i (by omega)]; omega
           have hG:CodR (ro H++[AObj.cells (rowC c vp vs vi) 66]) c vp vs vi:=h.ro.agree (Agree.app _ _)
           have hq:(ro H++[AObj.cells (rowC c vp vs vi) 66])[(ro H).length]? =some (.cells (rowC c vp vs vi) 66):=by rw [List.getElem?_append_right (Nat.le_refl _),Nat.sub_self]; rfl
           simp (maxSteps:=4000000) -implicitDefEqProofs only [c37,Tryz.f37,aP,g0,g1,hli,↓fc66,h66,r5,↓evLd,h0,h1,h2,h3,h4,↓evDn,evUp,eu,sevalprocAttr]
           generalize hX:EvC Tryz.prog C0 W0 _ (Code.loop _) _=Z
           obtain ⟨X,Y,K1,K2,he,xs,y0,y1⟩:=rvalid_l'  hX hG hq (Nat.lt_trans h.ni (by decide)) (Agree.refl _) (by simp only [ls,g0]) (by simp only [g0,gB,sevalprocAttr]; try rfl) (by simp only [g0,gB,sevalprocAttr]; try rfl) (by simp only [g0,gB,sevalprocAttr]; try rfl)
           subst he
           cases hf:allI c with
           | false =>
             unfold allI at hf
             simp (maxSteps:=4000000) -implicitDefEqProofs only [xs.1,y0,y1,hf,↓evDn,evUp,eu,sevalprocAttr]
           | true =>
             unfold allI at hf
             obtain ⟨x0,xA,x1,x3⟩:=xs
             obtain ⟨i,k,hix,hrd0,hrd2⟩:=ins_at hG xA (j:=c.insns.length - 1) (by omega)
             have hlk:(insAt c (c.insns.length - 1)).kind=lastK c:=rfl
             rw [hlk] at hrd0
             have hbq:∀ L k n,rdCells (K1++L) (ro H).length k n=if k+n<=(rowC c vp vs vi).length then some (((rowC c vp vs vi).drop k).take n) else none:=fun L k n=>obj_rd (xA.get hq) L k n
             have hbq0:∀ k n,rdCells K1 (ro H).length k n=if k+n<=(rowC c vp vs vi).length then some (((rowC c vp vs vi).drop k).take n) else none:=fun k n=>by have:=hbq [] k n; rwa [List.append_nil] at this
             have hrd1:=hrd0 []
             rw [List.append_nil] at hrd1
             unfold lastP
             cases e15:eqB (lastK c) 15 <;> simp (maxSteps:=4000000) -implicitDefEqProofs only [aP,hf,x0,x1,x3,hbq0,hix,hrd1,hw1,e15,r5,↓evLd,↓evDn,evUp,eu,sevalprocAttr]
def allV (cs:List Cod):Bool:=allF (fun j=>validP (codAt cs j)) cs.length 0
def shortP (m:List (List Int)):Bool:=allF (fun j=>!ltB 256 ((bufOf m j).length:Int)) m.length 0
theorem ev58 {H:AH} {c:Cod} {vp vs vi:AV} (h:CodR H c vp vs vi):Ev Tryz.prog C0 W0 58 [.agg (rowC c vp vs vi)] H=some (.bool (!validP c),H):=by
 obtain ⟨tm,ht,g0,g1⟩:=tm1 (.agg (rowC c vp vs vi)) 6 (by decide)
 rw [fe58,ht]
 rw [<-List.append_nil (ro H)]
 have h59:=fun L=>ev59 (h.ro.agree (Agree.app (ro H) L))
 simp only [rowC] at h59
 simp (maxSteps:=4000000) -implicitDefEqProofs only [c58,Tryz.f58,aP,g0,g1,r5,↓evLd,↓fc59,h59,↓evDn,evUp,eu,sevalprocAttr]
theorem ev61 {H:AH} {v:AV} {b:List Int} (h:SlS 32 1 H v (b.map row1)):Ev Tryz.prog C0 W0 61 [v] H=some (.bool (ltB 256 (b.length:Int)),H):=by
 obtain ⟨tm,ht,g0,g1⟩:=tm1 v 6 (by decide)
 rw [fe61,ht]
 rw [<-List.append_nil (ro H)]
 have hl:=sl32 h
 simp (maxSteps:=4000000) -implicitDefEqProofs only [c61,Tryz.f61,aP,g0,g1,r5,↓evLd,hl,↓evDn,evUp,eu,sevalprocAttr]
theorem ix85 {H:AH} {cs:List Cod} {v:AV} (h:CodsR H cs v) (hN:cs.length < 2 ^ 60):∀ (d j:Nat) (tm:List AV) (K:AH),cs.length - j=d->j<=cs.length->Agree H K->tm.length=19->tm.getD 0 uA=v->tm.getD 1 uA=.func (.func 58) [] []->tm.getD 7 uA=I cs.length->tm.getD 8 uA=I ((j:Nat):Int) ->
   ∃ X Y K1 K2,EvC Tryz.prog C0 W0 plN l85_0 (tm,K)=br (allF (fun j=>validP (codAt cs j)) (cs.length) (j)) (some (.exit 0,(X,K1))) (some (.ret,(Y,K2)))/\(X.length=19/\Agree H K1/\X.getD 0 uA=v/\X.getD 1 uA=.func (.func 58) [] []/\X.getD 7 uA=I cs.length)/\Y.length=19/\∃ r:Int,0<=r/\Y.getD 4 uA=I r:=by
 intro d
 induction d with
 | zero =>
   intro j tm K hd hj hA hlen h0 h1 h7 h8
   have hjl:j=cs.length:=by omega
   subst hjl
   have hlt:ltB (((cs.length:Nat)):Int) (cs.length:Nat)=false:=ltB_f (by omega)
   rw [allF_end (Nat.le_refl _),el85_0]
   simp (maxSteps:=4000000) -implicitDefEqProofs only [b85_0,Tryz.f85,aP,hlen,h0,h1,h7,h8,hlt,↓evDn,evUp,eu,sevalprocAttr]
   exact ⟨_,tm.set 4 (I 0),_,K,rfl,⟨by first | exact hlen | simp only [List.length_set,hlen],hA,by first | exact h0 | simp only [hlen,h0,gB,sevalprocAttr],by first | exact h1 | simp only [hlen,h1,gB,sevalprocAttr],by first | exact h7 | simp only [hlen,h7,gB,sevalprocAttr]⟩,by simp only [ls,hlen],⟨0,Int.le_refl _,by simp only [hlen,gs_self,Nat.reduceLT]⟩⟩
 | succ d ih =>
   intro j tm K hd hj hA hlen h0 h1 h7 h8
   have hjN:j < cs.length:=by omega
   have hlt:ltB (j:Int) (cs.length:Nat)=true:=ltB_t (by omega)
   have hw:=inc_i (j:=j) (by omega)
   obtain ⟨i,k,vp,vs,vi,hix,hrd,hc⟩:=h.at hA hjN
   have h58:=fun L=>ev58 ((hc.agree hA).agree (Agree.app K L))
   simp only [rowC] at h58 hrd
   rw [allF_step hjN,el85_0]
   rw [<-List.append_nil K]
   cases hp:(validP (codAt cs j)) with
   | true =>
     simp only [Bool.true_and]
     simp (maxSteps:=4000000) -implicitDefEqProofs only [b85_0,Tryz.f85,aP,hlen,h0,h1,h7,h8,hlt,hw,hix,hrd,↓callA_value,Tryz.func58,show Tryz.f58.body.isSome=true from rfl,h58,hp,r5,↓evLd,↓evDn,evUp,eu,sevalprocAttr]
     exact ih (j+1) _ _ (by omega) (by omega) (by first | exact hA | exact hA.appR _ | exact (hA.appR _).appR _) (by simp only [ls,hlen]) (by simp only [hlen,h0,gB,sevalprocAttr]) (by simp only [hlen,h1,gB,sevalprocAttr]) (by simp only [hlen,h7,gB,sevalprocAttr]) (by simp only [hlen,h8,gB,sevalprocAttr])
   | false =>
     simp only [Bool.false_and]
     simp (maxSteps:=4000000) -implicitDefEqProofs only [b85_0,Tryz.f85,aP,hlen,h0,h1,h7,h8,hlt,hw,hix,hrd,↓callA_value,Tryz.func58,show Tryz.f58.body.isSome=true from rfl,h58,hp,r5,↓evLd,↓evDn,evUp,eu,sevalprocAttr]
     exact ⟨tm,_,K,_,rfl,⟨hlen,hA,h0,h1,h7⟩,by simp only [ls,hlen],⟨_,Int.natCast_nonneg j,by simp only [hlen,gB,sevalprocAttr]⟩⟩
theorem ix85' {H:AH} {cs:List Cod} {v:AV} {tm:List AV} {K:AH} {Z:Option (AExit × St)} (hX:EvC Tryz.prog C0 W0 plN l85_0 (tm,K)=Z) (h:CodsR H cs v) (hN:cs.length < 2 ^ 60) (hA:Agree H K) (hlen:tm.length=19) (h0:tm.getD 0 uA=v) (h1:tm.getD 1 uA=.func (.func 58) [] []) (h7:tm.getD 7 uA=I cs.length) (h8:tm.getD 8 uA=I ((0:Nat):Int)) :
   ∃ X Y K1 K2,Z=br (allF (fun j=>validP (codAt cs j)) (cs.length) (0)) (some (.exit 0,(X,K1))) (some (.ret,(Y,K2)))/\(X.length=19/\Agree H K1/\X.getD 0 uA=v/\X.getD 1 uA=.func (.func 58) [] []/\X.getD 7 uA=I cs.length)/\Y.length=19/\∃ r:Int,0<=r/\Y.getD 4 uA=I r:=by
 subst hX
 exact ix85 h hN (cs.length) 0 tm K (by omega) (by omega) hA hlen h0 h1 h7 h8
theorem ev85 {H:AH} {cs:List Cod} {v:AV} (h:CodsR H cs v):∃ r,Ev Tryz.prog C0 W0 85 [v,.func (.func 58) [] []] H=some (I r,H)/\leB 0 r=!allV cs:=by
 obtain ⟨tm,ht,g0,g1,g2⟩:=tm2 v (.func (.func 58) [] []) 19 (by decide)
 rw [fe85,ht]
 rw [<-List.append_nil (ro H)]
 have hl:=h.ro.len
 unfold allV
 simp (maxSteps:=4000000) -implicitDefEqProofs only [c85,Tryz.f85,aP,g0,g1,g2,r5,↓evLd,hl,↓evDn,evUp,eu,sevalprocAttr]
 generalize hX:EvC Tryz.prog C0 W0 _ (Code.loop _) _=Z
 obtain ⟨X,Y,K1,K2,he,xs,y0,y1⟩:=ix85'  hX h.ro (Nat.lt_trans h.n (by decide)) (Agree.app _ _) (by simp only [ls,g0]) (by simp only [g0,g1,gB,sevalprocAttr]; try rfl) (by simp only [g0,g2,gB,sevalprocAttr]; try rfl) (by simp only [g0,gB,sevalprocAttr]; try rfl) (by simp only [g0,gB,sevalprocAttr]; try rfl)
 subst he
 obtain ⟨r,hr0,hr⟩:=y1
 cases hf:allF (fun j=>validP (codAt cs j)) cs.length 0 with
 | true =>
   refine ⟨-1,?_,rfl⟩
   simp (maxSteps:=4000000) -implicitDefEqProofs only [xs.1,hf,↓evDn,evUp,eu,sevalprocAttr]
 | false =>
   refine ⟨r,?_,by rw [(leB_iff _ _).2 hr0]; rfl⟩
   simp (maxSteps:=4000000) -implicitDefEqProofs only [y0,hr,hf,↓evDn,evUp,eu,sevalprocAttr]
theorem ix89 {H:AH} {m:List (List Int)} {v:AV} (h:MemR H m v) (hN:m.length < 2 ^ 60):∀ (d j:Nat) (tm:List AV) (K:AH),m.length - j=d->j<=m.length->Agree H K->tm.length=19->tm.getD 0 uA=v->tm.getD 1 uA=.func (.func 61) [] []->tm.getD 7 uA=I m.length->tm.getD 8 uA=I ((j:Nat):Int) ->
   ∃ X Y K1 K2,EvC Tryz.prog C0 W0 plN l89_0 (tm,K)=br (allF (fun j=>!ltB 256 ((bufOf m j).length:Int)) (m.length) (j)) (some (.exit 0,(X,K1))) (some (.ret,(Y,K2)))/\(X.length=19/\Agree H K1/\X.getD 0 uA=v/\X.getD 1 uA=.func (.func 61) [] []/\X.getD 7 uA=I m.length)/\Y.length=19/\∃ r:Int,0<=r/\Y.getD 4 uA=I r:=by
 intro d
 induction d with
 | zero =>
   intro j tm K hd hj hA hlen h0 h1 h7 h8
   have hjl:j=m.length:=by omega
   subst hjl
   have hlt:ltB (((m.length:Nat)):Int) (m.length:Nat)=false:=ltB_f (by omega)
   rw [allF_end (Nat.le_refl _),el89_0]
   simp (maxSteps:=4000000) -implicitDefEqProofs only [b89_0,Tryz.f89,aP,hlen,h0,h1,h7,h8,hlt,↓evDn,evUp,eu,sevalprocAttr]
   exact ⟨_,tm.set 4 (I 0),_,K,rfl,⟨by first | exact hlen | simp only [List.length_set,hlen],hA,by first | exact h0 | simp only [hlen,h0,gB,sevalprocAttr],by first | exact h1 | simp only [hlen,h1,gB,sevalprocAttr],by first | exact h7 | simp only [hlen,h7,gB,sevalprocAttr]⟩,by simp only [ls,hlen],⟨0,Int.le_refl _,by simp only [hlen,gs_self,Nat.reduceLT]⟩⟩
 | succ d ih =>
   intro j tm K hd hj hA hlen h0 h1 h7 h8
   have hjN:j < m.length:=by omega
   have hlt:ltB (j:Int) (m.length:Nat)=true:=ltB_t (by omega)
   have hw:=inc_i (j:=j) (by omega)
   obtain ⟨i,k,w,hix,hrd,hw32⟩:=h.at hA hjN
   have h58:=fun L=>ev61 ((hw32.same hA).same (Agree.app K L))
   rw [allF_step hjN,el89_0]
   rw [<-List.append_nil K]
   cases hp:(!ltB 256 ((bufOf m j).length:Int)) with
   | true =>
     simp only [Bool.true_and]
     rw [Bool.not_eq_true'] at hp
     simp (maxSteps:=4000000) -implicitDefEqProofs only [b89_0,Tryz.f89,aP,hlen,h0,h1,h7,h8,hlt,hw,hix,hrd,↓callA_value,Tryz.func61,show Tryz.f61.body.isSome=true from rfl,h58,hp,r5,↓evLd,↓evDn,evUp,eu,sevalprocAttr]
     exact ih (j+1) _ _ (by omega) (by omega) (by first | exact hA | exact hA.appR _ | exact (hA.appR _).appR _) (by simp only [ls,hlen]) (by simp only [hlen,h0,gB,sevalprocAttr]) (by simp only [hlen,h1,gB,sevalprocAttr]) (by simp only [hlen,h7,gB,sevalprocAttr]) (by simp only [hlen,h8,gB,sevalprocAttr])
   | false =>
     simp only [Bool.false_and]
     rw [Bool.not_eq_false'] at hp
     simp (maxSteps:=4000000) -implicitDefEqProofs only [b89_0,Tryz.f89,aP,hlen,h0,h1,h7,h8,hlt,hw,hix,hrd,↓callA_value,Tryz.func61,show Tryz.f61.body.isSome=true from rfl,h58,hp,r5,↓evLd,↓evDn,evUp,eu,sevalprocAttr]
     exact ⟨tm,_,K,_,rfl,⟨hlen,hA,h0,h1,h7⟩,by simp only [ls,hlen],⟨_,Int.natCast_nonneg j,by simp only [hlen,gB,sevalprocAttr]⟩⟩
theorem ix89' {H:AH} {m:List (List Int)} {v:AV} {tm:List AV} {K:AH} {Z:Option (AExit × St)} (hX:EvC Tryz.prog C0 W0 plN l89_0 (tm,K)=Z) (h:MemR H m v) (hN:m.length < 2 ^ 60) (hA:Agree H K) (hlen:tm.length=19) (h0:tm.getD 0 uA=v) (h1:tm.getD 1 uA=.func (.func 61) [] []) (h7:tm.getD 7 uA=I m.length) (h8:tm.getD 8 uA=I ((0:Nat):Int)) :
   ∃ X Y K1 K2,Z=br (allF (fun j=>!ltB 256 ((bufOf m j).length:Int)) (m.length) (0)) (some (.exit 0,(X,K1))) (some (.ret,(Y,K2)))/\(X.length=19/\Agree H K1/\X.getD 0 uA=v/\X.getD 1 uA=.func (.func 61) [] []/\X.getD 7 uA=I m.length)/\Y.length=19/\∃ r:Int,0<=r/\Y.getD 4 uA=I r:=by
 subst hX
 exact ix89 h hN (m.length) 0 tm K (by omega) (by omega) hA hlen h0 h1 h7 h8
theorem ev89 {H:AH} {m:List (List Int)} {v:AV} (h:MemR H m v):∃ r,Ev Tryz.prog C0 W0 89 [v,.func (.func 61) [] []] H=some (I r,H)/\leB 0 r=!shortP m:=by
 obtain ⟨tm,ht,g0,g1,g2⟩:=tm2 v (.func (.func 61) [] []) 19 (by decide)
 rw [fe89,ht]
 rw [<-List.append_nil (ro H)]
 have hl:=h.ro.len
 unfold shortP
 simp (maxSteps:=4000000) -implicitDefEqProofs only [c89,Tryz.f89,aP,g0,g1,g2,r5,↓evLd,hl,↓evDn,evUp,eu,sevalprocAttr]
 generalize hX:EvC Tryz.prog C0 W0 _ (Code.loop _) _=Z
 obtain ⟨X,Y,K1,K2,he,xs,y0,y1⟩:=ix89'  hX h.ro (Nat.lt_trans h.n (by decide)) (Agree.app _ _) (by simp only [ls,g0]) (by simp only [g0,g1,gB,sevalprocAttr]; try rfl) (by simp only [g0,g2,gB,sevalprocAttr]; try rfl) (by simp only [g0,gB,sevalprocAttr]; try rfl) (by simp only [g0,gB,sevalprocAttr]; try rfl)
 subst he
 obtain ⟨r,hr0,hr⟩:=y1
 cases hf:allF (fun j=>!ltB 256 ((bufOf m j).length:Int)) m.length 0 with
 | true =>
   refine ⟨-1,?_,rfl⟩
   simp (maxSteps:=4000000) -implicitDefEqProofs only [xs.1,hf,↓evDn,evUp,eu,sevalprocAttr]
 | false =>
   refine ⟨r,?_,by rw [(leB_iff _ _).2 hr0]; rfl⟩
   simp (maxSteps:=4000000) -implicitDefEqProofs only [y0,hr,hf,↓evDn,evUp,eu,sevalprocAttr]
theorem ev57 {H:AH} {cs:List Cod} {v:AV} (h:CodsR H cs v):Ev Tryz.prog C0 W0 57 [v,.func (.func 58) [] []] H=some (.bool (!allV cs),H):=by
 obtain ⟨tm,ht,g0,g1,g2⟩:=tm2 v (.func (.func 58) [] []) 9 (by decide)
 rw [fe57,ht]
 rw [<-List.append_nil (ro H)]
 obtain ⟨r,hr,hb⟩:=ev85 (h.ro.agree (Agree.app (ro H) []))
 simp (maxSteps:=4000000) -implicitDefEqProofs only [c57,Tryz.f57,aP,g0,g1,g2,r5,↓evLd,↓fc85,hr,hb,↓evDn,evUp,eu,sevalprocAttr]
theorem ev60 {H:AH} {m:List (List Int)} {v:AV} (h:MemR H m v):Ev Tryz.prog C0 W0 60 [v,.func (.func 61) [] []] H=some (.bool (!shortP m),H):=by
 obtain ⟨tm,ht,g0,g1,g2⟩:=tm2 v (.func (.func 61) [] []) 9 (by decide)
 rw [fe60,ht]
 rw [<-List.append_nil (ro H)]
 obtain ⟨r,hr,hb⟩:=ev89 (h.ro.agree (Agree.app (ro H) []))
 simp (maxSteps:=4000000) -implicitDefEqProofs only [c60,Tryz.f60,aP,g0,g1,g2,r5,↓evLd,↓fc89,hr,hb,↓evDn,evUp,eu,sevalprocAttr]
def argAt (l:List Int) (j:Nat):Int:=l.getD j 0
theorem arg_at {H K:AH} {v:AV} {l:List Int} (h:SlS 32 1 H v (l.map row1)) (hA:Agree H K) {j:Nat} (hj:j < l.length):∃ i k,(∀ kk,indexAddrA Tryz.prog 32 v (.int kk (j:Int))=some (.ptr i k))/\(∀ L,rdCells (K++L) i k 1=some [.int .i32 (argAt l j)]):=by
 obtain ⟨i,k,hi,hr⟩:=h.ix j (row1 (argAt l j)) (by
   rw [List.getElem?_map,List.getElem?_eq_getElem hj]
   unfold argAt
   rw [getD_at hj]; rfl)
 exact ⟨i,k,hi,fun L=>row_rd hr hA L⟩
theorem arg_i32 {l:List Int} (h:∀ a∈l,i32R a) {j:Nat} (hj:j < l.length):i32R (argAt l j):=by
 unfold argAt
 rw [getD_at hj]; exact h _ (List.getElem_mem _)
theorem prb_at {H K:AH} {c:Cod} {vp vs vi:AV} (h:CodR H c vp vs vi) (hA:Agree H K) {j:Nat} (hj:j < c.params.length):∃ i k nm,(∀ kk,indexAddrA Tryz.prog 62 vp (.int kk (j:Int))=some (.ptr i k))/\(∀ L,rdCells (K++L) i (k+1) 1=some [.bool (bufAt c (j:Int))])/\(∀ L,rdCells (K++L) i k 2=some [.str nm,.bool (bufAt c (j:Int))]):=by
 obtain ⟨i,k,hi,hr0,hr1,hr2,hb⟩:=prm_at h hA hj
 rw [hb]
 exact ⟨i,k,_,hi,hr1,hr2⟩
def argP (c:Cod) (l:List Int) (n:Int) (j:Nat):Bool:=!(bufAt c (j:Int) && (ltB (argAt l j) 0 || leB n (argAt l j)))
def topP (c:Cod) (l:List Int) (n:Int) (j:Nat):Bool:=!(bufAt c (j:Int) && leB n (argAt l j))
def sizesP (c:Cod) (nm:ByteArray) (x:Itm):Bool:=sEq nm c.name && !ltB x.grid 1 && !ltB 8 x.grid && !ltB x.block 1 && !ltB 32 x.block && eqB (x.args.length:Int) (c.params.length:Int)
def fits6 (c:Cod) (nm:ByteArray) (x:Itm):Bool:=sizesP c nm x && allF (fun j=>argP c x.args 6 j) c.params.length 0
def fitsL (c:Cod) (nm:ByteArray) (x:Itm) (m:List (List Int)):Bool:=fits6 c nm x && !ltB 6 (m.length:Int) && shortP m && allF (fun j=>topP c x.args (m.length:Int) j) c.params.length 0
def fitsN (c:Cod) (nm:ByteArray) (x:Itm) (n:Int):Bool:=sizesP c nm x && allF (fun j=>argP c x.args n j) c.params.length 0
def fitsM (c:Cod) (nm:ByteArray) (x:Itm) (m:List (List Int)):Bool:=shortP m && leB (m.length:Int) 6 && fitsN c nm x (m.length:Int)
theorem fits_eq (c:Cod) (nm:ByteArray) (x:Itm) (m:List (List Int)):fitsL c nm x m=fitsM c nm x m:=by
 unfold fitsL fitsM fits6 fitsN
 cases sizesP c nm x with
 | false=>simp
 | true =>
   cases shortP m with
   | false=>simp
   | true =>
     have e:leB (m.length:Int) 6=!ltB 6 (m.length:Int):=by rw [Bool.eq_iff_iff,Bool.not_eq_true',leB_iff,ltB_iff0]
     rw [e]
     cases h:ltB 6 (m.length:Int) with
     | true=>simp
     | false =>
       simp only [Bool.true_and,Bool.not_false,Bool.and_true]
       rw [ltB_iff0] at h
       rw [Bool.eq_iff_iff,Bool.and_eq_true,allF_iff,allF_iff,allF_iff]
       have key:∀ j,(argP c x.args 6 j=true/\topP c x.args (m.length:Int) j=true)↔argP c x.args (m.length:Int) j=true:=fun j=>by
         unfold argP topP
         cases bufAt c (j:Int) with
         | false=>simp
         | true =>
           simp only [Bool.true_and,Bool.not_eq_true',Bool.or_eq_false_iff,ltB_iff0,leB_iff0]
           omega
       exact ⟨fun ⟨a,b⟩ j hj=>(key j).1 ⟨a j hj,b j hj⟩,fun a=>⟨fun j hj=>((key j).2 (a j hj)).1,fun j hj=>((key j).2 (a j hj)).2⟩⟩
theorem fit_l {G:AH} {c:Cod} {vp vs vi va:AV} {x:Itm} {nm:ByteArray} {q:Nat} (h:CodR G c vp vs vi) (ha:SlS 32 1 G va (x.args.map row1)) (hi32:∀ a∈x.args,i32R a) (hnp:x.args.length=c.params.length) (hq:G[q]? =some (.cells (rowL nm x va) 126)) (hN:c.params.length < 2 ^ 60):∀ (d j:Nat) (tm:List AV) (K:AH),c.params.length - j=d->j<=c.params.length->Agree G K->tm.length=68->tm.getD 3 uA=.ptr q 0->tm.getD 42 uA=vp->tm.getD 43 uA=I c.params.length->tm.getD 44 uA=I ((j:Nat):Int) ->
   ∃ X Y K1 K2,EvC Tryz.prog C0 W0 plN l108_0 (tm,K)=br (allF (fun j=>argP c x.args (6) j) (c.params.length) (j)) (some (.exit 0,(X,K1))) (some (.ret,(Y,K2)))/\(X.length=68/\Agree G K1/\X.getD 3 uA=.ptr q 0/\X.getD 42 uA=vp/\X.getD 43 uA=I c.params.length)/\Y.length=68/\Y.getD 4 uA=.bool false:=by
 intro d
 induction d with
 | zero =>
   intro j tm K hd hj hA hlen h3 h42 h43 h44
   have hjl:j=c.params.length:=by omega
   subst hjl
   have hlt:ltB (((c.params.length:Nat)):Int) (c.params.length:Nat)=false:=ltB_f (by omega)
   rw [allF_end (Nat.le_refl _),el108_0]
   simp (maxSteps:=4000000) -implicitDefEqProofs only [b108_0,Tryz.f108,aP,hlen,h3,h42,h43,h44,hlt,↓evDn,evUp,eu,sevalprocAttr]
   exact ⟨_,tm.set 4 (.bool false),_,K,rfl,⟨by first | exact hlen | simp only [List.length_set,hlen],hA,by first | exact h3 | simp only [hlen,h3,gB,sevalprocAttr],by first | exact h42 | simp only [hlen,h42,gB,sevalprocAttr],by first | exact h43 | simp only [hlen,h43,gB,sevalprocAttr]⟩,by simp only [ls,hlen],by simp only [hlen,gs_self,Nat.reduceLT]⟩
 | succ d ih =>
   intro j tm K hd hj hA hlen h3 h42 h43 h44
   have hjN:j < c.params.length:=by omega
   have hlt:ltB (j:Int) (c.params.length:Nat)=true:=ltB_t (by omega)
   have hw:=inc_i (j:=j) (by omega)
   obtain ⟨i,k,pn,hix,hrd1,hrd2⟩:=prb_at h hA hjN
   obtain ⟨i2,k2,hix2,hra⟩:=arg_at ha hA (j:=j) (by omega)
   have hai:=arg_i32 hi32 (j:=j) (by omega)
   have hwa:IntKind.i64.wrap (argAt x.args j)=argAt x.args j:=by obtain ⟨a0,a1⟩:=hai; exact wr_i (by omega)
   have hbq:∀ L k n,rdCells (K++L) q k n=if k+n<=(rowL nm x va).length then some (((rowL nm x va).drop k).take n) else none:=fun L k n=>obj_rd (hA.get hq) L k n
   rw [allF_step hjN,el108_0]
   rw [<-List.append_nil K]
   cases hp:(argP c x.args (6) j) with
   | true =>
     simp only [Bool.true_and]
     unfold argP at hp
     cases hb:bufAt c (j:Int) with
     | false =>
       simp (maxSteps:=4000000) -implicitDefEqProofs only [b108_0,Tryz.f108,aP,hlen,h3,h42,h43,h44,hlt,hw,hix,hrd1,hrd2,hix2,hra,hwa,hbq,z74,st74,fa126_0,fa126_1,fa126_2,fa126_3,rowL,r5,↓evLd,hb,↓evDn,evUp,eu,sevalprocAttr]
       exact ih (j+1) _ _ (by omega) (by omega) (by first | exact hA | exact hA.appR _ | exact (hA.appR _).appR _) (by simp only [ls,hlen]) (by simp only [hlen,h3,gB,sevalprocAttr]) (by simp only [hlen,h42,gB,sevalprocAttr]) (by simp only [hlen,h43,gB,sevalprocAttr]) (by simp only [hlen,h44,gB,sevalprocAttr])
     | true =>
       rw [hb,Bool.true_and,Bool.not_eq_true',Bool.or_eq_false_iff] at hp
       obtain ⟨hp1,hp2⟩:=hp
       simp (maxSteps:=4000000) -implicitDefEqProofs only [b108_0,Tryz.f108,aP,hlen,h3,h42,h43,h44,hlt,hw,hix,hrd1,hrd2,hix2,hra,hwa,hbq,z74,st74,fa126_0,fa126_1,fa126_2,fa126_3,rowL,r5,↓evLd,hb,hp1,hp2,↓evDn,evUp,eu,sevalprocAttr]
       exact ih (j+1) _ _ (by omega) (by omega) (by first | exact hA | exact hA.appR _ | exact (hA.appR _).appR _) (by simp only [ls,hlen]) (by simp only [hlen,h3,gB,sevalprocAttr]) (by simp only [hlen,h42,gB,sevalprocAttr]) (by simp only [hlen,h43,gB,sevalprocAttr]) (by simp only [hlen,h44,gB,sevalprocAttr])
   | false =>
     simp only [Bool.false_and]
     unfold argP at hp
     rw [Bool.not_eq_false',Bool.and_eq_true,Bool.or_eq_true] at hp
     obtain ⟨hb,hp⟩:=hp
     cases hp1:ltB (argAt x.args j) 0 with
     | true =>
       simp (maxSteps:=4000000) -implicitDefEqProofs only [b108_0,Tryz.f108,aP,hlen,h3,h42,h43,h44,hlt,hw,hix,hrd1,hrd2,hix2,hra,hwa,hbq,z74,st74,fa126_0,fa126_1,fa126_2,fa126_3,rowL,r5,↓evLd,hb,hp1,↓evDn,evUp,eu,sevalprocAttr]
       exact ⟨tm,_,K,_,rfl,⟨hlen,hA,h3,h42,h43⟩,by simp only [ls,hlen],by simp only [hlen,gB,sevalprocAttr]⟩
     | false =>
       rw [hp1] at hp
       have hp2:leB (6) (argAt x.args j)=true:=by simpa using hp
       simp (maxSteps:=4000000) -implicitDefEqProofs only [b108_0,Tryz.f108,aP,hlen,h3,h42,h43,h44,hlt,hw,hix,hrd1,hrd2,hix2,hra,hwa,hbq,z74,st74,fa126_0,fa126_1,fa126_2,fa126_3,rowL,r5,↓evLd,hb,hp1,hp2,↓evDn,evUp,eu,sevalprocAttr]
       exact ⟨tm,_,K,_,rfl,⟨hlen,hA,h3,h42,h43⟩,by simp only [ls,hlen],by simp only [hlen,gB,sevalprocAttr]⟩
theorem fit_l' {G:AH} {c:Cod} {vp vs vi va:AV} {x:Itm} {nm:ByteArray} {q:Nat} {tm:List AV} {K:AH} {Z:Option (AExit × St)} (hX:EvC Tryz.prog C0 W0 plN l108_0 (tm,K)=Z) (h:CodR G c vp vs vi) (ha:SlS 32 1 G va (x.args.map row1)) (hi32:∀ a∈x.args,i32R a) (hnp:x.args.length=c.params.length) (hq:G[q]? =some (.cells (rowL nm x va) 126)) (hN:c.params.length < 2 ^ 60) (hA:Agree G K) (hlen:tm.length=68) (h3:tm.getD 3 uA=.ptr q 0) (h42:tm.getD 42 uA=vp) (h43:tm.getD 43 uA=I c.params.length) (h44:tm.getD 44 uA=I ((0:Nat):Int)) :
   ∃ X Y K1 K2,Z=br (allF (fun j=>argP c x.args (6) j) (c.params.length) (0)) (some (.exit 0,(X,K1))) (some (.ret,(Y,K2)))/\(X.length=68/\Agree G K1/\X.getD 3 uA=.ptr q 0/\X.getD 42 uA=vp/\X.getD 43 uA=I c.params.length)/\Y.length=68/\Y.getD 4 uA=.bool false:=by
 subst hX
 exact fit_l h ha hi32 hnp hq hN (c.params.length) 0 tm K (by omega) (by omega) hA hlen h3 h42 h43 h44
theorem ev108 {H:AH} {c:Cod} {vp vs vi va:AV} {x:Itm} {nm:ByteArray} (h:CodR H c vp vs vi) (ha:SlS 32 1 H va (x.args.map row1)) (hi32:∀ a∈x.args,i32R a):Ev Tryz.prog C0 W0 108 [.agg (rowC c vp vs vi),.agg (rowL nm x va)] H=some (.bool (fits6 c nm x),H):=by
 obtain ⟨tm,ht,g0,g1,g2⟩:=tm2 (.agg (rowC c vp vs vi)) (.agg (rowL nm x va)) 68 (by decide)
 rw [fe108,ht]
 rw [<-List.append_nil (ro H)]
 unfold fits6 sizesP
 have hlp:=h.ro.lp
 have hla:=sl32 ha.ro
 cases h0:sEq nm c.name with
 | false=>simp (maxSteps:=4000000) -implicitDefEqProofs only [c108,Tryz.f108,aP,g0,g1,g2,rowL,hlp,hla,ld126,fa126_0,fa126_1,fa126_2,fa126_3,rowL,r5,↓evLd,h0,↓evDn,evUp,eu,sevalprocAttr]
 | true =>
   cases h1:ltB x.grid 1 with
   | true=>simp (maxSteps:=4000000) -implicitDefEqProofs only [c108,Tryz.f108,aP,g0,g1,g2,rowL,hlp,hla,ld126,fa126_0,fa126_1,fa126_2,fa126_3,rowL,r5,↓evLd,h0,h1,↓evDn,evUp,eu,sevalprocAttr]
   | false =>
     cases h2:ltB 8 x.grid with
     | true=>simp (maxSteps:=4000000) -implicitDefEqProofs only [c108,Tryz.f108,aP,g0,g1,g2,rowL,hlp,hla,ld126,fa126_0,fa126_1,fa126_2,fa126_3,rowL,r5,↓evLd,h0,h1,h2,↓evDn,evUp,eu,sevalprocAttr]
     | false =>
       cases h3:ltB x.block 1 with
       | true=>simp (maxSteps:=4000000) -implicitDefEqProofs only [c108,Tryz.f108,aP,g0,g1,g2,rowL,hlp,hla,ld126,fa126_0,fa126_1,fa126_2,fa126_3,rowL,r5,↓evLd,h0,h1,h2,h3,↓evDn,evUp,eu,sevalprocAttr]
       | false =>
         cases h4:ltB 32 x.block with
         | true=>simp (maxSteps:=4000000) -implicitDefEqProofs only [c108,Tryz.f108,aP,g0,g1,g2,rowL,hlp,hla,ld126,fa126_0,fa126_1,fa126_2,fa126_3,rowL,r5,↓evLd,h0,h1,h2,h3,h4,↓evDn,evUp,eu,sevalprocAttr]
         | false =>
           cases h5:eqB (x.args.length:Int) (c.params.length:Int) with
           | false=>simp (maxSteps:=4000000) -implicitDefEqProofs only [c108,Tryz.f108,aP,g0,g1,g2,rowL,hlp,hla,ld126,fa126_0,fa126_1,fa126_2,fa126_3,rowL,r5,↓evLd,h0,h1,h2,h3,h4,h5,↓evDn,evUp,eu,sevalprocAttr]
           | true =>
             have hnp:x.args.length=c.params.length:=by rw [eqB_iff] at h5; omega
             have hA0:=Agree.app (ro H) [AObj.cells (rowC c vp vs vi) 66,AObj.cells (rowL nm x va) 126]
             have hq:(ro H++[AObj.cells (rowC c vp vs vi) 66,AObj.cells (rowL nm x va) 126])[(ro H).length+1]? =some (.cells (rowL nm x va) 126):=by rw [List.getElem?_append_right (Nat.le_add_right _ _),Nat.add_sub_cancel_left]; rfl
             simp (maxSteps:=4000000) -implicitDefEqProofs only [c108,Tryz.f108,aP,g0,g1,g2,rowL,hlp,hla,ld126,fa126_0,fa126_1,fa126_2,fa126_3,rowL,r5,↓evLd,h0,h1,h2,h3,h4,h5,↓evDn,evUp,eu,sevalprocAttr]
             generalize hX:EvC Tryz.prog C0 W0 _ (Code.loop _) _=Z
             obtain ⟨X,Y,K1,K2,he,xs,y0,y1⟩:=fit_l'  hX (h.ro.agree hA0) (ha.ro.same hA0) hi32 hnp hq (Nat.lt_trans h.np (by decide)) (Agree.refl _) (by simp only [ls,g0]) (by simp only [g0,gB,sevalprocAttr]; try rfl) (by simp only [g0,gB,sevalprocAttr]; try rfl) (by simp only [g0,gB,sevalprocAttr]; try rfl) (by simp only [g0,gB,sevalprocAttr]; try rfl)
             subst he
             cases hf:allF (fun j=>argP c x.args 6 j) c.params.length 0 <;> simp (maxSteps:=4000000) -implicitDefEqProofs only [xs.1,y0,y1,hf,↓evDn,evUp,eu,sevalprocAttr]
end Go.Dv
