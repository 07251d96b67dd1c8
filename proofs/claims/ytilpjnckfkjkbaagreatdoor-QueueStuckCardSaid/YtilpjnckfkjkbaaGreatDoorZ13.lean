/- Part 13 of the walks (own work). -/
import Derived.Test.YtilpjnckfkjkbaaGreatDoorZ12
set_option maxRecDepth 100000
set_option maxHeartbeats 4000000
set_option linter.unusedSimpArgs false
set_option linter.unusedVariables false
namespace Go.Dv
open Go.Proofs
attribute [local congr] bind_congr_first cb_congr condA_congr gd_congr br_congr
theorem words_evA (H L:AH):Ev Tryz.prog C0 W0 130 [] (H++L)=some (.map (H.length+L.length),H++(L++[.map wordsE 25])):=by rw [words_ev,List.length_append,List.append_assoc]
def eS:ByteArray:=⟨#[]⟩
theorem eS_pos {s:ByteArray} (h:sEq s eS=false):0 < s.size:=by
 rcases Nat.eq_zero_or_pos s.size with c | c
 · have:s=eS:=ByteArray.ext (by
     have:s.data.size=0:=c
     rw [Array.size_eq_zero_iff] at this; exact this)
   rw [this] at h
   have h2:sEq eS eS=true:=by rw [sEq_iff]
   rw [h2] at h; cases h
 · exact c
def innAll (s:ByteArray):Bool:=allF (fun j=>innP (byteAt s (j:Int))) s.size 0
def shapedP (s:ByteArray):Bool:=!sEq s eS && letP (byteAt s 0) && innAll s
def nameP (s:ByteArray):Bool:=shapedP s && leB s.size 16 && !sIn wordsS s
theorem shaped_loop {H:AH} {s:ByteArray}  (hN:s.size < 2 ^ 60):∀ (d j:Nat) (tm:List AV) (K:AH),s.size - j=d->j<=s.size->Agree H K->tm.length=23->tm.getD 0 uA=.str s->tm.getD 3 uA=I ((j:Nat):Int) ->
   ∃ X Y K1 K2,EvC Tryz.prog C0 W0 plN l119_0 (tm,K)=br (allF (fun j=>innP (byteAt s (j:Int))) (s.size) (j)) (some (.exit 0,(X,K1))) (some (.ret,(Y,K2)))/\(X.length=23/\Agree H K1/\X.getD 0 uA=.str s)/\Y.length=23/\Y.getD 2 uA=.bool false:=by
 intro d
 induction d with
 | zero =>
   intro j tm K hd hj hA hlen h0 h3
   have hjl:j=s.size:=by omega
   have hlt:ltB (j:Int) (s.size:Nat)=false:=ltB_f (by omega)
   rw [allF_end (by omega),el119_0]
   simp (maxSteps:=4000000) -implicitDefEqProofs only [b119_0,Tryz.f119,aP,hlen,h0,h3,hlt,ln9,↓evDn,evUp,eu,reduceCtorEq,reduceIte,Nat.reduceLT,Nat.reduceEqDiff,Nat.reduceAdd,Nat.reduceLeDiff]
   exact ⟨_,tm.set 2 (.bool false),_,K,rfl,⟨by first | exact hlen | simp only [List.length_set,hlen],hA,by first | exact h0 | simp only [hlen,h0,gB,sevalprocAttr]⟩,by simp only [ls,hlen],by simp only [hlen,gs_self,Nat.reduceLT]⟩
 | succ d ih =>
   intro j tm K hd hj hA hlen h0 h3
   have hjN:j < s.size:=by omega
   have hlt:ltB (j:Int) (s.size:Nat)=true:=ltB_t (by omega)
   have hw:=inc_i (j:=j) (by omega)
   have hjj:((0:Int)<=(j:Int)/\(j:Int) < (s.size:Int))=True:=eq_true (by omega)
   rw [allF_step hjN,el119_0]
   rw [<-List.append_nil K]
   cases hp:(innP (byteAt s (j:Int))) with
   | true =>
     simp only [Bool.true_and]
     simp (maxSteps:=4000000) -implicitDefEqProofs only [b119_0,Tryz.f119,aP,hlen,h0,h3,hlt,hw,ln9,hjj,↓aop_index_str und9,↓fc150,ev150,hp,↓evDn,evUp,eu,reduceCtorEq,reduceIte,Nat.reduceLT,Nat.reduceEqDiff,Nat.reduceAdd,Nat.reduceLeDiff]
     exact ih (j+1) _ _ (by omega) (by omega) (by first | exact hA | exact hA.appR _ | exact (hA.appR _).appR _ | exact hA) (by simp only [ls,hlen]) (by simp only [hlen,h0,gB,sevalprocAttr]) (by simp only [hlen,h3,gB,sevalprocAttr])
   | false =>
     simp only [Bool.false_and]
     simp (maxSteps:=4000000) -implicitDefEqProofs only [b119_0,Tryz.f119,aP,hlen,h0,h3,hlt,hw,ln9,hjj,↓aop_index_str und9,↓fc150,ev150,hp,↓evDn,evUp,eu,reduceCtorEq,reduceIte,Nat.reduceLT,Nat.reduceEqDiff,Nat.reduceAdd,Nat.reduceLeDiff]
     exact ⟨tm,_,K,_,rfl,⟨hlen,hA,h0⟩,by simp only [ls,hlen],by simp only [hlen,gB,sevalprocAttr]⟩
theorem shaped_loop' {H:AH} {s:ByteArray} {tm:List AV} {K:AH} {Z:Option (AExit × St)} (hX:EvC Tryz.prog C0 W0 plN l119_0 (tm,K)=Z)  (hN:s.size < 2 ^ 60) (hA:Agree H K) (hlen:tm.length=23) (h0:tm.getD 0 uA=.str s) (h3:tm.getD 3 uA=I ((0:Nat):Int)) :
   ∃ X Y K1 K2,Z=br (allF (fun j=>innP (byteAt s (j:Int))) (s.size) (0)) (some (.exit 0,(X,K1))) (some (.ret,(Y,K2)))/\(X.length=23/\Agree H K1/\X.getD 0 uA=.str s)/\Y.length=23/\Y.getD 2 uA=.bool false:=by
 subst hX
 exact shaped_loop  hN (s.size) 0 tm K (by omega) (by omega) hA hlen h0 h3
theorem name_loop {H:AH} {s:ByteArray}  (hN:s.size < 2 ^ 60):∀ (d j:Nat) (tm:List AV) (K:AH),s.size - j=d->j<=s.size->Agree H K->tm.length=33->tm.getD 0 uA=.str s->tm.getD 23 uA=I s.size->tm.getD 24 uA=I ((j:Nat):Int) ->
   ∃ X Y K1 K2,EvC Tryz.prog C0 W0 plN l104_0 (tm,K)=br (allF (fun j=>innP (byteAt s (j:Int))) (s.size) (j)) (some (.exit 0,(X,K1))) (some (.ret,(Y,K2)))/\(X.length=33/\Agree H K1/\X.getD 0 uA=.str s/\X.getD 23 uA=I s.size)/\Y.length=33/\Y.getD 2 uA=.bool false:=by
 intro d
 induction d with
 | zero =>
   intro j tm K hd hj hA hlen h0 h23 h24
   have hjl:j=s.size:=by omega
   have hlt:ltB (j:Int) (s.size:Nat)=false:=ltB_f (by omega)
   rw [allF_end (by omega),el104_0]
   simp (maxSteps:=4000000) -implicitDefEqProofs only [b104_0,Tryz.f104,aP,hlen,h0,h23,h24,hlt,↓evDn,evUp,eu,reduceCtorEq,reduceIte,Nat.reduceLT,Nat.reduceEqDiff,Nat.reduceAdd,Nat.reduceLeDiff]
   exact ⟨_,tm.set 2 (.bool false),_,K,rfl,⟨by first | exact hlen | simp only [List.length_set,hlen],hA,by first | exact h0 | simp only [hlen,h0,gB,sevalprocAttr],by first | exact h23 | simp only [hlen,h23,gB,sevalprocAttr]⟩,by simp only [ls,hlen],by simp only [hlen,gs_self,Nat.reduceLT]⟩
 | succ d ih =>
   intro j tm K hd hj hA hlen h0 h23 h24
   have hjN:j < s.size:=by omega
   have hlt:ltB (j:Int) (s.size:Nat)=true:=ltB_t (by omega)
   have hw:=inc_i (j:=j) (by omega)
   have hjj:((0:Int)<=(j:Int)/\(j:Int) < (s.size:Int))=True:=eq_true (by omega)
   rw [allF_step hjN,el104_0]
   rw [<-List.append_nil K]
   cases hp:(innP (byteAt s (j:Int))) with
   | true =>
     simp only [Bool.true_and]
     simp (maxSteps:=4000000) -implicitDefEqProofs only [b104_0,Tryz.f104,aP,hlen,h0,h23,h24,hlt,hw,hjj,↓aop_index_str und9,↓fc131,ev131,hp,↓evDn,evUp,eu,reduceCtorEq,reduceIte,Nat.reduceLT,Nat.reduceEqDiff,Nat.reduceAdd,Nat.reduceLeDiff]
     exact ih (j+1) _ _ (by omega) (by omega) (by first | exact hA | exact hA.appR _ | exact (hA.appR _).appR _ | exact hA) (by simp only [ls,hlen]) (by simp only [hlen,h0,gB,sevalprocAttr]) (by simp only [hlen,h23,gB,sevalprocAttr]) (by simp only [hlen,h24,gB,sevalprocAttr])
   | false =>
     simp only [Bool.false_and]
     simp (maxSteps:=4000000) -implicitDefEqProofs only [b104_0,Tryz.f104,aP,hlen,h0,h23,h24,hlt,hw,hjj,↓aop_index_str und9,↓fc131,ev131,hp,↓evDn,evUp,eu,reduceCtorEq,reduceIte,Nat.reduceLT,Nat.reduceEqDiff,Nat.reduceAdd,Nat.reduceLeDiff]
     exact ⟨tm,_,K,_,rfl,⟨hlen,hA,h0,h23⟩,by simp only [ls,hlen],by simp only [hlen,gB,sevalprocAttr]⟩
theorem name_loop' {H:AH} {s:ByteArray} {tm:List AV} {K:AH} {Z:Option (AExit × St)} (hX:EvC Tryz.prog C0 W0 plN l104_0 (tm,K)=Z)  (hN:s.size < 2 ^ 60) (hA:Agree H K) (hlen:tm.length=33) (h0:tm.getD 0 uA=.str s) (h23:tm.getD 23 uA=I s.size) (h24:tm.getD 24 uA=I ((0:Nat):Int)) :
   ∃ X Y K1 K2,Z=br (allF (fun j=>innP (byteAt s (j:Int))) (s.size) (0)) (some (.exit 0,(X,K1))) (some (.ret,(Y,K2)))/\(X.length=33/\Agree H K1/\X.getD 0 uA=.str s/\X.getD 23 uA=I s.size)/\Y.length=33/\Y.getD 2 uA=.bool false:=by
 subst hX
 exact name_loop  hN (s.size) 0 tm K (by omega) (by omega) hA hlen h0 h23 h24
theorem ev119 {s:ByteArray} (hN:s.size < 2 ^ 60) (H:AH):Ev Tryz.prog C0 W0 119 [.str s] H=some (.bool (shapedP s),H):=by
 obtain ⟨tm,ht,g0,g1⟩:=tm1 (.str s) 23 (by decide)
 rw [fe119,ht]
 rw [<-List.append_nil (ro H)]
 unfold shapedP innAll
 cases hs:sEq s eS with
 | true =>
   simp (maxSteps:=4000000) -implicitDefEqProofs only [c119,Tryz.f119,aP,g0,g1,show (⟨#[]⟩:ByteArray)=eS from rfl,hs,↓evDn,evUp,eu,reduceCtorEq,reduceIte,Nat.reduceLT,Nat.reduceEqDiff,Nat.reduceAdd,Nat.reduceLeDiff]
 | false =>
   have h0:((0:Int)<=0/\(0:Int) < (s.size:Int))=True:=eq_true (by have:=eS_pos hs; omega)
   cases hl:letP (byteAt s 0) with
   | false =>
     simp (maxSteps:=4000000) -implicitDefEqProofs only [c119,Tryz.f119,aP,g0,g1,show (⟨#[]⟩:ByteArray)=eS from rfl,hs,h0,↓aop_index_str und9,↓fc149,ev149,hl,↓evDn,evUp,eu,reduceCtorEq,reduceIte,Nat.reduceLT,Nat.reduceEqDiff,Nat.reduceAdd,Nat.reduceLeDiff]
   | true =>
     simp (maxSteps:=4000000) -implicitDefEqProofs only [c119,Tryz.f119,aP,g0,g1,show (⟨#[]⟩:ByteArray)=eS from rfl,hs,h0,↓aop_index_str und9,↓fc149,ev149,hl,↓evDn,evUp,eu,reduceCtorEq,reduceIte,Nat.reduceLT,Nat.reduceEqDiff,Nat.reduceAdd,Nat.reduceLeDiff]
     generalize hX:EvC Tryz.prog C0 W0 _ (Code.loop _) _=Z
     obtain ⟨X,Y,K1,K2,he,xs,y0,y1⟩:=shaped_loop' (s:=s) hX hN (Agree.app _ _) (by simp only [ls,g0]) (by simp only [g0,g1,gB,sevalprocAttr]; try rfl) (by simp only [g0,gB,sevalprocAttr]; try rfl)
     subst he
     simp (maxSteps:=4000000) +contextual -implicitDefEqProofs only [xs.1,y0,y1,↓evDn,evUp,eu,reduceCtorEq,reduceIte,Nat.reduceLT,Nat.reduceEqDiff,Nat.reduceAdd,Nat.reduceLeDiff]
     cases allF (fun j=>innP (byteAt s (j:Int))) s.size 0 <;> rfl
def lexNameP (s:ByteArray):Bool:=!sEq s eS && !ltB 16 s.size && letP (byteAt s 0) && !sIn wordsS s && innAll s
theorem name_eq (s:ByteArray):lexNameP s=nameP s:=by
 unfold lexNameP nameP shapedP
 have:leB (s.size:Int) 16=!ltB 16 (s.size:Int):=by
   rw [Bool.eq_iff_iff,Bool.not_eq_true',leB_iff,ltB_iff0]
 rw [this]
 cases sEq s eS <;> cases ltB 16 (s.size:Int) <;> cases letP (byteAt s 0) <;> cases sIn wordsS s <;> cases innAll s <;> rfl
theorem ev104 {s:ByteArray} (hN:s.size < 2 ^ 60) (H:AH):Ev Tryz.prog C0 W0 104 [.str s] H=some (.bool (nameP s),H):=by
 rw [<-name_eq]
 obtain ⟨tm,ht,g0,g1⟩:=tm1 (.str s) 33 (by decide)
 rw [fe104,ht]
 rw [<-List.append_nil (ro H)]
 unfold lexNameP innAll
 have hlk:=lk172 (H:=ro H++[.map wordsE 25]) (i:=(ro H).length) (l:=wordsS) (c:=25) (by rw [List.getElem?_append_right (Nat.le_refl _),Nat.sub_self]; rfl) s
 cases hs:sEq s eS with
 | true=>simp (maxSteps:=4000000) -implicitDefEqProofs only [c104,Tryz.f104,aP,g0,g1,show (⟨#[]⟩:ByteArray)=eS from rfl,hs,ln9,↓evDn,evUp,eu,reduceCtorEq,reduceIte,Nat.reduceLT,Nat.reduceEqDiff,Nat.reduceAdd,Nat.reduceLeDiff]
 | false =>
   have h0:((0:Int)<=0/\(0:Int) < (s.size:Int))=True:=eq_true (by have:=eS_pos hs; omega)
   cases hl:ltB 16 (s.size:Int) with
   | true=>simp (maxSteps:=4000000) -implicitDefEqProofs only [c104,Tryz.f104,aP,g0,g1,show (⟨#[]⟩:ByteArray)=eS from rfl,hs,ln9,hl,↓evDn,evUp,eu,reduceCtorEq,reduceIte,Nat.reduceLT,Nat.reduceEqDiff,Nat.reduceAdd,Nat.reduceLeDiff]
   | false =>
     cases hp:letP (byteAt s 0) with
     | false=>simp (maxSteps:=4000000) -implicitDefEqProofs only [c104,Tryz.f104,aP,g0,g1,show (⟨#[]⟩:ByteArray)=eS from rfl,hs,ln9,hl,h0,hp,↓aop_index_str und9,↓fc129,ev129,↓evDn,evUp,eu,reduceCtorEq,reduceIte,Nat.reduceLT,Nat.reduceEqDiff,Nat.reduceAdd,Nat.reduceLeDiff]
     | true =>
       cases hw:sIn wordsS s with
       | true=>simp (maxSteps:=4000000) -implicitDefEqProofs only [c104,Tryz.f104,aP,g0,g1,show (⟨#[]⟩:ByteArray)=eS from rfl,hs,ln9,hl,h0,hp,hw,↓aop_index_str und9,↓fc129,ev129,↓fc130,words_evA,hlk,↓evDn,evUp,eu,reduceCtorEq,reduceIte,Nat.reduceLT,Nat.reduceEqDiff,Nat.reduceAdd,Nat.reduceLeDiff]
       | false =>
         simp (maxSteps:=4000000) -implicitDefEqProofs only [c104,Tryz.f104,aP,g0,g1,show (⟨#[]⟩:ByteArray)=eS from rfl,hs,ln9,hl,h0,hp,hw,↓aop_index_str und9,↓fc129,ev129,↓fc130,words_evA,hlk,↓evDn,evUp,eu,reduceCtorEq,reduceIte,Nat.reduceLT,Nat.reduceEqDiff,Nat.reduceAdd,Nat.reduceLeDiff]
         generalize hX:EvC Tryz.prog C0 W0 _ (Code.loop _) _=Z
         obtain ⟨X,Y,K1,K2,he,xs,y0,y1⟩:=name_loop' (s:=s) hX hN (Agree.app _ _) (by simp only [ls,g0]) (by simp only [g0,g1,gB,sevalprocAttr]; try rfl) (by simp only [g0,ln9,gB,sevalprocAttr]; try rfl) (by simp only [g0,gB,sevalprocAttr]; try rfl)
         subst he
         simp (maxSteps:=4000000) +contextual -implicitDefEqProofs only [xs.1,y0,y1,↓evDn,evUp,eu,reduceCtorEq,reduceIte,Nat.reduceLT,Nat.reduceEqDiff,Nat.reduceAdd,Nat.reduceLeDiff]
         cases allF (fun j=>innP (byteAt s (j:Int))) s.size 0 <;> rfl
theorem bs121 (H:AH):buildSliceA Tryz.prog none 164 25 [(0,AV.str { data:=#[102,117,110,99] }),(1,AV.str { data:=#[107,101,114,110,101,108] }),(2,AV.str { data:=#[98,117,102,102,101,114] }),(3,AV.str { data:=#[105,110,116] }),(4,AV.str { data:=#[115,104,97,114,101,100] }),(5,AV.str { data:=#[108,101,116] }),(6,AV.str { data:=#[105,102] }),(7,AV.str { data:=#[101,108,115,101] }),(8,AV.str { data:=#[119,104,105,108,101] }),(9,AV.str { data:=#[98,114,101,97,107] }),(10,AV.str { data:=#[99,111,110,116,105,110,117,101] }),(11,AV.str { data:=#[114,101,116,117,114,110] }),(12,AV.str { data:=#[98,97,114,114,105,101,114] }),(13,AV.str { data:=#[97,116,111,109,105,99] }),(14,AV.str { data:=#[99,111,108,108,101,99,116] }),(15,AV.str { data:=#[116,105,100] }),(16,AV.str { data:=#[98,105,100] }),(17,AV.str { data:=#[100,105,109] }),(18,AV.str { data:=#[103,114,105,100] }),(19,AV.str { data:=#[109,105,110] }),(20,AV.str { data:=#[109,97,120] }),(21,AV.str { data:=#[97,100,100] }),(22,AV.str { data:=#[97,110,100] }),(23,AV.str { data:=#[111,114] }),(24,AV.str { data:=#[120,111,114] })] H=some (.slice H.length 0 1 25 25 true,H++[.cells (wordsS.map .str) 9]):=by kernel_rfl
theorem ev121 (H:AH):Ev Tryz.prog C0 W0 121 [] H=some (.slice H.length 0 1 25 25 true,H++[.cells (wordsS.map .str) 9]):=by
 have g0:(([]:List AV)++List.replicate (2 - ([]:List AV).length) uA).length=2:=by simp
 rw [fe121]
 generalize ([]:List AV)++List.replicate (2 - ([]:List AV).length) uA=tm at *
 simp (maxSteps:=4000000) -implicitDefEqProofs only [c121,Tryz.f121,aP,g0,bs121,↓evDn,evUp,eu,reduceCtorEq,reduceIte,Nat.reduceLT,Nat.reduceEqDiff,Nat.reduceAdd,Nat.reduceLeDiff]
theorem ia164w (H:AH) (i j:Nat) (h:j < 25) (kk:IntKind):indexAddrA Tryz.prog 164 (.slice i 0 1 25 25 true) (.int kk j)=some (.ptr i (0+j * 1)):=by
 rw [ia164,if_pos (by refine ⟨by omega,by omega,rfl⟩)]; rfl
theorem words_sls (H:AH):SlS 164 1 (H++[.cells (wordsS.map .str) 9]) (.slice H.length 0 1 25 25 true) (wordsS.map fun w=>[AV.str w]) where
 len:=fun G=>by rw [ln164]; rfl
 ix:=fun j r hr=>by
   rw [List.getElem?_map] at hr
   obtain ⟨w,hw,rfl⟩:=Option.map_eq_some_iff.1 hr
   have hj:j < 25:=lt_of_get hw
   refine ⟨H.length,0+j * 1,ia164w H _ j hj,?_⟩
   rw [rd_app0]
   unfold rdCells
   simp only [List.getElem?_cons_zero]
   have hl:(wordsS.map AV.str).length=25:=rfl
   rw [if_pos (by rw [hl]; omega)]
   congr 1
   have hj':j < (wordsS.map AV.str).length:=by rw [hl]; exact hj
   rw [show 0+j * 1=j by omega,List.drop_eq_getElem_cons hj',List.take_succ_cons,List.take_zero,List.getElem_map]
   congr 2
   have hj2:j < wordsS.length:=hj
   rw [List.getElem?_eq_getElem hj2] at hw
   exact Option.some.inj hw
 old:=.inr ⟨_,_,_,_,rfl,by unfold okC; rw [List.getElem?_append_right (Nat.le_refl _),Nat.sub_self]; rfl,by rw [flat1,rd_app0]; rfl⟩
theorem ev96 {s:ByteArray} (hN:s.size < 2 ^ 60) (H:AH):Ev Tryz.prog C0 W0 96 [.str s] H=some (.bool (nameP s),H):=by
 obtain ⟨tm,ht,g0,g1⟩:=tm1 (.str s) 16 (by decide)
 rw [fe96,ht]
 rw [<-List.append_nil (ro H)]
 unfold nameP
 have hin:=fun (L:AH)=>ev120 (s:=s) (words_sls (ro H++L)) (by decide)
 have hw:=fun (L:AH)=>ev121 (ro H++L)
 simp only [List.length_append,List.append_assoc] at hin hw
 have hin:=hin []
 simp only [List.length_nil,Nat.add_zero,List.nil_append] at hin
 cases hs:shapedP s with
 | false=>simp (maxSteps:=4000000) -implicitDefEqProofs only [c96,Tryz.f96,aP,g0,g1,hs,↓fc119,ev119 hN,↓evDn,evUp,eu,reduceCtorEq,reduceIte,Nat.reduceLT,Nat.reduceEqDiff,Nat.reduceAdd,Nat.reduceLeDiff]
 | true =>
   cases hl:leB (s.size:Int) 16 with
   | false=>simp (maxSteps:=4000000) -implicitDefEqProofs only [c96,Tryz.f96,aP,g0,g1,hs,↓fc119,ev119 hN,ln9,hl,↓evDn,evUp,eu,reduceCtorEq,reduceIte,Nat.reduceLT,Nat.reduceEqDiff,Nat.reduceAdd,Nat.reduceLeDiff]
   | true=>simp (maxSteps:=4000000) -implicitDefEqProofs only [c96,Tryz.f96,aP,g0,g1,hs,↓fc119,ev119 hN,ln9,hl,↓fc121,hw,↓fc120,hin,↓evDn,evUp,eu,reduceCtorEq,reduceIte,Nat.reduceLT,Nat.reduceEqDiff,Nat.reduceAdd,Nat.reduceLeDiff]
end Go.Dv
namespace Go.Dv
open Go.Proofs
attribute [local congr] bind_congr_first cb_congr condA_congr gd_congr br_congr
structure Prm where
 name:ByteArray
 buf:Bool
structure Arr where
 name:ByteArray
 size:Int
structure Ins where
 kind:Int
 op:Int
 d:Int
 a:Int
 b:Int
 imm:Int
 to:Int
 join:Int
structure Cod where
 name:ByteArray
 params:List Prm
 shared:List Arr
 loc:Int
 insns:List Ins
def rowP (p:Prm):List AV:=[.str p.name,.bool p.buf]
def rowA (a:Arr):List AV:=[.str a.name,I a.size]
def rowI (x:Ins):List AV:=[I x.kind,I x.op,I x.d,I x.a,I x.b,.int .i32 x.imm,I x.to,I x.join]
def rowC (c:Cod) (vp vs vi:AV):List AV:=[.str c.name,vp,vs,I c.loc,vi]
def i32R (n:Int):Prop:=-2147483648<=n/\n < 2147483648
structure CodR (H:AH) (c:Cod) (vp vs vi:AV):Prop where
 p:SlS 62 2 H vp (c.params.map rowP)
 s:SlS 63 2 H vs (c.shared.map rowA)
 i:SlS 64 8 H vi (c.insns.map rowI)
 np:c.params.length < 2 ^ 50
 ns:c.shared.length < 2 ^ 50
 ni:c.insns.length < 2 ^ 50
 nm:c.name.size < 2 ^ 60
 pn:∀ p∈c.params,p.name.size < 2 ^ 60
 sn:∀ a∈c.shared,a.name.size < 2 ^ 60
 im:∀ x∈c.insns,i32R x.imm
theorem CodR.ro {H:AH} {c:Cod} {vp vs vi:AV} (h:CodR H c vp vs vi):CodR (ro H) c vp vs vi:={ h with p:=h.p.ro,s:=h.s.ro,i:=h.i.ro }
theorem CodR.agree {H K:AH} {c:Cod} {vp vs vi:AV} (h:CodR H c vp vs vi) (hA:Agree H K):CodR K c vp vs vi:={ h with p:=h.p.same hA,s:=h.s.same hA,i:=h.i.same hA }
theorem CodR.lp {H:AH} {c:Cod} {vp vs vi:AV} (h:CodR H c vp vs vi) (G:AH):lenA Tryz.prog 62 G vp=some (I c.params.length):=by have:=h.p.len G; rwa [List.length_map] at this
theorem CodR.ls {H:AH} {c:Cod} {vp vs vi:AV} (h:CodR H c vp vs vi) (G:AH):lenA Tryz.prog 63 G vs=some (I c.shared.length):=by have:=h.s.len G; rwa [List.length_map] at this
theorem CodR.li {H:AH} {c:Cod} {vp vs vi:AV} (h:CodR H c vp vs vi) (G:AH):lenA Tryz.prog 64 G vi=some (I c.insns.length):=by have:=h.i.len G; rwa [List.length_map] at this
def foldP (n:Int):Bool:=eqB n 0 || eqB n 6 || eqB n 7 || eqB n 18 || eqB n 19 || eqB n 5
theorem br_ti (b:Bool) (k:IntKind) (x x':Int) (y y':Bool) (H:AH):br b (some (AV.tuple [.int k x,.bool y],H)) (some (AV.tuple [.int k x',.bool y'],H))=some (.tuple [.int k (br b x x'),.bool (br b y y')],H):=by cases b <;> rfl
theorem fin_ti (H G:AH) (b:Bool) (k:IntKind) (n:Int):finA true H (.tuple [.int k n,.bool b],G)=some (.tuple [.int k n,.bool b],H):=rfl
def withinP (u:Bool) (n l:Int):Bool:=br u (leB 0 n && ltB n l) (eqB n 0)
theorem ev132 (n:Int) (H:AH):∃ v,Ev Tryz.prog C0 W0 132 [I n] H=some (.tuple [.int .i32 v,.bool (foldP n)],H):=by
 obtain ⟨tm,ht,g0,g1⟩:=tm1 (I n) 15 (by decide)
 rw [fe132,ht]
 rw [<-List.append_nil (ro H)]
 unfold foldP
 simp (maxSteps:=4000000) +contextual -implicitDefEqProofs only [c132,Tryz.f132,aP,g0,g1,br_ti,fin_ti,↓evDn,evUp,eu,sevalprocAttr]
 refine ⟨_,congrArg (fun b=>some (AV.tuple [.int .i32 _,.bool b],H)) ?_⟩
 cases eqB n 0 <;> cases eqB n 6 <;> cases eqB n 7 <;> cases eqB n 18 <;> cases eqB n 19 <;> cases eqB n 5 <;> rfl
theorem ev151 (n:Int) (H:AH):∃ v,Ev Tryz.prog C0 W0 151 [I n] H=some (.tuple [.int .i32 v,.bool (foldP n)],H):=by
 obtain ⟨tm,ht,g0,g1⟩:=tm1 (I n) 15 (by decide)
 rw [fe151,ht]
 rw [<-List.append_nil (ro H)]
 unfold foldP
 simp (maxSteps:=4000000) +contextual -implicitDefEqProofs only [c151,Tryz.f151,aP,g0,g1,br_ti,fin_ti,↓evDn,evUp,eu,sevalprocAttr]
 refine ⟨_,congrArg (fun b=>some (AV.tuple [.int .i32 _,.bool b],H)) ?_⟩
 cases eqB n 0 <;> cases eqB n 6 <;> cases eqB n 7 <;> cases eqB n 18 <;> cases eqB n 19 <;> cases eqB n 5 <;> rfl
theorem ev105 (n:Int) (H:AH):Ev Tryz.prog C0 W0 105 [I n] H=some (.bool (foldP n),H):=by
 obtain ⟨v,hv⟩:=ev132 n (ro H++[])
 obtain ⟨tm,ht,g0,g1⟩:=tm1 (I n) 11 (by decide)
 rw [fe105,ht]
 rw [<-List.append_nil (ro H)]
 simp (maxSteps:=4000000) +contextual -implicitDefEqProofs only [c105,Tryz.f105,aP,g0,g1,↓fc132,hv,fin_ti,↓evDn,evUp,eu,sevalprocAttr]
theorem ev122 (n:Int) (H:AH):Ev Tryz.prog C0 W0 122 [I n] H=some (.bool (foldP n),H):=by
 obtain ⟨v,hv⟩:=ev151 n (ro H++[])
 obtain ⟨tm,ht,g0,g1⟩:=tm1 (I n) 11 (by decide)
 rw [fe122,ht]
 rw [<-List.append_nil (ro H)]
 simp (maxSteps:=4000000) +contextual -implicitDefEqProofs only [c122,Tryz.f122,aP,g0,g1,↓fc151,hv,fin_ti,↓evDn,evUp,eu,sevalprocAttr]
theorem ev106 (u:Bool) (n l:Int) (H:AH):Ev Tryz.prog C0 W0 106 [.bool u,I n,I l] H=some (.bool (withinP u n l),H):=by
 obtain ⟨tm,ht,g0,g1,g2,g3⟩:=tm3 (.bool u) (I n) (I l) 18 (by decide)
 rw [fe106,ht]
 rw [<-List.append_nil (ro H)]
 simp (maxSteps:=4000000) +contextual -implicitDefEqProofs only [c106,Tryz.f106,aP,g0,g1,g2,g3,↓evDn,evUp,eu,sevalprocAttr]
 unfold withinP
 refine congrArg (fun b=>some (AV.bool b,H)) ?_
 cases u <;>
 cases leB 0 n <;>
 cases ltB n l <;>
 cases eqB n 0 <;>
 rfl
theorem ev98 (u:Bool) (n:Int) (H:AH):Ev Tryz.prog C0 W0 98 [I n,.bool u] H=some (.bool (withinP u n 16),H):=by
 obtain ⟨tm,ht,g0,g1,g2⟩:=tm2 (I n) (.bool u) 15 (by decide)
 rw [fe98,ht]
 rw [<-List.append_nil (ro H)]
 simp (maxSteps:=4000000) +contextual -implicitDefEqProofs only [c98,Tryz.f98,aP,g0,g1,g2,↓evDn,evUp,eu,sevalprocAttr]
 unfold withinP
 refine congrArg (fun b=>some (AV.bool b,H)) ?_
 cases u <;>
 cases leB 0 n <;>
 cases ltB n 16 <;>
 cases eqB n 0 <;>
 rfl
def kD (k:Int):Bool:=eqB k 0 || eqB k 4 || eqB k 5 || eqB k 11 || eqB k 1 || eqB k 2 || eqB k 6 || eqB k 10 || eqB k 3
def kA (k:Int):Bool:=eqB k 1 || eqB k 2 || eqB k 6 || eqB k 10 || eqB k 3 || eqB k 7 || eqB k 8 || eqB k 12 || eqB k 14
def kB (k:Int):Bool:=eqB k 3 || eqB k 7 || eqB k 8
theorem cases16 {k:Int} (h0:0<=k) (h1:k < 16) {p:Int->Prop} (a0:p 0) (a1:p 1) (a2:p 2) (a3:p 3) (a4:p 4) (a5:p 5) (a6:p 6) (a7:p 7) (a8:p 8) (a9:p 9) (a10:p 10) (a11:p 11) (a12:p 12) (a13:p 13) (a14:p 14) (a15:p 15):p k:=by
 have:k=0∨k=1∨k=2∨k=3∨k=4∨k=5∨k=6∨k=7∨k=8∨k=9∨k=10∨k=11∨k=12∨k=13∨k=14∨k=15:=by omega
 rcases this with h | h | h | h | h | h | h | h | h | h | h | h | h | h | h | h <;> rw [h] <;> assumption
theorem ev97 {k:Int} (h0:0<=k) (h1:k < 16) (H:AH):Ev Tryz.prog C0 W0 97 [I k] H=some (.tuple [.bool (kD k),.bool (kA k),.bool (kB k)],H):=by
 refine cases16 (p:=fun k=>Ev Tryz.prog C0 W0 97 [I k] H=some (.tuple [.bool (kD k),.bool (kA k),.bool (kB k)],H)) h0 h1 ?_ ?_ ?_ ?_ ?_ ?_ ?_ ?_ ?_ ?_ ?_ ?_ ?_ ?_ ?_ ?_
 · obtain ⟨tm,ht,g0,g1⟩:=tm1 (I 0) 24 (by decide)
   rw [fe97,ht]
   rw [<-List.append_nil (ro H)]
   simp (maxSteps:=4000000) -implicitDefEqProofs only [c97,Tryz.f97,aP,g0,g1,eqQ,↓evDn,evUp,eu,sevalprocAttr]
   rfl
 · obtain ⟨tm,ht,g0,g1⟩:=tm1 (I 1) 24 (by decide)
   rw [fe97,ht]
   rw [<-List.append_nil (ro H)]
   simp (maxSteps:=4000000) -implicitDefEqProofs only [c97,Tryz.f97,aP,g0,g1,eqQ,↓evDn,evUp,eu,sevalprocAttr]
   rfl
 · obtain ⟨tm,ht,g0,g1⟩:=tm1 (I 2) 24 (by decide)
   rw [fe97,ht]
   rw [<-List.append_nil (ro H)]
   simp (maxSteps:=4000000) -implicitDefEqProofs only [c97,Tryz.f97,aP,g0,g1,eqQ,↓evDn,evUp,eu,sevalprocAttr]
   rfl
 · obtain ⟨tm,ht,g0,g1⟩:=tm1 (I 3) 24 (by decide)
   rw [fe97,ht]
   rw [<-List.append_nil (ro H)]
   simp (maxSteps:=4000000) -implicitDefEqProofs only [c97,Tryz.f97,aP,g0,g1,eqQ,↓evDn,evUp,eu,sevalprocAttr]
   rfl
 · obtain ⟨tm,ht,g0,g1⟩:=tm1 (I 4) 24 (by decide)
   rw [fe97,ht]
   rw [<-List.append_nil (ro H)]
   simp (maxSteps:=4000000) -implicitDefEqProofs only [c97,Tryz.f97,aP,g0,g1,eqQ,↓evDn,evUp,eu,sevalprocAttr]
   rfl
 · obtain ⟨tm,ht,g0,g1⟩:=tm1 (I 5) 24 (by decide)
   rw [fe97,ht]
   rw [<-List.append_nil (ro H)]
   simp (maxSteps:=4000000) -implicitDefEqProofs only [c97,Tryz.f97,aP,g0,g1,eqQ,↓evDn,evUp,eu,sevalprocAttr]
   rfl
 · obtain ⟨tm,ht,g0,g1⟩:=tm1 (I 6) 24 (by decide)
   rw [fe97,ht]
   rw [<-List.append_nil (ro H)]
   simp (maxSteps:=4000000) -implicitDefEqProofs only [c97,Tryz.f97,aP,g0,g1,eqQ,↓evDn,evUp,eu,sevalprocAttr]
   rfl
 · obtain ⟨tm,ht,g0,g1⟩:=tm1 (I 7) 24 (by decide)
   rw [fe97,ht]
   rw [<-List.append_nil (ro H)]
   simp (maxSteps:=4000000) -implicitDefEqProofs only [c97,Tryz.f97,aP,g0,g1,eqQ,↓evDn,evUp,eu,sevalprocAttr]
   rfl
 · obtain ⟨tm,ht,g0,g1⟩:=tm1 (I 8) 24 (by decide)
   rw [fe97,ht]
   rw [<-List.append_nil (ro H)]
   simp (maxSteps:=4000000) -implicitDefEqProofs only [c97,Tryz.f97,aP,g0,g1,eqQ,↓evDn,evUp,eu,sevalprocAttr]
   rfl
 · obtain ⟨tm,ht,g0,g1⟩:=tm1 (I 9) 24 (by decide)
   rw [fe97,ht]
   rw [<-List.append_nil (ro H)]
   simp (maxSteps:=4000000) -implicitDefEqProofs only [c97,Tryz.f97,aP,g0,g1,eqQ,↓evDn,evUp,eu,sevalprocAttr]
   rfl
 · obtain ⟨tm,ht,g0,g1⟩:=tm1 (I 10) 24 (by decide)
   rw [fe97,ht]
   rw [<-List.append_nil (ro H)]
   simp (maxSteps:=4000000) -implicitDefEqProofs only [c97,Tryz.f97,aP,g0,g1,eqQ,↓evDn,evUp,eu,sevalprocAttr]
   rfl
 · obtain ⟨tm,ht,g0,g1⟩:=tm1 (I 11) 24 (by decide)
   rw [fe97,ht]
   rw [<-List.append_nil (ro H)]
   simp (maxSteps:=4000000) -implicitDefEqProofs only [c97,Tryz.f97,aP,g0,g1,eqQ,↓evDn,evUp,eu,sevalprocAttr]
   rfl
 · obtain ⟨tm,ht,g0,g1⟩:=tm1 (I 12) 24 (by decide)
   rw [fe97,ht]
   rw [<-List.append_nil (ro H)]
   simp (maxSteps:=4000000) -implicitDefEqProofs only [c97,Tryz.f97,aP,g0,g1,eqQ,↓evDn,evUp,eu,sevalprocAttr]
   rfl
 · obtain ⟨tm,ht,g0,g1⟩:=tm1 (I 13) 24 (by decide)
   rw [fe97,ht]
   rw [<-List.append_nil (ro H)]
   simp (maxSteps:=4000000) -implicitDefEqProofs only [c97,Tryz.f97,aP,g0,g1,eqQ,↓evDn,evUp,eu,sevalprocAttr]
   rfl
 · obtain ⟨tm,ht,g0,g1⟩:=tm1 (I 14) 24 (by decide)
   rw [fe97,ht]
   rw [<-List.append_nil (ro H)]
   simp (maxSteps:=4000000) -implicitDefEqProofs only [c97,Tryz.f97,aP,g0,g1,eqQ,↓evDn,evUp,eu,sevalprocAttr]
   rfl
 · obtain ⟨tm,ht,g0,g1⟩:=tm1 (I 15) 24 (by decide)
   rw [fe97,ht]
   rw [<-List.append_nil (ro H)]
   simp (maxSteps:=4000000) -implicitDefEqProofs only [c97,Tryz.f97,aP,g0,g1,eqQ,↓evDn,evUp,eu,sevalprocAttr]
   rfl
end Go.Dv
namespace Go.Dv
theorem r5:(type_of% @rowC.eq_1)/\(type_of% @rowI.eq_1)/\(type_of% @rowP.eq_1)/\(type_of% @rowA.eq_1)/\(type_of% @kindRow.eq_1):=⟨@rowC.eq_1,@rowI.eq_1,@rowP.eq_1,@rowA.eq_1,@kindRow.eq_1⟩
end Go.Dv
namespace Go.Dv
open Go.Proofs
attribute [local congr] bind_congr_first cb_congr condA_congr gd_congr br_congr
def bufAt (c:Cod) (n:Int):Bool:=match c.params[n.toNat]? with
 | some p=>p.buf
 | none=>false
def arrP (c:Cod) (n:Int):Bool:=br (leB 6 n) (ltB n (6+c.shared.length)) (leB 0 n && ltB n c.params.length && bufAt c n)
def parP (c:Cod) (n:Int):Bool:=leB 0 n && ltB n c.params.length && !bufAt c n
theorem wr_i {n:Int} (h:-9223372036854775808<=n/\n < 9223372036854775808):IntKind.i64.wrap n=n:=IntWalk.i64_in _ (by omega)
theorem prm_at {H K:AH} {c:Cod} {vp vs vi:AV} (h:CodR H c vp vs vi) (hA:Agree H K) {j:Nat} (hj:j < c.params.length):∃ i k,(∀ kk,indexAddrA Tryz.prog 62 vp (.int kk (j:Int))=some (.ptr i k))/\(∀ L,rdCells (K++L) i k 1=some [.str (c.params[j]'hj).name])/\(∀ L,rdCells (K++L) i (k+1) 1=some [.bool (c.params[j]'hj).buf])/\(∀ L,rdCells (K++L) i k 2=some (rowP (c.params[j]'hj)))/\bufAt c (j:Int)=(c.params[j]'hj).buf:=by
 obtain ⟨i,k,hi,hr⟩:=h.p.ix j (rowP (c.params[j]'hj)) (by rw [List.getElem?_map,List.getElem?_eq_getElem hj]; rfl)
 refine ⟨i,k,hi,fun L=>row_0 hr hA L rfl,fun L=>row_c hr hA L 1 rfl,fun L=>row_rd hr hA L,?_⟩
 unfold bufAt
 rw [Int.toNat_natCast,List.getElem?_eq_getElem hj]
theorem ev133 {H:AH} {c:Cod} {vp vs vi:AV} (h:CodR H c vp vs vi) {n:Int} (hn:i32R n):Ev Tryz.prog C0 W0 133 [.agg (rowC c vp vs vi),.int .i32 n] H=some (.bool (arrP c n),H):=by
 obtain ⟨tm,ht,g0,g1,g2⟩:=tm2 (.agg (rowC c vp vs vi)) (.int .i32 n) 32 (by decide)
 rw [fe133,ht]
 rw [<-List.append_nil (ro H)]
 unfold arrP
 obtain ⟨n0,n1⟩:=hn
 have hlp:=h.ro.lp
 have hls:=h.ro.ls
 have hsb:=h.ns
 have hpb:=h.np
 have hwn:IntKind.i64.wrap n=n:=wr_i (by omega)
 cases h6:leB 6 n with
 | true =>
   have hw6:IntKind.i64.wrap (6+(c.shared.length:Int))=6+(c.shared.length:Int):=wr_i (by omega)
   simp (maxSteps:=4000000) -implicitDefEqProofs only [c133,Tryz.f133,aP,g0,g1,g2,hlp,hls,r5,↓evLd,h6,hwn,hw6,↓evDn,evUp,eu,sevalprocAttr]
 | false =>
   cases h0:leB 0 n with
   | false=>simp (maxSteps:=4000000) -implicitDefEqProofs only [c133,Tryz.f133,aP,g0,g1,g2,hlp,hls,r5,↓evLd,h6,h0,hwn,↓evDn,evUp,eu,sevalprocAttr]
   | true =>
     cases hl:ltB n c.params.length with
     | false=>simp (maxSteps:=4000000) -implicitDefEqProofs only [c133,Tryz.f133,aP,g0,g1,g2,hlp,hls,r5,↓evLd,h6,h0,hl,hwn,↓evDn,evUp,eu,sevalprocAttr]
     | true =>
       rw [leB_iff] at h0
       obtain ⟨j,rfl⟩:∃ j:Nat,n=j:=⟨n.toNat,by omega⟩
       have hj:j < c.params.length:=by have:=(ltB_iff _ _).1 hl; omega
       obtain ⟨i,k,hi,hr0,hr1,hr2,hb⟩:=prm_at h.ro (Agree.refl _) hj
       have h0':leB 0 (j:Int)=true:=leB_t (by omega)
       simp (maxSteps:=4000000) -implicitDefEqProofs only [c133,Tryz.f133,aP,g0,g1,g2,hlp,hls,r5,↓evLd,h6,h0',hl,hwn,hi,hr1,hb,↓evDn,evUp,eu,sevalprocAttr]
theorem ev123 {H:AH} {c:Cod} {vp vs vi:AV} (h:CodR H c vp vs vi) {n:Int} (hn:i32R n):Ev Tryz.prog C0 W0 123 [.agg (rowC c vp vs vi),.int .i32 n] H=some (.bool (arrP c n),H):=by
 obtain ⟨tm,ht,g0,g1,g2⟩:=tm2 (.agg (rowC c vp vs vi)) (.int .i32 n) 32 (by decide)
 rw [fe123,ht]
 rw [<-List.append_nil (ro H)]
 unfold arrP
 obtain ⟨n0,n1⟩:=hn
 have hlp:=h.ro.lp
 have hls:=h.ro.ls
 have hsb:=h.ns
 have hpb:=h.np
 have hwn:IntKind.i64.wrap n=n:=wr_i (by omega)
 cases h6:leB 6 n with
 | true =>
   have hw6:IntKind.i64.wrap (n - 6)=n - 6:=wr_i (by omega)
   have he:ltB (n - 6) (c.shared.length:Int)=ltB n (6+(c.shared.length:Int)):=by rw [Bool.eq_iff_iff,ltB_iff,ltB_iff]; omega
   simp (maxSteps:=4000000) -implicitDefEqProofs only [c123,Tryz.f123,aP,g0,g1,g2,hlp,hls,r5,↓evLd,h6,hwn,hw6,he,↓evDn,evUp,eu,sevalprocAttr]
 | false =>
   cases h0:leB 0 n with
   | false=>simp (maxSteps:=4000000) -implicitDefEqProofs only [c123,Tryz.f123,aP,g0,g1,g2,hlp,hls,r5,↓evLd,h6,h0,hwn,↓evDn,evUp,eu,sevalprocAttr]
   | true =>
     cases hl:ltB n c.params.length with
     | false=>simp (maxSteps:=4000000) -implicitDefEqProofs only [c123,Tryz.f123,aP,g0,g1,g2,hlp,hls,r5,↓evLd,h6,h0,hl,hwn,↓evDn,evUp,eu,sevalprocAttr]
     | true =>
       rw [leB_iff] at h0
       obtain ⟨j,rfl⟩:∃ j:Nat,n=j:=⟨n.toNat,by omega⟩
       have hj:j < c.params.length:=by have:=(ltB_iff _ _).1 hl; omega
       obtain ⟨i,k,hi,hr0,hr1,hr2,hb⟩:=prm_at h.ro (Agree.refl _) hj
       have h0':leB 0 (j:Int)=true:=leB_t (by omega)
       simp (maxSteps:=4000000) -implicitDefEqProofs only [c123,Tryz.f123,aP,g0,g1,g2,hlp,hls,r5,↓evLd,h6,h0',hl,hwn,hi,hr1,hb,↓evDn,evUp,eu,sevalprocAttr]
theorem st3 (H:AH) (i k:Nat) (x:AV):stA Tryz.prog 3 H i k x=if x.cells.length=1 then wrCells H i k x.cells else none:=by kernel_rfl
theorem st4 (H:AH) (i k:Nat) (x:AV):stA Tryz.prog 4 H i k x=if x.cells.length=1 then wrCells H i k x.cells else none:=by kernel_rfl
theorem st21 (H:AH) (i k:Nat) (x:AV):stA Tryz.prog 21 H i k x=if x.cells.length=1 then wrCells H i k x.cells else none:=by kernel_rfl
theorem st25 (H:AH) (i k:Nat) (x:AV):stA Tryz.prog 25 H i k x=if x.cells.length=1 then wrCells H i k x.cells else none:=by kernel_rfl
theorem st30 (H:AH) (i k:Nat) (x:AV):stA Tryz.prog 30 H i k x=if x.cells.length=1 then wrCells H i k x.cells else none:=by kernel_rfl
theorem st31 (H:AH) (i k:Nat) (x:AV):stA Tryz.prog 31 H i k x=if x.cells.length=1 then wrCells H i k x.cells else none:=by kernel_rfl
theorem st32 (H:AH) (i k:Nat) (x:AV):stA Tryz.prog 32 H i k x=if x.cells.length=1 then wrCells H i k x.cells else none:=by kernel_rfl
theorem st62 (H:AH) (i k:Nat) (x:AV):stA Tryz.prog 62 H i k x=if x.cells.length=1 then wrCells H i k x.cells else none:=by kernel_rfl
theorem st63 (H:AH) (i k:Nat) (x:AV):stA Tryz.prog 63 H i k x=if x.cells.length=1 then wrCells H i k x.cells else none:=by kernel_rfl
theorem st64 (H:AH) (i k:Nat) (x:AV):stA Tryz.prog 64 H i k x=if x.cells.length=1 then wrCells H i k x.cells else none:=by kernel_rfl
theorem st27 (H:AH) (i k:Nat) (x:AV):stA Tryz.prog 27 H i k x=if x.cells.length=7 then wrCells H i k x.cells else none:=by kernel_rfl
theorem st29 (H:AH) (i k:Nat) (x:AV):stA Tryz.prog 29 H i k x=if x.cells.length=10 then wrCells H i k x.cells else none:=by kernel_rfl
theorem st34 (H:AH) (i k:Nat) (x:AV):stA Tryz.prog 34 H i k x=if x.cells.length=9 then wrCells H i k x.cells else none:=by kernel_rfl
theorem st66 (H:AH) (i k:Nat) (x:AV):stA Tryz.prog 66 H i k x=if x.cells.length=5 then wrCells H i k x.cells else none:=by kernel_rfl
theorem st74 (H:AH) (i k:Nat) (x:AV):stA Tryz.prog 74 H i k x=if x.cells.length=2 then wrCells H i k x.cells else none:=by kernel_rfl
theorem st77 (H:AH) (i k:Nat) (x:AV):stA Tryz.prog 77 H i k x=if x.cells.length=2 then wrCells H i k x.cells else none:=by kernel_rfl
theorem st80 (H:AH) (i k:Nat) (x:AV):stA Tryz.prog 80 H i k x=if x.cells.length=8 then wrCells H i k x.cells else none:=by kernel_rfl
theorem st152 (H:AH) (i k:Nat) (x:AV):stA Tryz.prog 152 H i k x=if x.cells.length=12 then wrCells H i k x.cells else none:=by kernel_rfl
theorem st153 (H:AH) (i k:Nat) (x:AV):stA Tryz.prog 153 H i k x=if x.cells.length=192 then wrCells H i k x.cells else none:=by kernel_rfl
theorem z30:zeroA Tryz.prog 30=some (.nilSlice):=by kernel_rfl
theorem z80:zeroA Tryz.prog 80=some (.agg [I 0,I 0,I 0,I 0,I 0,.int .i32 0,I 0,I 0]):=by kernel_rfl
theorem z74:zeroA Tryz.prog 74=some (.agg [.str eS,.bool false]):=by kernel_rfl
theorem z77:zeroA Tryz.prog 77=some (.agg [.str eS,I 0]):=by kernel_rfl
theorem z66:zeroA Tryz.prog 66=some (.agg [.str eS,.nilSlice,.nilSlice,I 0,.nilSlice]):=by kernel_rfl
theorem z152:zeroA Tryz.prog 152=some (.agg [.bool false,.bool false,.bool false,.bool false,.bool false,.bool false,.bool false,.bool false,.bool false,.bool false,.bool false,I 0]):=by kernel_rfl
def z153L:List AV:=(List.replicate 16 [AV.bool false,AV.bool false,AV.bool false,AV.bool false,AV.bool false,AV.bool false,AV.bool false,AV.bool false,AV.bool false,AV.bool false,AV.bool false,I 0]).flatten
theorem z153:zeroA Tryz.prog 153=some (.agg z153L):=by kernel_rfl
theorem SlS.one {T es:Nat} {H:AH} {v:AV} {rows:List (List AV)} (h:SlS T es H v rows):v.one=true:=by
 rcases h.old with ⟨e,_⟩ | ⟨i,k,c,x,e,h',_⟩ <;> rw [e] <;> rfl
theorem SlS.cells {T es:Nat} {H:AH} {v:AV} {rows:List (List AV)} (h:SlS T es H v rows):v.cells=[v]:=by
 rcases h.old with ⟨e,_⟩ | ⟨i,k,c,x,e,h',_⟩ <;> rw [e] <;> rfl
theorem spl_full:∀ (vs cs:List AV),vs.length=cs.length->spl cs 0 vs=vs
 | [],[],_=>rfl
 | [],_::_,h=>by simp at h
 | _::_,[],h=>by simp at h
 | v::vs,c::cs,h=>by
   have key:∀ (vs cs:List AV) (c:AV) (k:Nat),spl (c::cs) (k+1) vs=c::spl cs k vs:=by
     intro vs
     induction vs with
     | nil=>intro cs c k; rfl
     | cons v vs ih=>intro cs c k; simp only [spl,List.set_cons_succ]; rw [ih]
   simp only [spl,List.set_cons_zero]
   rw [key,spl_full vs cs (by simpa using h)]
theorem wr_full (H L:AH) (cs vs:List AV) (e:TypeId) (hl:vs.length=cs.length) (ho:vs.all AV.one=true):wrCells (H++.cells cs e::L) H.length 0 vs=some (H++.cells vs e::L):=by
 unfold wrCells
 rw [List.getElem?_append_right (Nat.le_refl _),Nat.sub_self,List.getElem?_cons_zero]
 simp only
 rw [if_pos ⟨by omega,ho⟩,List.set_append_right _ _ (Nat.le_refl _),Nat.sub_self,List.set_cons_zero,spl_full vs cs hl]
theorem ia153 (i k:Nat) (kk:IntKind) (n:Int):indexAddrA Tryz.prog 153 (.ptr i k) (.int kk n)=if 0<=n/\n < 16 then some (.ptr i (k+n.toNat * 12)) else none:=by kernel_rfl
def kFold (k:Int):Bool:=eqB k 8 || eqB k 10
def kOps (k:Int):Int:=if k=2 then 3 else if k=3 then 20 else if k=4 then 4 else 0
def kTo (k:Int):Bool:=eqB k 13 || eqB k 14
def kJoin (k:Int):Bool:=eqB k 14
def kWord (k:Int):Bool:=eqB k 0
def kArr (k:Int):Bool:=eqB k 6 || eqB k 7 || eqB k 8
def kPar (k:Int):Bool:=eqB k 5
def kBar (k:Int):Bool:=eqB k 9 || eqB k 10
def kLoc (k:Int):Bool:=eqB k 11 || eqB k 12
def rowK (k:Int):List AV:=[.bool (kD k),.bool (kA k),.bool (kB k),.bool (kArr k),.bool (kFold k),.bool (kBar k),.bool (kLoc k),.bool (kPar k),.bool (kWord k),.bool (kTo k),.bool (kJoin k),I (kOps k)]
theorem krow:∀ k:Fin 16,(kindsCs.drop (k.val * 12)).take 12=rowK (k.val:Int):=by
 intro ⟨k,hk⟩
 have:k=0∨k=1∨k=2∨k=3∨k=4∨k=5∨k=6∨k=7∨k=8∨k=9∨k=10∨k=11∨k=12∨k=13∨k=14∨k=15:=by omega
 rcases this with h | h | h | h | h | h | h | h | h | h | h | h | h | h | h | h <;> subst h <;> rfl
theorem kinds_rd (H L:AH) (A B:AObj) {j:Nat} (hj:j < 16):rdCells (H++A::B::.cells kindsCs 153::L) (H.length+2) (0+j * 12) 12=some (rowK (j:Int)):=by
 rw [rd_app]
 unfold rdCells
 simp only [List.getElem?_cons_succ,List.getElem?_cons_zero]
 have hl:kindsCs.length=192:=rfl
 rw [if_pos (by rw [hl]; omega),Nat.zero_add,krow ⟨j,hj⟩]
def immG (c:Cod) (word array param barrier loc:Bool) (n:Int):Bool:=br word true (br array (arrP c n) (br param (parP c n) (br barrier (leB 0 n && leB n 400) (br loc (leB 0 n && ltB n c.loc) (eqB n 0)))))
def insP (c:Cod) (x:Ins):Bool:=leB 0 x.kind && ltB x.kind 16 && br (kFold x.kind) (foldP x.op) (withinP (ltB 0 (kOps x.kind)) x.op (kOps x.kind)) && withinP (kD x.kind) x.d 16 && withinP (kA x.kind) x.a 16 && withinP (kB x.kind) x.b 16 &&
 immG c (kWord x.kind) (kArr x.kind) (kPar x.kind) (kBar x.kind) (kLoc x.kind) x.imm && withinP (kTo x.kind) x.to c.insns.length && withinP (kJoin x.kind) x.join (c.insns.length+1)
theorem fa152_0 (i k:Nat):fieldAddrA Tryz.prog 152 (.ptr i k) 0=some (.ptr i k):=by kernel_rfl
theorem fa152_1 (i k:Nat):fieldAddrA Tryz.prog 152 (.ptr i k) 1=some (.ptr i (k+1)):=by kernel_rfl
theorem fa152_2 (i k:Nat):fieldAddrA Tryz.prog 152 (.ptr i k) 2=some (.ptr i (k+2)):=by kernel_rfl
theorem fa152_3 (i k:Nat):fieldAddrA Tryz.prog 152 (.ptr i k) 3=some (.ptr i (k+3)):=by kernel_rfl
theorem fa152_4 (i k:Nat):fieldAddrA Tryz.prog 152 (.ptr i k) 4=some (.ptr i (k+4)):=by kernel_rfl
theorem fa152_5 (i k:Nat):fieldAddrA Tryz.prog 152 (.ptr i k) 5=some (.ptr i (k+5)):=by kernel_rfl
theorem fa152_6 (i k:Nat):fieldAddrA Tryz.prog 152 (.ptr i k) 6=some (.ptr i (k+6)):=by kernel_rfl
theorem fa152_7 (i k:Nat):fieldAddrA Tryz.prog 152 (.ptr i k) 7=some (.ptr i (k+7)):=by kernel_rfl
theorem fa152_8 (i k:Nat):fieldAddrA Tryz.prog 152 (.ptr i k) 8=some (.ptr i (k+8)):=by kernel_rfl
theorem fa152_9 (i k:Nat):fieldAddrA Tryz.prog 152 (.ptr i k) 9=some (.ptr i (k+9)):=by kernel_rfl
theorem fa152_10 (i k:Nat):fieldAddrA Tryz.prog 152 (.ptr i k) 10=some (.ptr i (k+10)):=by kernel_rfl
theorem fa152_11 (i k:Nat):fieldAddrA Tryz.prog 152 (.ptr i k) 11=some (.ptr i (k+11)):=by kernel_rfl
theorem ev107 {H:AH} {c:Cod} {vp vs vi:AV} (h:CodR H c vp vs vi) (fd fa fb far ff fbr fl fp fw ft fj:Bool) (fo:Int) {n:Int} (hn:i32R n):Ev Tryz.prog C0 W0 107 [.agg (rowC c vp vs vi),.agg [.bool fd,.bool fa,.bool fb,.bool far,.bool ff,.bool fbr,.bool fl,.bool fp,.bool fw,.bool ft,.bool fj,I fo],.int .i32 n] H=some (.bool (immG c fw far fp fbr fl n),H):=by
 obtain ⟨tm,ht,g0,g1,g2,g3⟩:=tm3 (.agg (rowC c vp vs vi)) (.agg [.bool fd,.bool fa,.bool fb,.bool far,.bool ff,.bool fbr,.bool fl,.bool fp,.bool fw,.bool ft,.bool fj,I fo]) (.int .i32 n) 61 (by decide)
 rw [fe107,ht]
 rw [<-List.append_nil (ro H)]
 unfold immG
 have hn':=hn
 obtain ⟨n0,n1⟩:=hn
 have hlp:=h.ro.lp
 have hls:=h.ro.ls
 have hpb:=h.np
 have hwn:IntKind.i64.wrap n=n:=wr_i (by omega)
 cases fw with
 | true=>simp (maxSteps:=4000000) -implicitDefEqProofs only [c107,Tryz.f107,aP,g0,g1,g2,g3,hlp,hls,hwn,r5,↓evLd,fa152_0,fa152_1,fa152_2,fa152_3,fa152_4,fa152_5,fa152_6,fa152_7,fa152_8,fa152_9,fa152_10,fa152_11,↓evDn,evUp,eu,sevalprocAttr]
 | false =>
   cases far with
   | true =>
     have h133:=fun L=>ev133 (h.ro.agree (Agree.app _ L)) hn'
     simp only [rowC] at h133
     simp (maxSteps:=4000000) -implicitDefEqProofs only [c107,Tryz.f107,aP,g0,g1,g2,g3,hlp,hls,hwn,r5,↓evLd,fa152_0,fa152_1,fa152_2,fa152_3,fa152_4,fa152_5,fa152_6,fa152_7,fa152_8,fa152_9,fa152_10,fa152_11,↓fc133,h133,↓evDn,evUp,eu,sevalprocAttr]
   | false =>
     cases fp with
     | true =>
       unfold parP
       cases h0:leB 0 n with
       | false=>simp (maxSteps:=4000000) -implicitDefEqProofs only [c107,Tryz.f107,aP,g0,g1,g2,g3,hlp,hls,hwn,r5,↓evLd,fa152_0,fa152_1,fa152_2,fa152_3,fa152_4,fa152_5,fa152_6,fa152_7,fa152_8,fa152_9,fa152_10,fa152_11,h0,↓evDn,evUp,eu,sevalprocAttr]
       | true =>
         cases hl:ltB n c.params.length with
         | false=>simp (maxSteps:=4000000) -implicitDefEqProofs only [c107,Tryz.f107,aP,g0,g1,g2,g3,hlp,hls,hwn,r5,↓evLd,fa152_0,fa152_1,fa152_2,fa152_3,fa152_4,fa152_5,fa152_6,fa152_7,fa152_8,fa152_9,fa152_10,fa152_11,h0,hl,↓evDn,evUp,eu,sevalprocAttr]
         | true =>
           rw [leB_iff] at h0
           obtain ⟨j,rfl⟩:∃ j:Nat,n=j:=⟨n.toNat,by omega⟩
           have hj:j < c.params.length:=by have:=(ltB_iff _ _).1 hl; omega
           obtain ⟨i,k,hi,hr0,hr1,hr2,hb⟩:=prm_at h.ro (Agree.refl _) hj
           have h0':leB 0 (j:Int)=true:=leB_t (by omega)
           simp (maxSteps:=4000000) -implicitDefEqProofs only [c107,Tryz.f107,aP,g0,g1,g2,g3,hlp,hls,hwn,r5,↓evLd,fa152_0,fa152_1,fa152_2,fa152_3,fa152_4,fa152_5,fa152_6,fa152_7,fa152_8,fa152_9,fa152_10,fa152_11,h0',hl,hi,hr1,hb,↓evDn,evUp,eu,sevalprocAttr]
     | false =>
       cases fbr with
       | true=>cases h0:leB 0 n <;> simp (maxSteps:=4000000) -implicitDefEqProofs only [c107,Tryz.f107,aP,g0,g1,g2,g3,hlp,hls,hwn,r5,↓evLd,fa152_0,fa152_1,fa152_2,fa152_3,fa152_4,fa152_5,fa152_6,fa152_7,fa152_8,fa152_9,fa152_10,fa152_11,h0,↓evDn,evUp,eu,sevalprocAttr]
       | false =>
         cases fl with
         | true=>cases h0:leB 0 n <;> simp (maxSteps:=4000000) -implicitDefEqProofs only [c107,Tryz.f107,aP,g0,g1,g2,g3,hlp,hls,hwn,r5,↓evLd,fa152_0,fa152_1,fa152_2,fa152_3,fa152_4,fa152_5,fa152_6,fa152_7,fa152_8,fa152_9,fa152_10,fa152_11,h0,↓evDn,evUp,eu,sevalprocAttr]
         | false=>simp (maxSteps:=4000000) -implicitDefEqProofs only [c107,Tryz.f107,aP,g0,g1,g2,g3,hlp,hls,hwn,r5,↓evLd,fa152_0,fa152_1,fa152_2,fa152_3,fa152_4,fa152_5,fa152_6,fa152_7,fa152_8,fa152_9,fa152_10,fa152_11,↓evDn,evUp,eu,sevalprocAttr]
end Go.Dv
