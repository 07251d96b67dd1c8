/- Texts of the evaluator and of the laws' walks, put together in the order of their build: N10, T56, T57, T58 (own work). -/
import Derived.Test.YtepcdjpenahnpaaM9

/- Names for the bodies and loops of functions of the translation, by their place in it (written by gen.py, own work). -/
namespace Go.Dv
open Go.Proofs
set_option maxRecDepth 100000
noncomputable def b5_0 : Code := atPath [true, true, true, true, true, true, false, true, false, false] (Try.f5.body.getD .skip)
noncomputable def l5_0 : Code := Code.loop b5_0
theorem el5_0 (s : St) : EvC Try.prog C4 l5_0 s = (EvC Try.prog C4 b5_0 s).bind fun r => match r with | (.normal, s') => EvC Try.prog C4 l5_0 s' | r => some r := EvC_loop _ _
noncomputable def c5 : Code := Try.f5.body.getD .skip
noncomputable def d5_6 : Code := atPath [true, true, true, true, true, false] (Try.f5.body.getD .skip)
theorem ed5_6 (tm : List AV) (H : AH) : EvC Try.prog C4 d5_6 (tm, H) = (runPlan Try.prog C4 (Ev Try.prog C4) H.length (opsAt d5_6) (.take 0 (.take 1 (.take 2 (.take 3 (.take 4 (.take 5 (.take 6 (.take 7 (.take 8 (.take 10 (.take 11 (.take 12 (graft (.all [(9, (.all [(13, (.take 14 .done))])), (13, (.all [(9, (.take 14 .done))]))]) (.all [(15, (.take 16 (.all [(17, .done)])))])))))))))))))) (tm, H)).bind fun s' => some (.normal, s') := ev_draw (by kernel_rfl) (by kernel_rfl) tm H
theorem fe5 (args : List AV) (H : AH) : Ev Try.prog C4 5 args H = (EvC Try.prog C4 c5 (args ++ List.replicate (106 - args.length) undefA, H)).bind fun r => match r with | (.normal, s) => some ((s.1.getD 4 undefA), s.2) | (.ret, s) => some ((s.1.getD 4 undefA), s.2) | _ => none := Ev_eq Try.func5 rfl args H (orc4 (by decide) args H)
theorem fc5 (C : Cfg Try.prog) (slot : Option Nat) (tm : List AV) (H : AH) (o : Oper) (xs : Array Operand) (ats : Array TypeId) : callA Try.prog C slot (evalA tm) o ⟨.value (.func 5), xs, ats⟩ H = (evL (evalA tm) xs.toList).map fun vs => (.enter 5 vs, H) := callF (by rw [Try.func5]; rfl) slot _ H o xs ats rfl
noncomputable def b21_0 : Code := atPath [true, false, true, false, false, true, false, false, true, false, true, false, false] (Try.f21.body.getD .skip)
noncomputable def l21_0 : Code := Code.loop b21_0
theorem el21_0 (s : St) : EvC Try.prog C4 l21_0 s = (EvC Try.prog C4 b21_0 s).bind fun r => match r with | (.normal, s') => EvC Try.prog C4 l21_0 s' | r => some r := EvC_loop _ _
noncomputable def b21_1 : Code := atPath [true, false, true, false, false] (Try.f21.body.getD .skip)
noncomputable def l21_1 : Code := Code.loop b21_1
theorem el21_1 (s : St) : EvC Try.prog C4 l21_1 s = (EvC Try.prog C4 b21_1 s).bind fun r => match r with | (.normal, s') => EvC Try.prog C4 l21_1 s' | r => some r := EvC_loop _ _
noncomputable def c21 : Code := Try.f21.body.getD .skip
noncomputable def d21_8 : Code := atPath [true, false, true, false, false, true, false, false, true, false, true, false, false, true, false, false] (Try.f21.body.getD .skip)
theorem ed21_8 (tm : List AV) (H : AH) : EvC Try.prog C4 d21_8 (tm, H) = (runPlan Try.prog C4 (Ev Try.prog C4) H.length (opsAt d21_8) (.take 0 (.take 1 (.take 2 (.take 3 (.take 4 (.take 5 (.take 7 (.take 8 (.take 9 (.take 10 (graft (.all [(6, (.all [(11, .done)])), (11, (.all [(6, .done)]))]) (.all [(12, (.take 13 (.take 14 .done)))])))))))))))) (tm, H)).bind fun s' => some (.normal, s') := ev_draw (by kernel_rfl) (by kernel_rfl) tm H
theorem fe21 (args : List AV) (H : AH) : Ev Try.prog C4 21 args H = (EvC Try.prog C4 c21 (args ++ List.replicate (41 - args.length) undefA, H)).bind fun r => match r with | (.normal, s) => some ((s.1.getD 4 undefA), s.2) | (.ret, s) => some ((s.1.getD 4 undefA), s.2) | _ => none := Ev_eq Try.func21 rfl args H (orc4 (by decide) args H)
theorem fc21 (C : Cfg Try.prog) (slot : Option Nat) (tm : List AV) (H : AH) (o : Oper) (xs : Array Operand) (ats : Array TypeId) : callA Try.prog C slot (evalA tm) o ⟨.value (.func 21), xs, ats⟩ H = (evL (evalA tm) xs.toList).map fun vs => (.enter 21 vs, H) := callF (by rw [Try.func21]; rfl) slot _ H o xs ats rfl
end Go.Dv

/- The law's cells: every cell with a race of one list is one of the other (printed by t56.py, own work). -/
namespace Go.Dv
open Go.Proofs
set_option maxRecDepth 100000
set_option linter.unusedSimpArgs false
set_option linter.unusedVariables false
attribute [local congr] bind_congr_first

set_option maxHeartbeats 4000000 in
theorem reg21_8 {G : AH} {tm : List AV} {va vb : AV} {i j ia ka ib kb : Nat} {a b : E6} {met : Bool} (hlen : tm.length = 41) (h0 : tm.getD 0 undefA = va) (h1 : tm.getD 1 undefA = vb) (h5 : tm.getD 5 undefA = I i) (h6 : tm.getD 6 undefA = .bool met) (h7 : tm.getD 7 undefA = I j)
    (hia : indexAddrA Try.prog 24 va (I i) = some (.ptr ia ka)) (ra : rdCells G ia (ka + 5) 5 = some [I a.sp, I a.bl, I a.ce, I a.th, I a.ki]) (hib : indexAddrA Try.prog 24 vb (I j) = some (.ptr ib kb)) (rb : rdCells G ib (kb + 5) 5 = some [I b.sp, I b.bl, I b.ce, I b.th, I b.ki]) :
    ∃ tm', EvC Try.prog C4 d21_8 (tm, G) = some (.normal, (tm', G)) ∧ tm'.length = 41 ∧ tm'.getD 6 undefA = .bool (met || a.same b) ∧ (∀ t ∈ [0, 1, 5, 7], tm'.getD t undefA = tm.getD t undefA) := by
  have ks : Ev Try.prog C4 25 [acc a.sp a.bl a.ce a.th a.ki, acc b.sp b.bl b.ce b.th b.ki] G = some (.bool (a.same b), G) := k4_same G a.sp a.bl a.ce a.th a.ki b.sp b.bl b.ce b.th b.ki
  have dd := ed21_8
  simp only [d21_8, opsAt, atPath, Try.f21, Option.getD_some] at dd ⊢
  rw [dd]
  cases met
  · simp -implicitDefEqProofs only [hlen, h0, h1, h5, h6, h7, hia, ra, hib, rb, ks, ↓fc25, ↓ld36, ↓ld34, ↓ld38, ↓ld89, ↓ld3, ↓st36, ↓st34, ↓st89, ↓st3, z36, z34, z89, fa36_0, fa36_1, fa38_0, fa38_1, boolOf_undef, nb, ↓q_not, ↓aop_lookup, ↓aop_makeFunc, ↓aop_makeMap, ↓aop_mapUpdate, ↓aop_mapEntry, ↓aop_entryStore, ↓aop_buildSlice, ↓aop_extract, ↓EvC_seq, ↓EvC_skip, ↓EvC_exit, ↓EvC_ret, ↓EvC_block, ↓EvC_cond, ↓ev_region, ↓runL_cons, ↓runL_nil, ↓stepO_none, ↓stepO_guard, ↓aop_move, ↓aop_assign, ↓aop_load, ↓aop_store, ↓aop_alloc, ↓aop_box, ↓aop_nilCheck, ↓aop_fieldAddr, ↓aop_field, ↓aop_indexAddr, ↓aop_binOp, ↓aop_pick, ↓aop_extract, ↓aop_buildSlice, ↓aop_slice, ↓aop_not, ↓aop_call, ↓callA_len, ↓callA_append, ev_tmp, ev_const, ofV_int, ofV_bool, ofV_str, ofV_nilSlice, ofV_nilPtr, putA_some, putA_none, gs_self, gs_ne, List.length_set, Option.bind_some, Option.map_some, intBinA, evL, evO, evP, ne_eq, not_false_eq_true, if_true, if_false, reduceCtorEq, ite_true, ite_false, reduceIte, put_app, AV.cells, and_true, true_and, and_self, decide_true, decide_false, ↓yielded_eq, yv_some, boolOf_bool, List.getElem?_toArray, List.getElem?_cons_zero, List.getElem?_cons_succ, Nat.reduceLT, Nat.reduceEqDiff, beq_self_eq_true, Option.some_beq_some, wr_app, wr_app0, rd_app, rd_app0, rdL_here, rdL_next, wrL_here, wrL_next, spl, List.all_cons, List.all_nil, AV.one, Bool.and_self, Bool.true_and, List.drop_zero, List.take_succ_cons, List.take_zero, List.drop_succ_cons, List.head?_cons, Nat.reduceAdd, Nat.reduceLeDiff, List.length_cons, List.length_nil, List.nil_append, List.cons_append, List.set_cons_zero, List.set_cons_succ, Int.toNat_natCast, Nat.add_zero, b_ft, b_tf, Bool.false_eq_true, ↓rp_done, ↓rp_take, ↓rp_all, ↓ra_nil, ↓ra_first, ↓ra_next, ↓quietO_none, ↓quietO_guard, ↓q_move, ↓q_assign, ↓q_pick, ↓q_binOp, ↓q_field, ↓q_fieldAddr, ↓q_indexAddr, ↓q_nilCheck, set_order, keepV_eq, stBeq_self, ↓rp_graft, put_slot, put_slot_app, List.length_append, List.append_assoc, Nat.add_assoc, ↓aop_build, evP, Bool.true_and, Bool.and_true, Bool.false_and, Bool.and_false, Bool.true_or, Bool.or_true, Bool.false_or, Bool.or_false, Bool.not_true, Bool.not_false]
    refine ⟨_, rfl, by simp only [List.length_set, hlen], by simp only [hlen, gs_self, gs_ne, List.length_set, ne_eq, Nat.reduceEqDiff, Nat.reduceLT, not_false_eq_true], fun t ht => ?_⟩
    simp only [List.mem_cons, List.not_mem_nil, or_false] at ht
    rcases ht with rfl | rfl | rfl | rfl <;> simp only [hlen, gs_self, gs_ne, List.length_set, ne_eq, Nat.reduceEqDiff, Nat.reduceLT, not_false_eq_true]

  · simp -implicitDefEqProofs only [hlen, h0, h1, h5, h6, h7, hia, ra, hib, rb, ks, ↓fc25, ↓ld36, ↓ld34, ↓ld38, ↓ld89, ↓ld3, ↓st36, ↓st34, ↓st89, ↓st3, z36, z34, z89, fa36_0, fa36_1, fa38_0, fa38_1, boolOf_undef, nb, ↓q_not, ↓aop_lookup, ↓aop_makeFunc, ↓aop_makeMap, ↓aop_mapUpdate, ↓aop_mapEntry, ↓aop_entryStore, ↓aop_buildSlice, ↓aop_extract, ↓EvC_seq, ↓EvC_skip, ↓EvC_exit, ↓EvC_ret, ↓EvC_block, ↓EvC_cond, ↓ev_region, ↓runL_cons, ↓runL_nil, ↓stepO_none, ↓stepO_guard, ↓aop_move, ↓aop_assign, ↓aop_load, ↓aop_store, ↓aop_alloc, ↓aop_box, ↓aop_nilCheck, ↓aop_fieldAddr, ↓aop_field, ↓aop_indexAddr, ↓aop_binOp, ↓aop_pick, ↓aop_extract, ↓aop_buildSlice, ↓aop_slice, ↓aop_not, ↓aop_call, ↓callA_len, ↓callA_append, ev_tmp, ev_const, ofV_int, ofV_bool, ofV_str, ofV_nilSlice, ofV_nilPtr, putA_some, putA_none, gs_self, gs_ne, List.length_set, Option.bind_some, Option.map_some, intBinA, evL, evO, evP, ne_eq, not_false_eq_true, if_true, if_false, reduceCtorEq, ite_true, ite_false, reduceIte, put_app, AV.cells, and_true, true_and, and_self, decide_true, decide_false, ↓yielded_eq, yv_some, boolOf_bool, List.getElem?_toArray, List.getElem?_cons_zero, List.getElem?_cons_succ, Nat.reduceLT, Nat.reduceEqDiff, beq_self_eq_true, Option.some_beq_some, wr_app, wr_app0, rd_app, rd_app0, rdL_here, rdL_next, wrL_here, wrL_next, spl, List.all_cons, List.all_nil, AV.one, Bool.and_self, Bool.true_and, List.drop_zero, List.take_succ_cons, List.take_zero, List.drop_succ_cons, List.head?_cons, Nat.reduceAdd, Nat.reduceLeDiff, List.length_cons, List.length_nil, List.nil_append, List.cons_append, List.set_cons_zero, List.set_cons_succ, Int.toNat_natCast, Nat.add_zero, b_ft, b_tf, Bool.false_eq_true, ↓rp_done, ↓rp_take, ↓rp_all, ↓ra_nil, ↓ra_first, ↓ra_next, ↓quietO_none, ↓quietO_guard, ↓q_move, ↓q_assign, ↓q_pick, ↓q_binOp, ↓q_field, ↓q_fieldAddr, ↓q_indexAddr, ↓q_nilCheck, set_order, keepV_eq, stBeq_self, ↓rp_graft, put_slot, put_slot_app, List.length_append, List.append_assoc, Nat.add_assoc, ↓aop_build, evP, Bool.true_and, Bool.and_true, Bool.false_and, Bool.and_false, Bool.true_or, Bool.or_true, Bool.false_or, Bool.or_false, Bool.not_true, Bool.not_false]
    refine ⟨_, rfl, by simp only [List.length_set, hlen], by simp only [hlen, gs_self, gs_ne, List.length_set, ne_eq, Nat.reduceEqDiff, Nat.reduceLT, not_false_eq_true], fun t ht => ?_⟩
    simp only [List.mem_cons, List.not_mem_nil, or_false] at ht
    rcases ht with rfl | rfl | rfl | rfl <;> simp only [hlen, gs_self, gs_ne, List.length_set, ne_eq, Nat.reduceEqDiff, Nat.reduceLT, not_false_eq_true]

theorem reg21_8' {G : AH} {tm : List AV} {va vb : AV} {i j ia ka ib kb : Nat} {a b : E6} {met : Bool} {X : Option (AExit × St)} (hX : EvC Try.prog C4 d21_8 (tm, G) = X) (hlen : tm.length = 41) (h0 : tm.getD 0 undefA = va) (h1 : tm.getD 1 undefA = vb) (h5 : tm.getD 5 undefA = I i) (h6 : tm.getD 6 undefA = .bool met) (h7 : tm.getD 7 undefA = I j)
    (hia : indexAddrA Try.prog 24 va (I i) = some (.ptr ia ka)) (ra : rdCells G ia (ka + 5) 5 = some [I a.sp, I a.bl, I a.ce, I a.th, I a.ki]) (hib : indexAddrA Try.prog 24 vb (I j) = some (.ptr ib kb)) (rb : rdCells G ib (kb + 5) 5 = some [I b.sp, I b.bl, I b.ce, I b.th, I b.ki]) :
    ∃ tm', X = some (.normal, (tm', G)) ∧ tm'.length = 41 ∧ tm'.getD 6 undefA = .bool (met || a.same b) ∧ (∀ t ∈ [0, 1, 5, 7], tm'.getD t undefA = tm.getD t undefA) := by
  subst hX; exact reg21_8 hlen h0 h1 h5 h6 h7 hia ra hib rb

theorem c1_end {H : AH} {tm : List AV} {vb : AV} {B : List (E6 × E6)} (hb : RRow H vb B) (hlen : tm.length = 41) (h1 : tm.getD 1 undefA = vb) (h7 : tm.getD 7 undefA = I B.length) : ∃ tm', EvC Try.prog C4 l21_0 (tm, H) = some (.exit 2, (tm', H)) ∧ tm'.length = 41 ∧ (∀ t ∈ [0, 1, 5, 6], tm'.getD t undefA = tm.getD t undefA) := by
  have hlt : decide ((B.length : Int) < (B.length : Int)) = false := by simp
  have hla := hb.len
  rw [el21_0]
  simp -implicitDefEqProofs only [b21_0, atPath, Try.f21, Option.getD_some, hlen, h1, h7, hla, hlt, ↓EvC_seq, ↓EvC_skip, ↓EvC_exit, ↓EvC_ret, ↓EvC_block, ↓EvC_cond, ↓ev_region, ↓runL_cons, ↓runL_nil, ↓stepO_none, ↓stepO_guard, ↓aop_move, ↓aop_assign, ↓aop_load, ↓aop_store, ↓aop_alloc, ↓aop_box, ↓aop_nilCheck, ↓aop_fieldAddr, ↓aop_field, ↓aop_indexAddr, ↓aop_binOp, ↓aop_pick, ↓aop_extract, ↓aop_buildSlice, ↓aop_slice, ↓aop_not, ↓aop_call, ↓callA_len, ↓callA_append, ev_tmp, ev_const, ofV_int, ofV_bool, ofV_str, ofV_nilSlice, ofV_nilPtr, putA_some, putA_none, gs_self, gs_ne, List.length_set, Option.bind_some, Option.map_some, intBinA, evL, evO, evP, ne_eq, not_false_eq_true, if_true, if_false, reduceCtorEq, ite_true, ite_false, reduceIte, put_app, AV.cells, and_true, true_and, and_self, decide_true, decide_false, ↓yielded_eq, yv_some, boolOf_bool, List.getElem?_toArray, List.getElem?_cons_zero, List.getElem?_cons_succ, Nat.reduceLT, Nat.reduceEqDiff, beq_self_eq_true, Option.some_beq_some, wr_app, wr_app0, rd_app, rd_app0, rdL_here, rdL_next, wrL_here, wrL_next, spl, List.all_cons, List.all_nil, AV.one, Bool.and_self, Bool.true_and, List.drop_zero, List.take_succ_cons, List.take_zero, List.drop_succ_cons, List.head?_cons, Nat.reduceAdd, Nat.reduceLeDiff, List.length_cons, List.length_nil, List.nil_append, List.cons_append, List.set_cons_zero, List.set_cons_succ, Int.toNat_natCast, Nat.add_zero, b_ft, b_tf, Bool.false_eq_true]
  refine ⟨_, rfl, by simp only [List.length_set, hlen], fun t ht => ?_⟩
  simp only [List.mem_cons, List.not_mem_nil, or_false] at ht
  rcases ht with rfl | rfl | rfl | rfl <;> simp only [hlen, gs_self, gs_ne, List.length_set, ne_eq, Nat.reduceEqDiff, Nat.reduceLT, not_false_eq_true]

theorem c1_loop {H : AH} {va vb : AV} {A B : List (E6 × E6)} {i : Nat} {p : E6 × E6} (ha : RRow H va A) (hb : RRow H vb B) (hp : A[i]? = some p) (hn : B.length < 2 ^ 62) : ∀ (d j : Nat) (tm : List AV) (met : Bool), B.length - j = d → j ≤ B.length →
    tm.length = 41 → tm.getD 0 undefA = va → tm.getD 1 undefA = vb → tm.getD 5 undefA = I i → tm.getD 6 undefA = .bool met → tm.getD 7 undefA = I j →
    ∃ tm', EvC Try.prog C4 l21_0 (tm, H) = some (.exit 2, (tm', H)) ∧ tm'.length = 41 ∧ tm'.getD 6 undefA = .bool (met || (B.drop j).any fun q => p.2.same q.2) ∧ (∀ t ∈ [0, 1, 5], tm'.getD t undefA = tm.getD t undefA) := by
  intro d
  induction d with
  | zero =>
    intro j tm met hd hj hlen h0 h1 h5 h6 h7
    obtain rfl : j = B.length := by omega
    obtain ⟨tm', he, hl, hk⟩ := c1_end hb hlen h1 h7
    refine ⟨tm', he, hl, ?_, fun t ht => hk t (by simp at ht ⊢; rcases ht with h | h | h <;> simp [h])⟩
    rw [hk 6 (by simp), h6]; simp
  | succ d ih =>
    intro j tm met hd hj hlen h0 h1 h5 h6 h7
    obtain ⟨q, hq⟩ : ∃ q, B[j]? = some q := ⟨_, List.getElem?_eq_getElem (by omega)⟩
    have hdl : B.drop j = q :: B.drop (j + 1) := by rw [List.drop_eq_getElem_cons (by omega)]; congr 1; rw [List.getElem?_eq_getElem (by omega)] at hq; exact Option.some.inj hq
    have hlt : decide ((j : Int) < (B.length : Int)) = true := by simp; omega
    have hw : IntKind.i64.wrap ((j : Int) + 1) = ((j + 1 : Nat) : Int) := by rw [IntWalk.i64_in _ (by omega)]; omega
    have hla := hb.len
    obtain ⟨ia, ka, hia, ra⟩ := ha.ix i p hp
    obtain ⟨ib, kb, hib, rb⟩ := hb.ix j q hq
    have ra5 : rdCells H ia (ka + 5) 5 = some [I p.2.sp, I p.2.bl, I p.2.ce, I p.2.th, I p.2.ki] := by have := rd_sub ra 5 5 (by omega); simpa [rcells] using this
    have rb5 : rdCells H ib (kb + 5) 5 = some [I q.2.sp, I q.2.bl, I q.2.ce, I q.2.th, I q.2.ki] := by have := rd_sub rb 5 5 (by omega); simpa [rcells] using this
    have key : ∃ tm1, EvC Try.prog C4 l21_0 (tm, H) = EvC Try.prog C4 l21_0 (tm1, H) ∧ tm1.length = 41 ∧ tm1.getD 6 undefA = .bool (met || p.2.same q.2) ∧ tm1.getD 7 undefA = I ((j + 1 : Nat) : Int) ∧ (∀ t ∈ [0, 1, 5], tm1.getD t undefA = tm.getD t undefA) := by
      rw [el21_0]
      simp -implicitDefEqProofs only [b21_0, atPath, Try.f21, Option.getD_some, hlen, h1, h7, hla, hlt, ↓EvC_seq, ↓EvC_skip, ↓EvC_exit, ↓EvC_ret, ↓EvC_block, ↓EvC_cond, ↓ev_region, ↓runL_cons, ↓runL_nil, ↓stepO_none, ↓stepO_guard, ↓aop_move, ↓aop_assign, ↓aop_load, ↓aop_store, ↓aop_alloc, ↓aop_box, ↓aop_nilCheck, ↓aop_fieldAddr, ↓aop_field, ↓aop_indexAddr, ↓aop_binOp, ↓aop_pick, ↓aop_extract, ↓aop_buildSlice, ↓aop_slice, ↓aop_not, ↓aop_call, ↓callA_len, ↓callA_append, ev_tmp, ev_const, ofV_int, ofV_bool, ofV_str, ofV_nilSlice, ofV_nilPtr, putA_some, putA_none, gs_self, gs_ne, List.length_set, Option.bind_some, Option.map_some, intBinA, evL, evO, evP, ne_eq, not_false_eq_true, if_true, if_false, reduceCtorEq, ite_true, ite_false, reduceIte, put_app, AV.cells, and_true, true_and, and_self, decide_true, decide_false, ↓yielded_eq, yv_some, boolOf_bool, List.getElem?_toArray, List.getElem?_cons_zero, List.getElem?_cons_succ, Nat.reduceLT, Nat.reduceEqDiff, beq_self_eq_true, Option.some_beq_some, wr_app, wr_app0, rd_app, rd_app0, rdL_here, rdL_next, wrL_here, wrL_next, spl, List.all_cons, List.all_nil, AV.one, Bool.and_self, Bool.true_and, List.drop_zero, List.take_succ_cons, List.take_zero, List.drop_succ_cons, List.head?_cons, Nat.reduceAdd, Nat.reduceLeDiff, List.length_cons, List.length_nil, List.nil_append, List.cons_append, List.set_cons_zero, List.set_cons_succ, Int.toNat_natCast, Nat.add_zero, b_ft, b_tf, Bool.false_eq_true]
      generalize hX : EvC Try.prog C4 (Code.region 8 _ true) _ = X
      obtain ⟨tm1, he, hl1, g6, hk⟩ := reg21_8' (a := p.2) (b := q.2) (met := met) (i := i) (j := j) (va := va) (vb := vb) hX (by simp only [List.length_set, hlen]) (by simp only [hlen, h0, gs_self, gs_ne, List.length_set, ne_eq, Nat.reduceEqDiff, Nat.reduceLT, not_false_eq_true]) (by simp only [hlen, h1, gs_self, gs_ne, List.length_set, ne_eq, Nat.reduceEqDiff, Nat.reduceLT, not_false_eq_true]) (by simp only [hlen, h5, gs_self, gs_ne, List.length_set, ne_eq, Nat.reduceEqDiff, Nat.reduceLT, not_false_eq_true]) (by simp only [hlen, h6, gs_self, gs_ne, List.length_set, ne_eq, Nat.reduceEqDiff, Nat.reduceLT, not_false_eq_true]) (by simp only [hlen, h7, gs_self, gs_ne, List.length_set, ne_eq, Nat.reduceEqDiff, Nat.reduceLT, not_false_eq_true]) hia ra5 hib rb5
      subst he
      have z0 := hk 0 (by simp)
      have z1 := hk 1 (by simp)
      have z5 := hk 5 (by simp)
      have z7 := hk 7 (by simp)
      simp only [hlen, h7, gs_self, gs_ne, List.length_set, ne_eq, Nat.reduceEqDiff, Nat.reduceLT, not_false_eq_true] at z0 z1 z5 z7
      simp -implicitDefEqProofs only [hl1, z7, hw, ↓EvC_seq, ↓EvC_skip, ↓EvC_exit, ↓EvC_ret, ↓EvC_block, ↓EvC_cond, ↓ev_region, ↓runL_cons, ↓runL_nil, ↓stepO_none, ↓stepO_guard, ↓aop_move, ↓aop_assign, ↓aop_load, ↓aop_store, ↓aop_alloc, ↓aop_box, ↓aop_nilCheck, ↓aop_fieldAddr, ↓aop_field, ↓aop_indexAddr, ↓aop_binOp, ↓aop_pick, ↓aop_extract, ↓aop_buildSlice, ↓aop_slice, ↓aop_not, ↓aop_call, ↓callA_len, ↓callA_append, ev_tmp, ev_const, ofV_int, ofV_bool, ofV_str, ofV_nilSlice, ofV_nilPtr, putA_some, putA_none, gs_self, gs_ne, List.length_set, Option.bind_some, Option.map_some, intBinA, evL, evO, evP, ne_eq, not_false_eq_true, if_true, if_false, reduceCtorEq, ite_true, ite_false, reduceIte, put_app, AV.cells, and_true, true_and, and_self, decide_true, decide_false, ↓yielded_eq, yv_some, boolOf_bool, List.getElem?_toArray, List.getElem?_cons_zero, List.getElem?_cons_succ, Nat.reduceLT, Nat.reduceEqDiff, beq_self_eq_true, Option.some_beq_some, wr_app, wr_app0, rd_app, rd_app0, rdL_here, rdL_next, wrL_here, wrL_next, spl, List.all_cons, List.all_nil, AV.one, Bool.and_self, Bool.true_and, List.drop_zero, List.take_succ_cons, List.take_zero, List.drop_succ_cons, List.head?_cons, Nat.reduceAdd, Nat.reduceLeDiff, List.length_cons, List.length_nil, List.nil_append, List.cons_append, List.set_cons_zero, List.set_cons_succ, Int.toNat_natCast, Nat.add_zero, b_ft, b_tf, Bool.false_eq_true]
      refine ⟨_, rfl, by simp only [List.length_set, hl1], by simp only [hl1, g6, gs_self, gs_ne, List.length_set, ne_eq, Nat.reduceEqDiff, Nat.reduceLT, not_false_eq_true], by simp only [hl1, gs_self, gs_ne, List.length_set, ne_eq, Nat.reduceEqDiff, Nat.reduceLT, not_false_eq_true], fun t ht => ?_⟩
      simp only [List.mem_cons, List.not_mem_nil, or_false] at ht
      rcases ht with rfl | rfl | rfl <;> simp only [hl1, z0, z1, z5, gs_self, gs_ne, List.length_set, ne_eq, Nat.reduceEqDiff, Nat.reduceLT, not_false_eq_true]

    obtain ⟨tm1, he, hl1, g6, g7, hk⟩ := key
    obtain ⟨tm', he2, hl', h6', hk'⟩ := ih (j + 1) tm1 _ (by omega) (by omega) hl1 ((hk 0 (by simp)).trans h0) ((hk 1 (by simp)).trans h1) ((hk 5 (by simp)).trans h5) g6 g7
    exact ⟨tm', he.trans he2, hl', by rw [h6', hdl, List.any_cons, Bool.or_assoc], fun t ht => (hk' t ht).trans (hk t ht)⟩

theorem c1_loop' {H : AH} {va vb : AV} {A B : List (E6 × E6)} {i : Nat} {p : E6 × E6} {tm : List AV} {X : Option (AExit × St)} (hX : EvC Try.prog C4 l21_0 (tm, H) = X) (ha : RRow H va A) (hb : RRow H vb B) (hp : A[i]? = some p) (hn : B.length < 2 ^ 62)
    (hlen : tm.length = 41) (h0 : tm.getD 0 undefA = va) (h1 : tm.getD 1 undefA = vb) (h5 : tm.getD 5 undefA = I i) (h6 : tm.getD 6 undefA = .bool false) (h7 : tm.getD 7 undefA = I ((0 : Nat) : Int)) :
    ∃ tm', X = some (.exit 2, (tm', H)) ∧ tm'.length = 41 ∧ tm'.getD 6 undefA = .bool (B.any fun q => p.2.same q.2) ∧ (∀ t ∈ [0, 1, 5], tm'.getD t undefA = tm.getD t undefA) := by
  subst hX
  have := c1_loop ha hb hp hn B.length 0 tm false (by omega) (by omega) hlen h0 h1 h5 h6 h7
  rw [List.drop_zero, Bool.false_or] at this
  exact this

def cellsB (A B : List (E6 × E6)) : Bool := A.all fun p => B.any fun q => p.2.same q.2

theorem c2_loop {H : AH} {va vb : AV} {A B : List (E6 × E6)} (ha : RRow H va A) (hb : RRow H vb B) (hm : A.length < 2 ^ 62) (hn : B.length < 2 ^ 62) : ∀ (d i : Nat) (tm : List AV), A.length - i = d → i ≤ A.length →
    tm.length = 41 → tm.getD 0 undefA = va → tm.getD 1 undefA = vb → tm.getD 5 undefA = I i →
    ∃ e tm', EvC Try.prog C4 l21_1 (tm, H) = some (e, (tm', H)) ∧ tm'.length = 41 ∧ ((cellsB (A.drop i) B = true ∧ e = .exit 0 ∧ tm'.getD 0 undefA = va ∧ tm'.getD 1 undefA = vb) ∨ (cellsB (A.drop i) B = false ∧ e = .ret ∧ tm'.getD 4 undefA = .bool false)) := by
  intro d
  induction d with
  | zero =>
    intro i tm hd hi hlen h0 h1 h5
    obtain rfl : i = A.length := by omega
    have hlt : decide ((A.length : Int) < (A.length : Int)) = false := by simp
    have hla := ha.len
    rw [el21_1]
    simp -implicitDefEqProofs only [b21_1, atPath, Try.f21, Option.getD_some, hlen, h0, h5, hla, hlt, ↓EvC_seq, ↓EvC_skip, ↓EvC_exit, ↓EvC_ret, ↓EvC_block, ↓EvC_cond, ↓ev_region, ↓runL_cons, ↓runL_nil, ↓stepO_none, ↓stepO_guard, ↓aop_move, ↓aop_assign, ↓aop_load, ↓aop_store, ↓aop_alloc, ↓aop_box, ↓aop_nilCheck, ↓aop_fieldAddr, ↓aop_field, ↓aop_indexAddr, ↓aop_binOp, ↓aop_pick, ↓aop_extract, ↓aop_buildSlice, ↓aop_slice, ↓aop_not, ↓aop_call, ↓callA_len, ↓callA_append, ev_tmp, ev_const, ofV_int, ofV_bool, ofV_str, ofV_nilSlice, ofV_nilPtr, putA_some, putA_none, gs_self, gs_ne, List.length_set, Option.bind_some, Option.map_some, intBinA, evL, evO, evP, ne_eq, not_false_eq_true, if_true, if_false, reduceCtorEq, ite_true, ite_false, reduceIte, put_app, AV.cells, and_true, true_and, and_self, decide_true, decide_false, ↓yielded_eq, yv_some, boolOf_bool, List.getElem?_toArray, List.getElem?_cons_zero, List.getElem?_cons_succ, Nat.reduceLT, Nat.reduceEqDiff, beq_self_eq_true, Option.some_beq_some, wr_app, wr_app0, rd_app, rd_app0, rdL_here, rdL_next, wrL_here, wrL_next, spl, List.all_cons, List.all_nil, AV.one, Bool.and_self, Bool.true_and, List.drop_zero, List.take_succ_cons, List.take_zero, List.drop_succ_cons, List.head?_cons, Nat.reduceAdd, Nat.reduceLeDiff, List.length_cons, List.length_nil, List.nil_append, List.cons_append, List.set_cons_zero, List.set_cons_succ, Int.toNat_natCast, Nat.add_zero, b_ft, b_tf, Bool.false_eq_true]
    exact ⟨_, _, rfl, by simp only [List.length_set, hlen], .inl ⟨by simp [cellsB], rfl, by simp only [hlen, h0, gs_self, gs_ne, List.length_set, ne_eq, Nat.reduceEqDiff, Nat.reduceLT, not_false_eq_true], by simp only [hlen, h1, gs_self, gs_ne, List.length_set, ne_eq, Nat.reduceEqDiff, Nat.reduceLT, not_false_eq_true]⟩⟩
  | succ d ih =>
    intro i tm hd hi hlen h0 h1 h5
    obtain ⟨p, hp⟩ : ∃ p, A[i]? = some p := ⟨_, List.getElem?_eq_getElem (by omega)⟩
    have hdl : A.drop i = p :: A.drop (i + 1) := by rw [List.drop_eq_getElem_cons (by omega)]; congr 1; rw [List.getElem?_eq_getElem (by omega)] at hp; exact Option.some.inj hp
    have hlt : decide ((i : Int) < (A.length : Int)) = true := by simp; omega
    have hw : IntKind.i64.wrap ((i : Int) + 1) = ((i + 1 : Nat) : Int) := by rw [IntWalk.i64_in _ (by omega)]; omega
    have hla := ha.len
    have hcc : cellsB (A.drop i) B = ((B.any fun q => p.2.same q.2) && cellsB (A.drop (i + 1)) B) := by rw [hdl]; simp [cellsB]
    rw [hcc]
    rw [el21_1]
    simp -implicitDefEqProofs only [b21_1, atPath, Try.f21, Option.getD_some, hlen, h0, h5, hla, hlt, ↓EvC_seq, ↓EvC_skip, ↓EvC_exit, ↓EvC_ret, ↓EvC_block, ↓EvC_cond, ↓ev_region, ↓runL_cons, ↓runL_nil, ↓stepO_none, ↓stepO_guard, ↓aop_move, ↓aop_assign, ↓aop_load, ↓aop_store, ↓aop_alloc, ↓aop_box, ↓aop_nilCheck, ↓aop_fieldAddr, ↓aop_field, ↓aop_indexAddr, ↓aop_binOp, ↓aop_pick, ↓aop_extract, ↓aop_buildSlice, ↓aop_slice, ↓aop_not, ↓aop_call, ↓callA_len, ↓callA_append, ev_tmp, ev_const, ofV_int, ofV_bool, ofV_str, ofV_nilSlice, ofV_nilPtr, putA_some, putA_none, gs_self, gs_ne, List.length_set, Option.bind_some, Option.map_some, intBinA, evL, evO, evP, ne_eq, not_false_eq_true, if_true, if_false, reduceCtorEq, ite_true, ite_false, reduceIte, put_app, AV.cells, and_true, true_and, and_self, decide_true, decide_false, ↓yielded_eq, yv_some, boolOf_bool, List.getElem?_toArray, List.getElem?_cons_zero, List.getElem?_cons_succ, Nat.reduceLT, Nat.reduceEqDiff, beq_self_eq_true, Option.some_beq_some, wr_app, wr_app0, rd_app, rd_app0, rdL_here, rdL_next, wrL_here, wrL_next, spl, List.all_cons, List.all_nil, AV.one, Bool.and_self, Bool.true_and, List.drop_zero, List.take_succ_cons, List.take_zero, List.drop_succ_cons, List.head?_cons, Nat.reduceAdd, Nat.reduceLeDiff, List.length_cons, List.length_nil, List.nil_append, List.cons_append, List.set_cons_zero, List.set_cons_succ, Int.toNat_natCast, Nat.add_zero, b_ft, b_tf, Bool.false_eq_true]
    generalize hX : EvC Try.prog C4 (Code.loop _) _ = X
    obtain ⟨tm1, he, hl1, g6, hk⟩ := c1_loop' (va := va) (vb := vb) (i := i) hX ha hb hp hn (by simp only [List.length_set, hlen]) (by simp only [hlen, h0, gs_self, gs_ne, List.length_set, ne_eq, Nat.reduceEqDiff, Nat.reduceLT, not_false_eq_true]) (by simp only [hlen, h1, gs_self, gs_ne, List.length_set, ne_eq, Nat.reduceEqDiff, Nat.reduceLT, not_false_eq_true]) (by simp only [hlen, h5, gs_self, gs_ne, List.length_set, ne_eq, Nat.reduceEqDiff, Nat.reduceLT, not_false_eq_true]) (by simp only [hlen, gs_self, gs_ne, List.length_set, ne_eq, Nat.reduceEqDiff, Nat.reduceLT, not_false_eq_true]) (by simp only [hlen, gs_self, gs_ne, List.length_set, ne_eq, Nat.reduceEqDiff, Nat.reduceLT, not_false_eq_true] <;> rfl)
    subst he
    have z0 := hk 0 (by simp)
    have z1 := hk 1 (by simp)
    have z5 := hk 5 (by simp)
    simp only [hlen, h0, h1, h5, gs_self, gs_ne, List.length_set, ne_eq, Nat.reduceEqDiff, Nat.reduceLT, not_false_eq_true] at z0 z1 z5
    cases hc : B.any fun q => p.2.same q.2
    · rw [hc] at g6
      simp -implicitDefEqProofs only [hl1, g6, Bool.not_false, ↓EvC_seq, ↓EvC_skip, ↓EvC_exit, ↓EvC_ret, ↓EvC_block, ↓EvC_cond, ↓ev_region, ↓runL_cons, ↓runL_nil, ↓stepO_none, ↓stepO_guard, ↓aop_move, ↓aop_assign, ↓aop_load, ↓aop_store, ↓aop_alloc, ↓aop_box, ↓aop_nilCheck, ↓aop_fieldAddr, ↓aop_field, ↓aop_indexAddr, ↓aop_binOp, ↓aop_pick, ↓aop_extract, ↓aop_buildSlice, ↓aop_slice, ↓aop_not, ↓aop_call, ↓callA_len, ↓callA_append, ev_tmp, ev_const, ofV_int, ofV_bool, ofV_str, ofV_nilSlice, ofV_nilPtr, putA_some, putA_none, gs_self, gs_ne, List.length_set, Option.bind_some, Option.map_some, intBinA, evL, evO, evP, ne_eq, not_false_eq_true, if_true, if_false, reduceCtorEq, ite_true, ite_false, reduceIte, put_app, AV.cells, and_true, true_and, and_self, decide_true, decide_false, ↓yielded_eq, yv_some, boolOf_bool, List.getElem?_toArray, List.getElem?_cons_zero, List.getElem?_cons_succ, Nat.reduceLT, Nat.reduceEqDiff, beq_self_eq_true, Option.some_beq_some, wr_app, wr_app0, rd_app, rd_app0, rdL_here, rdL_next, wrL_here, wrL_next, spl, List.all_cons, List.all_nil, AV.one, Bool.and_self, Bool.true_and, List.drop_zero, List.take_succ_cons, List.take_zero, List.drop_succ_cons, List.head?_cons, Nat.reduceAdd, Nat.reduceLeDiff, List.length_cons, List.length_nil, List.nil_append, List.cons_append, List.set_cons_zero, List.set_cons_succ, Int.toNat_natCast, Nat.add_zero, b_ft, b_tf, Bool.false_eq_true]
      exact ⟨_, _, rfl, by simp only [List.length_set, hl1], .inr ⟨by simp, rfl, by simp only [hl1, gs_self, gs_ne, List.length_set, ne_eq, Nat.reduceEqDiff, Nat.reduceLT, not_false_eq_true]⟩⟩
    · rw [hc] at g6
      simp -implicitDefEqProofs only [hl1, g6, z5, hw, Bool.not_true, ↓EvC_seq, ↓EvC_skip, ↓EvC_exit, ↓EvC_ret, ↓EvC_block, ↓EvC_cond, ↓ev_region, ↓runL_cons, ↓runL_nil, ↓stepO_none, ↓stepO_guard, ↓aop_move, ↓aop_assign, ↓aop_load, ↓aop_store, ↓aop_alloc, ↓aop_box, ↓aop_nilCheck, ↓aop_fieldAddr, ↓aop_field, ↓aop_indexAddr, ↓aop_binOp, ↓aop_pick, ↓aop_extract, ↓aop_buildSlice, ↓aop_slice, ↓aop_not, ↓aop_call, ↓callA_len, ↓callA_append, ev_tmp, ev_const, ofV_int, ofV_bool, ofV_str, ofV_nilSlice, ofV_nilPtr, putA_some, putA_none, gs_self, gs_ne, List.length_set, Option.bind_some, Option.map_some, intBinA, evL, evO, evP, ne_eq, not_false_eq_true, if_true, if_false, reduceCtorEq, ite_true, ite_false, reduceIte, put_app, AV.cells, and_true, true_and, and_self, decide_true, decide_false, ↓yielded_eq, yv_some, boolOf_bool, List.getElem?_toArray, List.getElem?_cons_zero, List.getElem?_cons_succ, Nat.reduceLT, Nat.reduceEqDiff, beq_self_eq_true, Option.some_beq_some, wr_app, wr_app0, rd_app, rd_app0, rdL_here, rdL_next, wrL_here, wrL_next, spl, List.all_cons, List.all_nil, AV.one, Bool.and_self, Bool.true_and, List.drop_zero, List.take_succ_cons, List.take_zero, List.drop_succ_cons, List.head?_cons, Nat.reduceAdd, Nat.reduceLeDiff, List.length_cons, List.length_nil, List.nil_append, List.cons_append, List.set_cons_zero, List.set_cons_succ, Int.toNat_natCast, Nat.add_zero, b_ft, b_tf, Bool.false_eq_true]
      generalize hY : EvC Try.prog C4 _ _ = Y
      have key : ∀ tm2 : List AV, EvC Try.prog C4 l21_1 (tm2, H) = Y → tm2.length = 41 → tm2.getD 0 undefA = va → tm2.getD 1 undefA = vb → tm2.getD 5 undefA = I ((i + 1 : Nat) : Int) →
          ∃ e tm', Y = some (e, (tm', H)) ∧ tm'.length = 41 ∧ ((cellsB (A.drop (i + 1)) B = true ∧ e = .exit 0 ∧ tm'.getD 0 undefA = va ∧ tm'.getD 1 undefA = vb) ∨ (cellsB (A.drop (i + 1)) B = false ∧ e = .ret ∧ tm'.getD 4 undefA = .bool false)) := by
        intro tm2 h q0 q1 q2 q3
        subst h
        exact ih (i + 1) tm2 (by omega) (by omega) q0 q1 q2 q3
      exact key _ hY (by simp only [List.length_set, hl1]) (by simp only [hl1, z0, gs_self, gs_ne, List.length_set, ne_eq, Nat.reduceEqDiff, Nat.reduceLT, not_false_eq_true]) (by simp only [hl1, z1, gs_self, gs_ne, List.length_set, ne_eq, Nat.reduceEqDiff, Nat.reduceLT, not_false_eq_true]) (by simp only [hl1, gs_self, gs_ne, List.length_set, ne_eq, Nat.reduceEqDiff, Nat.reduceLT, not_false_eq_true])

theorem c2_loop' {H : AH} {va vb : AV} {A B : List (E6 × E6)} {tm : List AV} {X : Option (AExit × St)} (hX : EvC Try.prog C4 l21_1 (tm, H) = X) (ha : RRow H va A) (hb : RRow H vb B) (hm : A.length < 2 ^ 62) (hn : B.length < 2 ^ 62)
    (hlen : tm.length = 41) (h0 : tm.getD 0 undefA = va) (h1 : tm.getD 1 undefA = vb) (h5 : tm.getD 5 undefA = I ((0 : Nat) : Int)) :
    ∃ e tm', X = some (e, (tm', H)) ∧ tm'.length = 41 ∧ ((cellsB A B = true ∧ e = .exit 0 ∧ tm'.getD 0 undefA = va ∧ tm'.getD 1 undefA = vb) ∨ (cellsB A B = false ∧ e = .ret ∧ tm'.getD 4 undefA = .bool false)) := by
  subst hX
  have := c2_loop ha hb hm hn A.length 0 tm (by omega) (by omega) hlen h0 h1 h5
  simpa only [List.drop_zero] using this

theorem cells_ev {H : AH} {va vb : AV} {A B : List (E6 × E6)} (ha : RRow H va A) (hb : RRow H vb B) (hm : A.length < 2 ^ 62) (hn : B.length < 2 ^ 62) : Ev Try.prog C4 21 [va, vb] H = some (.bool (cellsB A B && decide (A.length = B.length)), H) := by
  have g0 : ([va, vb] ++ List.replicate (41 - [va, vb].length) undefA).length = 41 := by simp
  have g1 : ([va, vb] ++ List.replicate (41 - [va, vb].length) undefA).getD 0 undefA = va := rfl
  have g2 : ([va, vb] ++ List.replicate (41 - [va, vb].length) undefA).getD 1 undefA = vb := rfl
  have hla := ha.len
  have hlb := hb.len
  have hE : ((A.length : Int) == (B.length : Int)) = decide (A.length = B.length) := by rw [Bool.eq_iff_iff]; simp; omega
  rw [fe21]
  generalize [va, vb] ++ List.replicate (41 - [va, vb].length) undefA = tm at *
  simp -implicitDefEqProofs only [c21, Try.f21, Option.getD_some, g0, g1, g2, ↓EvC_seq, ↓EvC_skip, ↓EvC_exit, ↓EvC_ret, ↓EvC_block, ↓EvC_cond, ↓ev_region, ↓runL_cons, ↓runL_nil, ↓stepO_none, ↓stepO_guard, ↓aop_move, ↓aop_assign, ↓aop_load, ↓aop_store, ↓aop_alloc, ↓aop_box, ↓aop_nilCheck, ↓aop_fieldAddr, ↓aop_field, ↓aop_indexAddr, ↓aop_binOp, ↓aop_pick, ↓aop_extract, ↓aop_buildSlice, ↓aop_slice, ↓aop_not, ↓aop_call, ↓callA_len, ↓callA_append, ev_tmp, ev_const, ofV_int, ofV_bool, ofV_str, ofV_nilSlice, ofV_nilPtr, putA_some, putA_none, gs_self, gs_ne, List.length_set, Option.bind_some, Option.map_some, intBinA, evL, evO, evP, ne_eq, not_false_eq_true, if_true, if_false, reduceCtorEq, ite_true, ite_false, reduceIte, put_app, AV.cells, and_true, true_and, and_self, decide_true, decide_false, ↓yielded_eq, yv_some, boolOf_bool, List.getElem?_toArray, List.getElem?_cons_zero, List.getElem?_cons_succ, Nat.reduceLT, Nat.reduceEqDiff, beq_self_eq_true, Option.some_beq_some, wr_app, wr_app0, rd_app, rd_app0, rdL_here, rdL_next, wrL_here, wrL_next, spl, List.all_cons, List.all_nil, AV.one, Bool.and_self, Bool.true_and, List.drop_zero, List.take_succ_cons, List.take_zero, List.drop_succ_cons, List.head?_cons, Nat.reduceAdd, Nat.reduceLeDiff, List.length_cons, List.length_nil, List.nil_append, List.cons_append, List.set_cons_zero, List.set_cons_succ, Int.toNat_natCast, Nat.add_zero, b_ft, b_tf, Bool.false_eq_true]
  generalize hX : EvC Try.prog C4 (Code.loop _) _ = X
  obtain ⟨e, tm', he, hl, hc⟩ := c2_loop' hX ha hb hm hn (by simp only [List.length_set, g0]) (by simp only [g0, g1, gs_self, gs_ne, List.length_set, ne_eq, Nat.reduceEqDiff, Nat.reduceLT, not_false_eq_true]) (by simp only [g0, g2, gs_self, gs_ne, List.length_set, ne_eq, Nat.reduceEqDiff, Nat.reduceLT, not_false_eq_true]) (by simp only [g0, gs_self, gs_ne, List.length_set, ne_eq, Nat.reduceEqDiff, Nat.reduceLT, not_false_eq_true] <;> rfl)
  subst he
  rcases hc with ⟨h, rfl, q0, q1⟩ | ⟨h, rfl, g4⟩
  · rw [h]
    simp -implicitDefEqProofs only [hl, q0, q1, hla, hlb, hE, ↓EvC_seq, ↓EvC_skip, ↓EvC_exit, ↓EvC_ret, ↓EvC_block, ↓EvC_cond, ↓ev_region, ↓runL_cons, ↓runL_nil, ↓stepO_none, ↓stepO_guard, ↓aop_move, ↓aop_assign, ↓aop_load, ↓aop_store, ↓aop_alloc, ↓aop_box, ↓aop_nilCheck, ↓aop_fieldAddr, ↓aop_field, ↓aop_indexAddr, ↓aop_binOp, ↓aop_pick, ↓aop_extract, ↓aop_buildSlice, ↓aop_slice, ↓aop_not, ↓aop_call, ↓callA_len, ↓callA_append, ev_tmp, ev_const, ofV_int, ofV_bool, ofV_str, ofV_nilSlice, ofV_nilPtr, putA_some, putA_none, gs_self, gs_ne, List.length_set, Option.bind_some, Option.map_some, intBinA, evL, evO, evP, ne_eq, not_false_eq_true, if_true, if_false, reduceCtorEq, ite_true, ite_false, reduceIte, put_app, AV.cells, and_true, true_and, and_self, decide_true, decide_false, ↓yielded_eq, yv_some, boolOf_bool, List.getElem?_toArray, List.getElem?_cons_zero, List.getElem?_cons_succ, Nat.reduceLT, Nat.reduceEqDiff, beq_self_eq_true, Option.some_beq_some, wr_app, wr_app0, rd_app, rd_app0, rdL_here, rdL_next, wrL_here, wrL_next, spl, List.all_cons, List.all_nil, AV.one, Bool.and_self, Bool.true_and, List.drop_zero, List.take_succ_cons, List.take_zero, List.drop_succ_cons, List.head?_cons, Nat.reduceAdd, Nat.reduceLeDiff, List.length_cons, List.length_nil, List.nil_append, List.cons_append, List.set_cons_zero, List.set_cons_succ, Int.toNat_natCast, Nat.add_zero, b_ft, b_tf, Bool.false_eq_true]
  · rw [h]
    simp -implicitDefEqProofs only [hl, g4, Bool.false_and, ↓EvC_seq, ↓EvC_skip, ↓EvC_exit, ↓EvC_ret, ↓EvC_block, ↓EvC_cond, ↓ev_region, ↓runL_cons, ↓runL_nil, ↓stepO_none, ↓stepO_guard, ↓aop_move, ↓aop_assign, ↓aop_load, ↓aop_store, ↓aop_alloc, ↓aop_box, ↓aop_nilCheck, ↓aop_fieldAddr, ↓aop_field, ↓aop_indexAddr, ↓aop_binOp, ↓aop_pick, ↓aop_extract, ↓aop_buildSlice, ↓aop_slice, ↓aop_not, ↓aop_call, ↓callA_len, ↓callA_append, ev_tmp, ev_const, ofV_int, ofV_bool, ofV_str, ofV_nilSlice, ofV_nilPtr, putA_some, putA_none, gs_self, gs_ne, List.length_set, Option.bind_some, Option.map_some, intBinA, evL, evO, evP, ne_eq, not_false_eq_true, if_true, if_false, reduceCtorEq, ite_true, ite_false, reduceIte, put_app, AV.cells, and_true, true_and, and_self, decide_true, decide_false, ↓yielded_eq, yv_some, boolOf_bool, List.getElem?_toArray, List.getElem?_cons_zero, List.getElem?_cons_succ, Nat.reduceLT, Nat.reduceEqDiff, beq_self_eq_true, Option.some_beq_some, wr_app, wr_app0, rd_app, rd_app0, rdL_here, rdL_next, wrL_here, wrL_next, spl, List.all_cons, List.all_nil, AV.one, Bool.and_self, Bool.true_and, List.drop_zero, List.take_succ_cons, List.take_zero, List.drop_succ_cons, List.head?_cons, Nat.reduceAdd, Nat.reduceLeDiff, List.length_cons, List.length_nil, List.nil_append, List.cons_append, List.set_cons_zero, List.set_cons_succ, Int.toNat_natCast, Nat.add_zero, b_ft, b_tf, Bool.false_eq_true]

end Go.Dv

/- The plain law of RaceOrder: the cells with races do not hang on the order of the list (own work). -/
namespace Go.Dv
open Go.Proofs
set_option linter.unusedSimpArgs false
set_option linter.unusedVariables false

theorem clash_symm (x y : E6) : x.clash y = y.clash x := by
  simp only [E6.clash, clashB, bne]
  have e1 : (x.bl == y.bl) = (y.bl == x.bl) := by rw [Bool.eq_iff_iff, beq_iff_eq, beq_iff_eq]; exact ⟨Eq.symm, Eq.symm⟩
  have e2 : (x.th == y.th) = (y.th == x.th) := by rw [Bool.eq_iff_iff, beq_iff_eq, beq_iff_eq]; exact ⟨Eq.symm, Eq.symm⟩
  have e3 : (x.ph == y.ph) = (y.ph == x.ph) := by rw [Bool.eq_iff_iff, beq_iff_eq, beq_iff_eq]; exact ⟨Eq.symm, Eq.symm⟩
  have e4 : (x.ki == y.ki) = (y.ki == x.ki) := by rw [Bool.eq_iff_iff, beq_iff_eq, beq_iff_eq]; exact ⟨Eq.symm, Eq.symm⟩
  rw [e1, e2, e3]
  cases hk : (x.ki == y.ki)
  · rw [e4] at hk; rw [hk]; rfl
  · have := eq_of_beq hk
    rw [e4] at hk; rw [hk, this]
theorem race_symm (x y : E6) : x.race y = y.race x := by
  rw [race_spot, race_spot, clash_symm]
  congr 1
  rw [Bool.eq_iff_iff, decide_eq_true_eq, decide_eq_true_eq]; exact ⟨Eq.symm, Eq.symm⟩

def spotsF (O : List (E6 × E6)) : List S3 := O.map fun p => p.2.spot

theorem rel_find (p : List E6) : Rel p (p.foldl FS.step (absF [] [] [])) (findS p) := by
  have h0 : Rel [] (absF [] [] []) [] := ⟨rfl, fun s => by simp [absF], fun s _ => by simp [absF, keptL, at?, dd]⟩
  rw [find_ref]
  exact Rel.from (l := p) p [] _ _ (by simp) h0
theorem find_snoc (p : List E6) (x : E6) : findS (p ++ [x]) = refStep p (findS p) x := by
  have := (rel_find p).step x
  rw [← this.out]
  simp [findS]

/-- No two events of the list race at the cell. -/
def NP (l : List E6) (s : S3) : Prop := l.Pairwise fun x y => ¬ (x.race y = true ∧ y.spot = s)

theorem race_same_spot {x y : E6} (h : x.race y = true) : x.spot = y.spot := by
  rw [race_spot] at h
  simp at h
  exact h.1

theorem NP.perm {l l' : List E6} (h : l.Perm l') (s : S3) : NP l s ↔ NP l' s := by
  refine List.Perm.pairwise_iff (fun {x y} hxy hyx => hxy ⟨by rw [race_symm]; exact hyx.1, ?_⟩) h
  rw [← hyx.2, race_same_spot hyx.1]

theorem NP_snoc (p : List E6) (x : E6) (s : S3) : NP (p ++ [x]) s ↔ NP p s ∧ ∀ y ∈ p, ¬ (y.race x = true ∧ x.spot = s) := by
  unfold NP
  rw [List.pairwise_append]
  simp

theorem spots_ok (l : List E6) : (spotsF (findS l)).Nodup ∧ ∀ s, s ∈ spotsF (findS l) ↔ ¬ NP l s := by
  refine snoc_ind (P := fun l => (spotsF (findS l)).Nodup ∧ ∀ s, s ∈ spotsF (findS l) ↔ ¬ NP l s) ?_ (fun p x ih => ?_) l
  · refine ⟨by simp [spotsF, findS, absF], fun s => ?_⟩
    simp [spotsF, findS, absF, NP]
  · obtain ⟨hn, hm⟩ := ih
    have hany : (findS p).any (fun q => q.2.same x) = true ↔ x.spot ∈ spotsF (findS p) := by
      simp only [spotsF, List.any_eq_true, List.mem_map]
      constructor
      · rintro ⟨q, hq, h⟩
        exact ⟨q, hq, by rw [same_spot] at h; simpa using h⟩
      · rintro ⟨q, hq, h⟩
        exact ⟨q, hq, by rw [same_spot]; simpa using h⟩
    rw [find_snoc, refStep_eq]
    by_cases ha : x.spot ∈ spotsF (findS p)
    · rw [if_pos (hany.2 ha)]
      refine ⟨hn, fun s => ?_⟩
      rw [hm, NP_snoc]
      constructor
      · exact fun h h' => h h'.1
      · intro h h'
        by_cases hs : x.spot = s
        · exact (hm s).1 (hs ▸ ha) h'
        · exact h ⟨h', fun y _ hh => hs hh.2⟩
    · rw [if_neg (fun h => ha (hany.1 h))]
      have hNP : NP p x.spot := Classical.byContradiction fun h => ha ((hm _).2 h)
      cases hf : p.find? fun e => e.race x with
      | none =>
        simp only [Option.map_none, Option.toList_none, List.append_nil]
        refine ⟨hn, fun s => ?_⟩
        rw [hm, NP_snoc]
        have hno := List.find?_eq_none.1 hf
        constructor
        · exact fun h h' => h h'.1
        · exact fun h h' => h ⟨h', fun y hy hh => hno y hy hh.1⟩
      | some y =>
        have hy := List.mem_of_find?_eq_some hf
        have hr : y.race x = true := by simpa using List.find?_some hf
        have he : spotsF (findS p ++ (Option.map (fun y => (y, x)) (some y)).toList) = spotsF (findS p) ++ [x.spot] := by simp [spotsF]
        rw [he]
        refine ⟨?_, fun s => ?_⟩
        · rw [List.nodup_append]
          refine ⟨hn, by simp, fun a h1 b h2 e => ?_⟩
          simp at h2
          subst e h2
          exact ha h1
        · rw [List.mem_append, hm, NP_snoc]
          simp only [List.mem_singleton]
          constructor
          · rintro (h | rfl)
            · exact fun h' => h h'.1
            · exact fun h' => h'.2 y hy ⟨hr, rfl⟩
          · intro h
            by_cases hs : s = x.spot
            · exact .inr hs
            · exact .inl fun h' => h ⟨h', fun y _ hh => hs hh.2.symm⟩

theorem cells_perm {l l' : List E6} (h : l.Perm l') : (cellsB (findS l) (findS l') && decide ((findS l).length = (findS l').length)) = true := by
  obtain ⟨n1, m1⟩ := spots_ok l
  obtain ⟨n2, m2⟩ := spots_ok l'
  have hset : ∀ s, s ∈ spotsF (findS l) ↔ s ∈ spotsF (findS l') := fun s => by rw [m1, m2, NP.perm h]
  have hp := (List.perm_ext_iff_of_nodup n1 n2).2 hset
  have hlen := hp.length_eq
  simp only [spotsF, List.length_map] at hlen
  rw [hlen]
  simp only [decide_true, Bool.and_true, cellsB, List.all_eq_true]
  intro p hpm
  have := (hset p.2.spot).1 (List.mem_map.2 ⟨p, hpm, rfl⟩)
  obtain ⟨q, hq, e⟩ := List.mem_map.1 this
  exact List.any_eq_true.2 ⟨q, hq, by rw [same_spot]; simpa using e.symm⟩

/-- Two neighbours exchanged. -/
def swapE (l : List E6) (k : Nat) (x y : E6) : List E6 := (l.set k y).set (k + 1) x
theorem swap_perm {l : List E6} {k : Nat} {x y : E6} (hx : l[k]? = some x) (hy : l[k + 1]? = some y) : (swapE l k x y).Perm l := by
  have h1 := lt_of_get hx
  have h2 := lt_of_get hy
  have e1 : l[k] = x := by rw [List.getElem?_eq_getElem h1] at hx; exact Option.some.inj hx
  have e2 : l[k + 1] = y := by rw [List.getElem?_eq_getElem h2] at hy; exact Option.some.inj hy
  have hl : l = l.take k ++ x :: y :: l.drop (k + 2) := by
    have a1 : l.drop k = x :: l.drop (k + 1) := by rw [List.drop_eq_getElem_cons h1, e1]
    have a2 : l.drop (k + 1) = y :: l.drop (k + 2) := by rw [List.drop_eq_getElem_cons h2, e2]
    rw [← a2, ← a1, List.take_append_drop]
  have hs : swapE l k x y = l.take k ++ y :: x :: l.drop (k + 2) := by
    have htl : (l.take k).length = k := by simp; omega
    unfold swapE
    conv => lhs; rw [hl]
    rw [List.set_append_right _ _ (by omega), List.set_append_right _ _ (by omega), htl]
    simp
  rw [hs]
  conv => rhs; rw [hl]
  exact (List.Perm.swap x y (l.drop (k + 2))).append_left _

theorem any_perm {l l' : List E6} (h : l.Perm l') (p : E6 → Bool) : l.any p = l'.any p := by
  rw [Bool.eq_iff_iff, List.any_eq_true, List.any_eq_true]
  constructor
  · rintro ⟨x, hx, hp⟩; exact ⟨x, h.mem_iff.1 hx, hp⟩
  · rintro ⟨x, hx, hp⟩; exact ⟨x, h.mem_iff.2 hx, hp⟩

/-! rows in one piece -/
theorem rd_join {H : AH} {i k a b : Nat} {xs ys : List AV} (hx : rdCells H i k a = some xs) (hy : rdCells H i (k + a) b = some ys) : rdCells H i k (a + b) = some (xs ++ ys) := by
  unfold rdCells at hx hy ⊢
  have go : ∀ cs : List AV, (if k + a ≤ cs.length then some ((cs.drop k).take a) else none) = some xs → (if k + a + b ≤ cs.length then some ((cs.drop (k + a)).take b) else none) = some ys → (if k + (a + b) ≤ cs.length then some ((cs.drop k).take (a + b)) else none) = some (xs ++ ys) := by
    intro cs h1 h2
    split at h1
    · split at h2
      · rw [if_pos (by omega)]
        cases h1; cases h2
        rw [List.take_add, List.drop_drop]
      · cases h2
    · cases h1
  cases hi : H[i]? with
  | none => rw [hi] at hx; simp at hx
  | some o =>
    rw [hi] at hx hy
    cases o <;> simp only at hx hy ⊢ <;> first
      | exact go _ hx hy
      | (cases hx; done)

theorem EvS.whole {H : AH} {v : AV} {l : List E6} (h : EvS H v l) (hne : l ≠ []) : ∃ i k cap ex, v = .slice i k 6 l.length cap ex ∧ l.length ≤ cap ∧ rdCells H i k (l.length * 6) = some (flat6 l) := by
  rcases h with ⟨_, h⟩ | ⟨i, k, cap, ex, hv, hc, hr⟩
  · exact absurd h hne
  · refine ⟨i, k, cap, ex, hv, hc, ?_⟩
    have key : ∀ m, 0 < m → m ≤ l.length → rdCells H i k (m * 6) = some (flat6 (l.take m)) := by
      intro m hm
      induction m with
      | zero => omega
      | succ m ih =>
        intro hml
        obtain ⟨e, he⟩ : ∃ e, l[m]? = some e := ⟨_, List.getElem?_eq_getElem (by omega)⟩
        have htk : l.take (m + 1) = l.take m ++ [e] := by
          rw [List.take_add_one, he]; rfl
        rw [htk, flat6_snoc, Nat.add_mul, Nat.one_mul]
        rcases Nat.eq_zero_or_pos m with rfl | hp
        · have := hr 0 e he
          simpa [flat6] using this
        · exact rd_join (ih hp (by omega)) (hr m e he)
    have hlen : 0 < l.length := List.length_pos_iff.2 hne
    have := key l.length hlen (Nat.le_refl _)
    rwa [List.take_length] at this
end Go.Dv

/- The law RaceOrder on abstract heaps (printed by t58.py, own work). -/
namespace Go.Dv
open Go.Proofs
set_option maxRecDepth 100000
set_option linter.unusedSimpArgs false
set_option linter.unusedVariables false
attribute [local congr] bind_congr_first

set_option maxHeartbeats 8000000 in
theorem reg5_6 {G G1 G2 : AH} {tm : List AV} {av : AV} {k ba : Nat} {x y : E6} (hlen : tm.length = 106) (h5 : tm.getD 5 undefA = I k) (h6 : tm.getD 6 undefA = av) (hk : k < 2 ^ 60)
    (hi : indexAddrA Try.prog 22 av (I k) = some (.ptr ba (k * 6))) (hj : indexAddrA Try.prog 22 av (I ((k + 1 : Nat) : Int)) = some (.ptr ba ((k + 1) * 6)))
    (rx : rdCells G ba (k * 6) 6 = some [I x.sp, I x.bl, I x.ce, I x.th, I x.ki, I x.ph]) (ry : rdCells G ba ((k + 1) * 6) 6 = some [I y.sp, I y.bl, I y.ce, I y.th, I y.ki, I y.ph])
    (w1 : wrCells G ba (k * 6) [I y.sp, I y.bl, I y.ce, I y.th, I y.ki, I y.ph] = some G1) (w2 : wrCells G1 ba ((k + 1) * 6) [I x.sp, I x.bl, I x.ce, I x.th, I x.ki, I x.ph] = some G2) :
    ∃ tm', EvC Try.prog C4 d5_6 (tm, G) = some (.normal, (tm', G2)) ∧ tm'.length = 106 ∧ (∀ t ∈ [0, 5, 6, 7], tm'.getD t undefA = tm.getD t undefA) := by
  have hw : IntKind.i64.wrap ((k : Int) + 1) = ((k + 1 : Nat) : Int) := by rw [IntWalk.i64_in _ (by omega)]; omega
  have dd := ed5_6
  simp only [d5_6, opsAt, atPath, Try.f5, Option.getD_some] at dd ⊢
  rw [dd]
  simp -implicitDefEqProofs only [hlen, h5, h6, hi, hj, rx, ry, w1, w2, hw, ↓ld36, ↓ld34, ↓ld38, ↓ld89, ↓ld3, ↓st36, ↓st34, ↓st89, ↓st3, z36, z34, z89, fa36_0, fa36_1, fa38_0, fa38_1, boolOf_undef, nb, ↓q_not, ↓aop_lookup, ↓aop_makeFunc, ↓aop_makeMap, ↓aop_mapUpdate, ↓aop_mapEntry, ↓aop_entryStore, ↓aop_buildSlice, ↓aop_extract, ↓EvC_seq, ↓EvC_skip, ↓EvC_exit, ↓EvC_ret, ↓EvC_block, ↓EvC_cond, ↓ev_region, ↓runL_cons, ↓runL_nil, ↓stepO_none, ↓stepO_guard, ↓aop_move, ↓aop_assign, ↓aop_load, ↓aop_store, ↓aop_alloc, ↓aop_box, ↓aop_nilCheck, ↓aop_fieldAddr, ↓aop_field, ↓aop_indexAddr, ↓aop_binOp, ↓aop_pick, ↓aop_extract, ↓aop_buildSlice, ↓aop_slice, ↓aop_not, ↓aop_call, ↓callA_len, ↓callA_append, ev_tmp, ev_const, ofV_int, ofV_bool, ofV_str, ofV_nilSlice, ofV_nilPtr, putA_some, putA_none, gs_self, gs_ne, List.length_set, Option.bind_some, Option.map_some, intBinA, evL, evO, evP, ne_eq, not_false_eq_true, if_true, if_false, reduceCtorEq, ite_true, ite_false, reduceIte, put_app, AV.cells, and_true, true_and, and_self, decide_true, decide_false, ↓yielded_eq, yv_some, boolOf_bool, List.getElem?_toArray, List.getElem?_cons_zero, List.getElem?_cons_succ, Nat.reduceLT, Nat.reduceEqDiff, beq_self_eq_true, Option.some_beq_some, wr_app, wr_app0, rd_app, rd_app0, rdL_here, rdL_next, wrL_here, wrL_next, spl, List.all_cons, List.all_nil, AV.one, Bool.and_self, Bool.true_and, List.drop_zero, List.take_succ_cons, List.take_zero, List.drop_succ_cons, List.head?_cons, Nat.reduceAdd, Nat.reduceLeDiff, List.length_cons, List.length_nil, List.nil_append, List.cons_append, List.set_cons_zero, List.set_cons_succ, Int.toNat_natCast, Nat.add_zero, b_ft, b_tf, Bool.false_eq_true, ↓rp_done, ↓rp_take, ↓rp_all, ↓ra_nil, ↓ra_first, ↓ra_next, ↓quietO_none, ↓quietO_guard, ↓q_move, ↓q_assign, ↓q_pick, ↓q_binOp, ↓q_field, ↓q_fieldAddr, ↓q_indexAddr, ↓q_nilCheck, set_order, keepV_eq, stBeq_self, ↓rp_graft, put_slot, put_slot_app, List.length_append, List.append_assoc, Nat.add_assoc, ↓aop_build, evP, Bool.true_and, Bool.and_true, Bool.false_and, Bool.and_false, Bool.true_or, Bool.or_true, Bool.false_or, Bool.or_false, Bool.not_true, Bool.not_false]
  refine ⟨_, rfl, by simp only [List.length_set, hlen], fun t ht => ?_⟩
  simp only [List.mem_cons, List.not_mem_nil, or_false] at ht
  rcases ht with rfl | rfl | rfl | rfl <;> simp only [hlen, gs_self, gs_ne, List.length_set, ne_eq, Nat.reduceEqDiff, Nat.reduceLT, not_false_eq_true]

theorem reg5_6' {G G1 G2 : AH} {tm : List AV} {av : AV} {k ba : Nat} {x y : E6} {X : Option (AExit × St)} (hX : EvC Try.prog C4 d5_6 (tm, G) = X) (hlen : tm.length = 106) (h5 : tm.getD 5 undefA = I k) (h6 : tm.getD 6 undefA = av) (hk : k < 2 ^ 60)
    (hi : indexAddrA Try.prog 22 av (I k) = some (.ptr ba (k * 6))) (hj : indexAddrA Try.prog 22 av (I ((k + 1 : Nat) : Int)) = some (.ptr ba ((k + 1) * 6)))
    (rx : rdCells G ba (k * 6) 6 = some [I x.sp, I x.bl, I x.ce, I x.th, I x.ki, I x.ph]) (ry : rdCells G ba ((k + 1) * 6) 6 = some [I y.sp, I y.bl, I y.ce, I y.th, I y.ki, I y.ph])
    (w1 : wrCells G ba (k * 6) [I y.sp, I y.bl, I y.ce, I y.th, I y.ki, I y.ph] = some G1) (w2 : wrCells G1 ba ((k + 1) * 6) [I x.sp, I x.bl, I x.ce, I x.th, I x.ki, I x.ph] = some G2) :
    ∃ tm', X = some (.normal, (tm', G2)) ∧ tm'.length = 106 ∧ (∀ t ∈ [0, 5, 6, 7], tm'.getD t undefA = tm.getD t undefA) := by
  subst hX; exact reg5_6 hlen h5 h6 hk hi hj rx ry w1 w2

/-- A list of events of the call's own. -/
def evV (R : List E6) (bb : Nat) : AV := match R with | [] => .nilSlice | _ => .slice bb 0 6 R.length R.length false
def delE (R : List E6) (G : AH) (bb : Nat) : AH := match R with | [] => G | _ => G.set bb .dead
theorem delE_get (R : List E6) (G : AH) (bb j : Nat) (h : R ≠ [] → bb ≠ j) : (delE R G bb)[j]? = G[j]? := by
  cases R with
  | nil => rfl
  | cons p R => exact List.getElem?_set_ne (h (by simp))
theorem delE_len (R : List E6) (G : AH) (bb : Nat) : (delE R G bb).length = G.length := by
  cases R with
  | nil => rfl
  | cons p R => exact List.length_set
theorem evV_S {H : AH} {R : List E6} {bb : Nat} (h : R ≠ [] → H[bb]? = some (.cells (flat6 R) 36)) : EvS H (evV R bb) R := by
  cases R with
  | nil => exact .inl ⟨rfl, rfl⟩
  | cons e R => exact .inr ⟨bb, 0, _, false, rfl, Nat.le_refl _, fun j e' he => by rw [Nat.zero_add]; exact rd_flat (h (by simp)) he⟩

theorem app_ev {G : AH} {R : List E6} {bb : Nat} {x : E6} (ho : R ≠ [] → G[bb]? = some (.cells (flat6 R) 36)) (hn : R.length < 2 ^ 30) :
    appendA Try.prog none 22 (some 22) (evV R bb) (.slice G.length 0 6 1 1 true) (G ++ [.cells [I x.sp, I x.bl, I x.ce, I x.th, I x.ki, I x.ph] 36]) = some (evV (R ++ [x]) (G.length + 1), delE R G bb ++ [.cells [I x.sp, I x.bl, I x.ce, I x.th, I x.ki, I x.ph] 36, .cells (flat6 (R ++ [x])) 36]) := by
  have hg : growOk (Try.prog.bytesOf 36) (R.length + 1) = true := by rw [by36]; simp [growOk]; omega
  have hrx : rdCells (G ++ [.cells [I x.sp, I x.bl, I x.ce, I x.th, I x.ki, I x.ph] 36]) G.length 0 6 = some [I x.sp, I x.bl, I x.ce, I x.th, I x.ki, I x.ph] := by rw [rd_app0]; rfl
  cases R with
  | nil =>
    refine app_first appT22 hrx hg (i := G.length + 1) ?_
    simp [put, delE, flat6, E6.cells]
  | cons p R' =>
    have hb := ho (by simp)
    have hbl := lt_of_get hb
    refine (app_more appT22 (old := flat6 (p :: R')) (blk := bb) (n := (p :: R').length) (by rw [List.getElem?_append_left hbl]; exact hb) (flat6_length _) hrx rfl hg (i := G.length + 1) (G' := delE (p :: R') G bb ++ [.cells [I x.sp, I x.bl, I x.ce, I x.th, I x.ki, I x.ph] 36, .cells (flat6 ((p :: R') ++ [x])) 36]) ?_).trans ?_
    · rw [List.set_append_left _ _ hbl, flat6_snoc]
      simp [put, delE, E6.cells]
    · simp [evV]

/-- What holds in the loop that turns the list around. -/
structure BInv (H0 : AH) (v : AV) (l : List E6) (tm : List AV) (H : AH) (m : Nat) (bb : Nat) : Prop where
  len : tm.length = 106
  t0 : tm.getD 0 undefA = v
  t7 : tm.getD 7 undefA = evV (l.reverse.take m) bb
  t8 : tm.getD 8 undefA = I ((l.length : Int) - 1 - m)
  hb : H0.length ≤ H.length
  keep : ∀ j, j < H0.length → H[j]? = H0[j]?
  out : l.reverse.take m ≠ [] → H0.length ≤ bb ∧ H[bb]? = some (.cells (flat6 (l.reverse.take m)) 36)

theorem b_round {H0 H : AH} {v : AV} {l : List E6} {tm : List AV} {m bb : Nat} (h : BInv H0 v l tm H m bb) (hv : EvS H0 v l) (hl : l.length < 2 ^ 30) (hm : m < l.length) :
    ∃ tm' H' bb', EvC Try.prog C4 l5_0 (tm, H) = EvC Try.prog C4 l5_0 (tm', H') ∧ BInv H0 v l tm' H' (m + 1) bb' ∧ (∀ t ∈ [5, 6], tm'.getD t undefA = tm.getD t undefA) := by
  have hlen := h.len
  have h0 := h.t0
  have h7 := h.t7
  have h8 := h.t8
  have hvH := hv.same h.keep
  obtain ⟨x, hx⟩ : ∃ x, l[l.length - 1 - m]? = some x := ⟨_, List.getElem?_eq_getElem (by omega)⟩
  have hc : ((l.length : Int) - 1 - m) = ((l.length - 1 - m : Nat) : Int) := by omega
  obtain ⟨ie, ke, hi, hr⟩ := hvH.evs.ix _ x hx
  rw [hc] at h8
  have hge : decide (((l.length - 1 - m : Nat) : Int) ≥ 0) = true := by simp
  have hw : IntKind.i64.wrap (((l.length - 1 - m : Nat) : Int) - 1) = ((l.length : Int) - 1 - ((m + 1 : Nat) : Int)) := by rw [IntWalk.i64_in _ (by omega)]; omega
  have htk : l.reverse.take (m + 1) = l.reverse.take m ++ [x] := by
    rw [List.take_add_one, List.getElem?_reverse (by omega), hx]; rfl
  have hrd : ∀ L, rdCells (H ++ L) ie ke 6 = some [I x.sp, I x.bl, I x.ce, I x.th, I x.ki, I x.ph] := fun L => rd_old hr L
  have hap := app_ev (G := H) (R := l.reverse.take m) (bb := bb) (x := x) (fun hne => (h.out hne).2) (by simp; omega)
  have hH : (tm, H) = (tm, H ++ []) := by simp
  rw [el5_0, hH]
  simp -implicitDefEqProofs only [b5_0, atPath, Try.f5, Option.getD_some, hlen, h0, h7, h8, hge, hw, hi, hrd, hap, bs22, ↓ld36, ↓ld34, ↓ld38, ↓ld89, ↓ld3, ↓st36, ↓st34, ↓st89, ↓st3, z36, z34, z89, fa36_0, fa36_1, fa38_0, fa38_1, boolOf_undef, nb, ↓q_not, ↓aop_lookup, ↓aop_makeFunc, ↓aop_makeMap, ↓aop_mapUpdate, ↓aop_mapEntry, ↓aop_entryStore, ↓aop_buildSlice, ↓aop_extract, ↓EvC_seq, ↓EvC_skip, ↓EvC_exit, ↓EvC_ret, ↓EvC_block, ↓EvC_cond, ↓ev_region, ↓runL_cons, ↓runL_nil, ↓stepO_none, ↓stepO_guard, ↓aop_move, ↓aop_assign, ↓aop_load, ↓aop_store, ↓aop_alloc, ↓aop_box, ↓aop_nilCheck, ↓aop_fieldAddr, ↓aop_field, ↓aop_indexAddr, ↓aop_binOp, ↓aop_pick, ↓aop_extract, ↓aop_buildSlice, ↓aop_slice, ↓aop_not, ↓aop_call, ↓callA_len, ↓callA_append, ev_tmp, ev_const, ofV_int, ofV_bool, ofV_str, ofV_nilSlice, ofV_nilPtr, putA_some, putA_none, gs_self, gs_ne, List.length_set, Option.bind_some, Option.map_some, intBinA, evL, evO, evP, ne_eq, not_false_eq_true, if_true, if_false, reduceCtorEq, ite_true, ite_false, reduceIte, put_app, AV.cells, and_true, true_and, and_self, decide_true, decide_false, ↓yielded_eq, yv_some, boolOf_bool, List.getElem?_toArray, List.getElem?_cons_zero, List.getElem?_cons_succ, Nat.reduceLT, Nat.reduceEqDiff, beq_self_eq_true, Option.some_beq_some, wr_app, wr_app0, rd_app, rd_app0, rdL_here, rdL_next, wrL_here, wrL_next, spl, List.all_cons, List.all_nil, AV.one, Bool.and_self, Bool.true_and, List.drop_zero, List.take_succ_cons, List.take_zero, List.drop_succ_cons, List.head?_cons, Nat.reduceAdd, Nat.reduceLeDiff, List.length_cons, List.length_nil, List.nil_append, List.cons_append, List.set_cons_zero, List.set_cons_succ, Int.toNat_natCast, Nat.add_zero, b_ft, b_tf, Bool.false_eq_true]

  refine ⟨_, _, H.length + 1, rfl, ⟨by simp only [List.length_set, hlen], by simp only [hlen, h0, gs_self, gs_ne, List.length_set, ne_eq, Nat.reduceEqDiff, Nat.reduceLT, not_false_eq_true], by rw [htk]; simp only [hlen, gs_self, gs_ne, List.length_set, ne_eq, Nat.reduceEqDiff, Nat.reduceLT, not_false_eq_true], by simp only [hlen, gs_self, gs_ne, List.length_set, ne_eq, Nat.reduceEqDiff, Nat.reduceLT, not_false_eq_true], ?_, fun j hj => ?_, fun _ => ⟨by have := h.hb; omega, ?_⟩⟩, fun t ht => ?_⟩
  · rw [List.length_append, delE_len]; have := h.hb; omega
  · rw [List.getElem?_append_left (by rw [delE_len]; have := h.hb; omega), delE_get _ _ _ _ (fun hne => by have := (h.out hne).1; omega)]
    exact h.keep j hj
  · rw [List.getElem?_append_right (by rw [delE_len]; omega), delE_len, Nat.add_sub_cancel_left, htk]; rfl
  · simp only [List.mem_cons, List.not_mem_nil, or_false] at ht
    rcases ht with rfl | rfl <;> simp only [hlen, gs_self, gs_ne, List.length_set, ne_eq, Nat.reduceEqDiff, Nat.reduceLT, not_false_eq_true]

theorem b_loop {H0 : AH} {v : AV} {l : List E6} (hv : EvS H0 v l) (hl : l.length < 2 ^ 30) : ∀ (d m : Nat) (tm : List AV) (H : AH) (bb : Nat), l.length - m = d → m ≤ l.length → BInv H0 v l tm H m bb →
    ∃ tm' H' bb', EvC Try.prog C4 l5_0 (tm, H) = some (.exit 0, (tm', H')) ∧ tm'.length = 106 ∧ tm'.getD 0 undefA = v ∧ tm'.getD 7 undefA = evV l.reverse bb' ∧ (∀ t ∈ [5, 6], tm'.getD t undefA = tm.getD t undefA) ∧ H0.length ≤ H'.length ∧ (∀ j, j < H0.length → H'[j]? = H0[j]?) ∧ (l.reverse ≠ [] → H'[bb']? = some (.cells (flat6 l.reverse) 36)) := by
  intro d
  induction d with
  | zero =>
    intro m tm H bb hd hm h
    obtain rfl : m = l.length := by omega
    have hlen := h.len
    have h0 := h.t0
    have h7 := h.t7
    have h8 := h.t8
    rw [show ((l.length : Int) - 1 - (l.length : Nat)) = -1 by omega] at h8
    have hge : decide ((-1 : Int) ≥ 0) = false := by decide
    have ht : l.reverse.take l.length = l.reverse := List.take_of_length_le (by simp)
    rw [ht] at h7
    rw [el5_0]
    simp -implicitDefEqProofs only [b5_0, atPath, Try.f5, Option.getD_some, hlen, h8, hge, ↓EvC_seq, ↓EvC_skip, ↓EvC_exit, ↓EvC_ret, ↓EvC_block, ↓EvC_cond, ↓ev_region, ↓runL_cons, ↓runL_nil, ↓stepO_none, ↓stepO_guard, ↓aop_move, ↓aop_assign, ↓aop_load, ↓aop_store, ↓aop_alloc, ↓aop_box, ↓aop_nilCheck, ↓aop_fieldAddr, ↓aop_field, ↓aop_indexAddr, ↓aop_binOp, ↓aop_pick, ↓aop_extract, ↓aop_buildSlice, ↓aop_slice, ↓aop_not, ↓aop_call, ↓callA_len, ↓callA_append, ev_tmp, ev_const, ofV_int, ofV_bool, ofV_str, ofV_nilSlice, ofV_nilPtr, putA_some, putA_none, gs_self, gs_ne, List.length_set, Option.bind_some, Option.map_some, intBinA, evL, evO, evP, ne_eq, not_false_eq_true, if_true, if_false, reduceCtorEq, ite_true, ite_false, reduceIte, put_app, AV.cells, and_true, true_and, and_self, decide_true, decide_false, ↓yielded_eq, yv_some, boolOf_bool, List.getElem?_toArray, List.getElem?_cons_zero, List.getElem?_cons_succ, Nat.reduceLT, Nat.reduceEqDiff, beq_self_eq_true, Option.some_beq_some, wr_app, wr_app0, rd_app, rd_app0, rdL_here, rdL_next, wrL_here, wrL_next, spl, List.all_cons, List.all_nil, AV.one, Bool.and_self, Bool.true_and, List.drop_zero, List.take_succ_cons, List.take_zero, List.drop_succ_cons, List.head?_cons, Nat.reduceAdd, Nat.reduceLeDiff, List.length_cons, List.length_nil, List.nil_append, List.cons_append, List.set_cons_zero, List.set_cons_succ, Int.toNat_natCast, Nat.add_zero, b_ft, b_tf, Bool.false_eq_true]
    refine ⟨_, H, bb, rfl, by simp only [List.length_set, hlen], by simp only [hlen, h0, gs_self, gs_ne, List.length_set, ne_eq, Nat.reduceEqDiff, Nat.reduceLT, not_false_eq_true], by simp only [hlen, h7, gs_self, gs_ne, List.length_set, ne_eq, Nat.reduceEqDiff, Nat.reduceLT, not_false_eq_true], fun t ht => ?_, h.hb, h.keep, fun hne => ?_⟩
    · simp only [List.mem_cons, List.not_mem_nil, or_false] at ht
      rcases ht with rfl | rfl <;> simp only [hlen, gs_self, gs_ne, List.length_set, ne_eq, Nat.reduceEqDiff, Nat.reduceLT, not_false_eq_true]
    · have := h.out
      rw [ht] at this
      exact (this hne).2
  | succ d ih =>
    intro m tm H bb hd hm h
    obtain ⟨tm1, H1, bb1, he, hi1, hk⟩ := b_round h hv hl (by omega)
    obtain ⟨tm', H', bb', he2, r1, r2, r3, r4, r5, r6, r7⟩ := ih (m + 1) tm1 H1 bb1 (by omega) (by omega) hi1
    exact ⟨tm', H', bb', he.trans he2, r1, r2, r3, fun t ht => (r4 t ht).trans (hk t ht), r5, r6, r7⟩

theorem b_loop' {H0 : AH} {v : AV} {l : List E6} {tm : List AV} {X : Option (AExit × St)} (hX : EvC Try.prog C4 l5_0 (tm, H0) = X) (hv : EvS H0 v l) (hl : l.length < 2 ^ 30) (hlen : tm.length = 106) (h0 : tm.getD 0 undefA = v) (h7 : tm.getD 7 undefA = .nilSlice) (h8 : tm.getD 8 undefA = I ((l.length : Int) - 1)) :
    ∃ tm' H' bb', X = some (.exit 0, (tm', H')) ∧ tm'.length = 106 ∧ tm'.getD 0 undefA = v ∧ tm'.getD 7 undefA = evV l.reverse bb' ∧ (∀ t ∈ [5, 6], tm'.getD t undefA = tm.getD t undefA) ∧ H0.length ≤ H'.length ∧ (∀ j, j < H0.length → H'[j]? = H0[j]?) ∧ (l.reverse ≠ [] → H'[bb']? = some (.cells (flat6 l.reverse) 36)) := by
  subst hX
  exact b_loop hv hl l.length 0 tm H0 0 (by omega) (by omega) ⟨hlen, h0, by simpa [evV] using h7, by simpa using h8, Nat.le_refl _, fun _ _ => rfl, fun h => absurd (by simp) h⟩

theorem app_copy {G : AH} {v : AV} {l : List E6} (hv : EvS G v l) (hne : l ≠ []) (hl : l.length < 2 ^ 30) : appendA Try.prog none 22 (some 22) .nilSlice v G = some (.slice G.length 0 6 l.length l.length false, G ++ [.cells (flat6 l) 36]) := by
  obtain ⟨i, k, cap, ex, rfl, hc, hr⟩ := hv.whole hne
  have hlen : 0 < l.length := List.length_pos_iff.2 hne
  have hg : growOk (Try.prog.bytesOf 36) l.length = true := by rw [by36]; simp [growOk]; omega
  obtain ⟨z, hz, hzl, hzn⟩ := appT22.z
  unfold appendA
  rw [if_neg (by rw [appT22.x]; simp), appT22.el, Option.bind_some, hz, Option.bind_some, appT22.sz]
  simp only [srcA, if_true, Option.bind_some, Nat.le_refl, hr]
  rw [if_pos ⟨by rw [hzl, appT22.sz], hzn⟩]
  rw [if_neg (by omega)]
  simp only [hg, if_true, put]
  rfl

theorem spl_flat {l : List E6} {k : Nat} {y : E6} (hk : k < l.length) : spl (flat6 l) (k * 6) y.cells = flat6 (l.set k y) := by
  have hlen : (flat6 l).length = l.length * 6 := flat6_length l
  have hc : y.cells.length = 6 := rfl
  rw [spl_append _ _ _ (by rw [hlen, hc]; omega), hc]
  have h1 : (flat6 l).take (k * 6) = flat6 (l.take k) := by
    conv => lhs; rw [← List.take_append_drop k l]
    have e : flat6 (l.take k ++ l.drop k) = flat6 (l.take k) ++ flat6 (l.drop k) := List.flatMap_append
    rw [e]
    have hl : (flat6 (l.take k)).length = k * 6 := by rw [flat6_length]; simp; omega
    rw [← hl, List.take_append_of_le_length (Nat.le_refl _), List.take_length]
  have h2 : (flat6 l).drop (k * 6 + 6) = flat6 (l.drop (k + 1)) := by
    rw [show k * 6 + 6 = (k + 1) * 6 by omega, flat6_drop]
  rw [h1, h2, List.set_eq_take_append_cons_drop, if_pos hk]
  simp [flat6]

theorem law5_ev (H : AH) (v : AV) (l : List E6) (a : Int) (ha : 0 ≤ a ∧ a ≤ 65535) (hl : l.length < 2 ^ 62) (hv : EvS H v l) : ∃ H', Ev Try.prog C4 5 [v, .int .u16 a] H = some (.bool true, H') := by
  have g0 : ([v, .int .u16 a] ++ List.replicate (106 - [v, .int .u16 a].length) undefA).length = 106 := by simp
  have g1 : ([v, .int .u16 a] ++ List.replicate (106 - [v, .int .u16 a].length) undefA).getD 0 undefA = v := rfl
  have g2 : ([v, .int .u16 a] ++ List.replicate (106 - [v, .int .u16 a].length) undefA).getD 1 undefA = .int .u16 a := rfl
  have hla := hv.evs.len
  have e0 := k4_ref_valid hv.evs hl
  rw [fe5]
  generalize [v, .int .u16 a] ++ List.replicate (106 - [v, .int .u16 a].length) undefA = tm at *
  cases hb : (decide ((l.length : Int) ≤ 4000) && !(l.any E6.bad))
  · rw [hb] at e0
    apply Exists.intro
    simp -implicitDefEqProofs only [c5, Try.f5, Option.getD_some, g0, g1, g2, hla, e0, k4_awake, ↓fc15, ↓fc17, Bool.not_true, Bool.not_false, Bool.true_and, Bool.and_true, Bool.false_and, Bool.and_false, Bool.true_or, Bool.or_true, Bool.false_or, Bool.or_false, cond_true, cond_false, boolOf_undef, nb, beq_self_eq_true, Bool.and_self, z_e1, z_e0, ↓EvC_seq, ↓EvC_skip, ↓EvC_exit, ↓EvC_ret, ↓EvC_block, ↓EvC_cond, ↓ev_region, ↓runL_cons, ↓runL_nil, ↓stepO_none, ↓stepO_guard, ↓aop_move, ↓aop_assign, ↓aop_load, ↓aop_store, ↓aop_alloc, ↓aop_box, ↓aop_nilCheck, ↓aop_fieldAddr, ↓aop_field, ↓aop_indexAddr, ↓aop_binOp, ↓aop_pick, ↓aop_extract, ↓aop_buildSlice, ↓aop_slice, ↓aop_not, ↓aop_call, ↓callA_len, ↓callA_append, ev_tmp, ev_const, ofV_int, ofV_bool, ofV_str, ofV_nilSlice, ofV_nilPtr, putA_some, putA_none, gs_self, gs_ne, List.length_set, Option.bind_some, Option.map_some, intBinA, evL, evO, evP, ne_eq, not_false_eq_true, if_true, if_false, reduceCtorEq, ite_true, ite_false, reduceIte, put_app, AV.cells, and_true, true_and, and_self, decide_true, decide_false, ↓yielded_eq, yv_some, boolOf_bool, List.getElem?_toArray, List.getElem?_cons_zero, List.getElem?_cons_succ, Nat.reduceLT, Nat.reduceEqDiff, beq_self_eq_true, Option.some_beq_some, wr_app, wr_app0, rd_app, rd_app0, rdL_here, rdL_next, wrL_here, wrL_next, spl, List.all_cons, List.all_nil, AV.one, Bool.and_self, Bool.true_and, List.drop_zero, List.take_succ_cons, List.take_zero, List.drop_succ_cons, List.head?_cons, Nat.reduceAdd, Nat.reduceLeDiff, List.length_cons, List.length_nil, List.nil_append, List.cons_append, List.set_cons_zero, List.set_cons_succ, Int.toNat_natCast, Nat.add_zero, b_ft, b_tf, Bool.false_eq_true]
    with_reducible rfl
  · rw [hb] at e0
    cases h2 : decide ((l.length : Int) < 2)
    · cases h4 : decide ((l.length : Int) > 400)
      · have hl2 : 2 ≤ l.length := by simp at h2; omega
        have hl400 : l.length ≤ 400 := by simp at h4; omega
        have hne : l ≠ [] := fun e => by subst e; simp at hl2
        have hbad : l.any E6.bad = false := by simp at hb; simpa using hb.2
        obtain ⟨k, hk, hkl⟩ : ∃ k : Nat, a.tmod ((l.length : Int) - 1) = (k : Int) ∧ k + 1 < l.length := by
          refine ⟨a.toNat % (l.length - 1), ?_, by have := Nat.mod_lt a.toNat (show l.length - 1 > 0 by omega); omega⟩
          obtain ⟨m, rfl⟩ := Int.eq_ofNat_of_zero_le ha.1
          rw [show ((l.length : Int) - 1) = ((l.length - 1 : Nat) : Int) by omega]
          rw [show (Int.toNat (m : Int)) = m from rfl]
          exact (Int.ofNat_tmod m (l.length - 1)).symm
        have w1 : IntKind.i64.wrap a = a := IntWalk.i64_in a (by omega)
        have w2 : IntKind.i64.wrap ((l.length : Int) - 1) = (l.length : Int) - 1 := IntWalk.i64_in _ (by omega)
        have nz : ¬ ((l.length : Int) - 1 = 0) := by omega
        obtain ⟨x, hx⟩ : ∃ x, l[k]? = some x := ⟨_, List.getElem?_eq_getElem (by omega)⟩
        obtain ⟨y, hy⟩ : ∃ y, l[k + 1]? = some y := ⟨_, List.getElem?_eq_getElem (by omega)⟩
        have hap := app_copy hv hne (by omega)
        have hperm := swap_perm hx hy
        have hsl : (swapE l k x y).length = l.length := hperm.length_eq
        simp -implicitDefEqProofs only [c5, Try.f5, Option.getD_some, g0, g1, g2, hla, e0, h2, h4, w1, w2, nz, hk, hap, ↓aop_conv un31 un3, ↓fc15, ↓fc17, Bool.not_true, Bool.not_false, Bool.true_and, Bool.and_true, Bool.false_and, Bool.and_false, Bool.true_or, Bool.or_true, Bool.false_or, Bool.or_false, cond_true, cond_false, boolOf_undef, nb, beq_self_eq_true, Bool.and_self, z_e1, z_e0, ↓EvC_seq, ↓EvC_skip, ↓EvC_exit, ↓EvC_ret, ↓EvC_block, ↓EvC_cond, ↓ev_region, ↓runL_cons, ↓runL_nil, ↓stepO_none, ↓stepO_guard, ↓aop_move, ↓aop_assign, ↓aop_load, ↓aop_store, ↓aop_alloc, ↓aop_box, ↓aop_nilCheck, ↓aop_fieldAddr, ↓aop_field, ↓aop_indexAddr, ↓aop_binOp, ↓aop_pick, ↓aop_extract, ↓aop_buildSlice, ↓aop_slice, ↓aop_not, ↓aop_call, ↓callA_len, ↓callA_append, ev_tmp, ev_const, ofV_int, ofV_bool, ofV_str, ofV_nilSlice, ofV_nilPtr, putA_some, putA_none, gs_self, gs_ne, List.length_set, Option.bind_some, Option.map_some, intBinA, evL, evO, evP, ne_eq, not_false_eq_true, if_true, if_false, reduceCtorEq, ite_true, ite_false, reduceIte, put_app, AV.cells, and_true, true_and, and_self, decide_true, decide_false, ↓yielded_eq, yv_some, boolOf_bool, List.getElem?_toArray, List.getElem?_cons_zero, List.getElem?_cons_succ, Nat.reduceLT, Nat.reduceEqDiff, beq_self_eq_true, Option.some_beq_some, wr_app, wr_app0, rd_app, rd_app0, rdL_here, rdL_next, wrL_here, wrL_next, spl, List.all_cons, List.all_nil, AV.one, Bool.and_self, Bool.true_and, List.drop_zero, List.take_succ_cons, List.take_zero, List.drop_succ_cons, List.head?_cons, Nat.reduceAdd, Nat.reduceLeDiff, List.length_cons, List.length_nil, List.nil_append, List.cons_append, List.set_cons_zero, List.set_cons_succ, Int.toNat_natCast, Nat.add_zero, b_ft, b_tf, Bool.false_eq_true]
        generalize hX : EvC Try.prog C4 (Code.region 6 _ true) _ = X
        have hbk : (H ++ [AObj.cells (flat6 l) 36])[H.length]? = some (.cells (flat6 l) 36) := by simp
        have hw1 : wrCells (H ++ [AObj.cells (flat6 l) 36]) H.length (k * 6) [I y.sp, I y.bl, I y.ce, I y.th, I y.ki, I y.ph] = some (H ++ [AObj.cells (flat6 (l.set k y)) 36]) := by
          rw [wr_app0, wrL_here, if_pos ⟨by rw [flat6_length]; simp; omega, rfl⟩]
          rw [show [I y.sp, I y.bl, I y.ce, I y.th, I y.ki, I y.ph] = y.cells from rfl, spl_flat (by omega)]
          rfl
        have hw2 : wrCells (H ++ [AObj.cells (flat6 (l.set k y)) 36]) H.length ((k + 1) * 6) [I x.sp, I x.bl, I x.ce, I x.th, I x.ki, I x.ph] = some (H ++ [AObj.cells (flat6 (swapE l k x y)) 36]) := by
          rw [wr_app0, wrL_here, if_pos ⟨by rw [flat6_length]; simp; omega, rfl⟩]
          rw [show [I x.sp, I x.bl, I x.ce, I x.th, I x.ki, I x.ph] = x.cells from rfl, spl_flat (by rw [List.length_set]; omega)]
          rfl
        obtain ⟨tm1, he, hl1, hk1⟩ := reg5_6' (x := x) (y := y) (k := k) (av := .slice H.length 0 6 l.length l.length false) (ba := H.length) hX (by simp only [List.length_set, g0]) (by simp only [g0, gs_self, gs_ne, List.length_set, ne_eq, Nat.reduceEqDiff, Nat.reduceLT, not_false_eq_true]) (by simp only [g0, gs_self, gs_ne, List.length_set, ne_eq, Nat.reduceEqDiff, Nat.reduceLT, not_false_eq_true]) (by omega)
          (by rw [ia22, if_pos ⟨by omega, by omega, rfl⟩]; simp) (by rw [ia22, if_pos ⟨by omega, by omega, rfl⟩]; simp) (rd_flat hbk hx) (rd_flat hbk hy) hw1 hw2
        subst he
        have z0 := hk1 0 (by simp)
        have z5 := hk1 5 (by simp)
        have z6 := hk1 6 (by simp)
        have z7 := hk1 7 (by simp)
        simp only [g0, g1, gs_self, gs_ne, List.length_set, ne_eq, Nat.reduceEqDiff, Nat.reduceLT, not_false_eq_true] at z0 z5 z6 z7
        have hv1 : EvS (H ++ [AObj.cells (flat6 (swapE l k x y)) 36]) v l := hv.more _
        simp -implicitDefEqProofs only [hl1, z0, hla, w2, Bool.not_true, Bool.not_false, Bool.true_and, Bool.and_true, Bool.false_and, Bool.and_false, Bool.true_or, Bool.or_true, Bool.false_or, Bool.or_false, cond_true, cond_false, boolOf_undef, nb, beq_self_eq_true, Bool.and_self, z_e1, z_e0, ↓EvC_seq, ↓EvC_skip, ↓EvC_exit, ↓EvC_ret, ↓EvC_block, ↓EvC_cond, ↓ev_region, ↓runL_cons, ↓runL_nil, ↓stepO_none, ↓stepO_guard, ↓aop_move, ↓aop_assign, ↓aop_load, ↓aop_store, ↓aop_alloc, ↓aop_box, ↓aop_nilCheck, ↓aop_fieldAddr, ↓aop_field, ↓aop_indexAddr, ↓aop_binOp, ↓aop_pick, ↓aop_extract, ↓aop_buildSlice, ↓aop_slice, ↓aop_not, ↓aop_call, ↓callA_len, ↓callA_append, ev_tmp, ev_const, ofV_int, ofV_bool, ofV_str, ofV_nilSlice, ofV_nilPtr, putA_some, putA_none, gs_self, gs_ne, List.length_set, Option.bind_some, Option.map_some, intBinA, evL, evO, evP, ne_eq, not_false_eq_true, if_true, if_false, reduceCtorEq, ite_true, ite_false, reduceIte, put_app, AV.cells, and_true, true_and, and_self, decide_true, decide_false, ↓yielded_eq, yv_some, boolOf_bool, List.getElem?_toArray, List.getElem?_cons_zero, List.getElem?_cons_succ, Nat.reduceLT, Nat.reduceEqDiff, beq_self_eq_true, Option.some_beq_some, wr_app, wr_app0, rd_app, rd_app0, rdL_here, rdL_next, wrL_here, wrL_next, spl, List.all_cons, List.all_nil, AV.one, Bool.and_self, Bool.true_and, List.drop_zero, List.take_succ_cons, List.take_zero, List.drop_succ_cons, List.head?_cons, Nat.reduceAdd, Nat.reduceLeDiff, List.length_cons, List.length_nil, List.nil_append, List.cons_append, List.set_cons_zero, List.set_cons_succ, Int.toNat_natCast, Nat.add_zero, b_ft, b_tf, Bool.false_eq_true]
        generalize hX : EvC Try.prog C4 (Code.loop _) _ = X
        obtain ⟨tm2, H2, bb, he, hl2', y0, y7, hk2, n2, k2, ob⟩ := b_loop' hX hv1 (by omega) (by simp only [List.length_set, hl1]) (by simp only [hl1, z0, gs_self, gs_ne, List.length_set, ne_eq, Nat.reduceEqDiff, Nat.reduceLT, not_false_eq_true]) (by simp only [hl1, z7, gs_self, gs_ne, List.length_set, ne_eq, Nat.reduceEqDiff, Nat.reduceLT, not_false_eq_true]) (by simp only [hl1, gs_self, gs_ne, List.length_set, ne_eq, Nat.reduceEqDiff, Nat.reduceLT, not_false_eq_true])
        subst he
        have y6 := hk2 6 (by simp)
        simp only [hl1, z6, gs_self, gs_ne, List.length_set, ne_eq, Nat.reduceEqDiff, Nat.reduceLT, not_false_eq_true] at y6
        have hv2 := hv1.same k2
        have hva : EvS H2 (.slice H.length 0 6 l.length l.length false) (swapE l k x y) := by
          have hb2 : H2[H.length]? = some (.cells (flat6 (swapE l k x y)) 36) := by rw [k2 _ (by simp)]; simp
          refine .inr ⟨H.length, 0, l.length, false, by rw [hsl], by omega, fun j e he => ?_⟩
          rw [Nat.zero_add]
          exact rd_flat hb2 he
        have hvb : EvS H2 (evV l.reverse bb) l.reverse := evV_S ob
        have hval : ∀ l' : List E6, l'.Perm l → (!(decide ((l'.length : Int) > 4000)) && !(l'.any E6.bad)) = true := fun l' hp => by
          rw [any_perm hp, hbad, hp.length_eq]; simp; omega
        obtain ⟨H3, ov3, k3, n3, good3, _⟩ := find_ev hv2 (by omega)
        obtain ⟨r3, rl3, e3⟩ := good3 (hval l (List.Perm.refl l))
        obtain ⟨H4, ov4, k4, n4, good4, _⟩ := find_ev (hva.same k3) (by omega)
        obtain ⟨r4, rl4, e4⟩ := good4 (hval _ hperm)
        have hlr : l.reverse.length = l.length := by simp
        obtain ⟨H5, ov5, k5, n5, good5, _⟩ := find_ev ((hvb.same k3).same k4) (by omega)
        obtain ⟨r5, rl5, e5⟩ := good5 (hval _ (List.reverse_perm l))
        have c1 := cells_ev (((r3.keeps k4).keeps k5).row) ((r4.keeps k5).row) (by omega) (by omega)
        have c2 := cells_ev (((r3.keeps k4).keeps k5).row) r5.row (by omega) (by omega)
        rw [cells_perm hperm.symm] at c1
        rw [cells_perm (List.reverse_perm l).symm] at c2
        apply Exists.intro
        simp -implicitDefEqProofs only [hl2', y0, y6, y7, e3, e4, e5, c1, c2, k4_awake, ↓fc15, ↓fc16, ↓fc21, Bool.not_true, Bool.not_false, Bool.true_and, Bool.and_true, Bool.false_and, Bool.and_false, Bool.true_or, Bool.or_true, Bool.false_or, Bool.or_false, cond_true, cond_false, boolOf_undef, nb, beq_self_eq_true, Bool.and_self, z_e1, z_e0, ↓EvC_seq, ↓EvC_skip, ↓EvC_exit, ↓EvC_ret, ↓EvC_block, ↓EvC_cond, ↓ev_region, ↓runL_cons, ↓runL_nil, ↓stepO_none, ↓stepO_guard, ↓aop_move, ↓aop_assign, ↓aop_load, ↓aop_store, ↓aop_alloc, ↓aop_box, ↓aop_nilCheck, ↓aop_fieldAddr, ↓aop_field, ↓aop_indexAddr, ↓aop_binOp, ↓aop_pick, ↓aop_extract, ↓aop_buildSlice, ↓aop_slice, ↓aop_not, ↓aop_call, ↓callA_len, ↓callA_append, ev_tmp, ev_const, ofV_int, ofV_bool, ofV_str, ofV_nilSlice, ofV_nilPtr, putA_some, putA_none, gs_self, gs_ne, List.length_set, Option.bind_some, Option.map_some, intBinA, evL, evO, evP, ne_eq, not_false_eq_true, if_true, if_false, reduceCtorEq, ite_true, ite_false, reduceIte, put_app, AV.cells, and_true, true_and, and_self, decide_true, decide_false, ↓yielded_eq, yv_some, boolOf_bool, List.getElem?_toArray, List.getElem?_cons_zero, List.getElem?_cons_succ, Nat.reduceLT, Nat.reduceEqDiff, beq_self_eq_true, Option.some_beq_some, wr_app, wr_app0, rd_app, rd_app0, rdL_here, rdL_next, wrL_here, wrL_next, spl, List.all_cons, List.all_nil, AV.one, Bool.and_self, Bool.true_and, List.drop_zero, List.take_succ_cons, List.take_zero, List.drop_succ_cons, List.head?_cons, Nat.reduceAdd, Nat.reduceLeDiff, List.length_cons, List.length_nil, List.nil_append, List.cons_append, List.set_cons_zero, List.set_cons_succ, Int.toNat_natCast, Nat.add_zero, b_ft, b_tf, Bool.false_eq_true]
        with_reducible rfl
      · apply Exists.intro
        simp -implicitDefEqProofs only [c5, Try.f5, Option.getD_some, g0, g1, g2, hla, e0, h2, h4, k4_awake, ↓fc15, ↓fc17, Bool.not_true, Bool.not_false, Bool.true_and, Bool.and_true, Bool.false_and, Bool.and_false, Bool.true_or, Bool.or_true, Bool.false_or, Bool.or_false, cond_true, cond_false, boolOf_undef, nb, beq_self_eq_true, Bool.and_self, z_e1, z_e0, ↓EvC_seq, ↓EvC_skip, ↓EvC_exit, ↓EvC_ret, ↓EvC_block, ↓EvC_cond, ↓ev_region, ↓runL_cons, ↓runL_nil, ↓stepO_none, ↓stepO_guard, ↓aop_move, ↓aop_assign, ↓aop_load, ↓aop_store, ↓aop_alloc, ↓aop_box, ↓aop_nilCheck, ↓aop_fieldAddr, ↓aop_field, ↓aop_indexAddr, ↓aop_binOp, ↓aop_pick, ↓aop_extract, ↓aop_buildSlice, ↓aop_slice, ↓aop_not, ↓aop_call, ↓callA_len, ↓callA_append, ev_tmp, ev_const, ofV_int, ofV_bool, ofV_str, ofV_nilSlice, ofV_nilPtr, putA_some, putA_none, gs_self, gs_ne, List.length_set, Option.bind_some, Option.map_some, intBinA, evL, evO, evP, ne_eq, not_false_eq_true, if_true, if_false, reduceCtorEq, ite_true, ite_false, reduceIte, put_app, AV.cells, and_true, true_and, and_self, decide_true, decide_false, ↓yielded_eq, yv_some, boolOf_bool, List.getElem?_toArray, List.getElem?_cons_zero, List.getElem?_cons_succ, Nat.reduceLT, Nat.reduceEqDiff, beq_self_eq_true, Option.some_beq_some, wr_app, wr_app0, rd_app, rd_app0, rdL_here, rdL_next, wrL_here, wrL_next, spl, List.all_cons, List.all_nil, AV.one, Bool.and_self, Bool.true_and, List.drop_zero, List.take_succ_cons, List.take_zero, List.drop_succ_cons, List.head?_cons, Nat.reduceAdd, Nat.reduceLeDiff, List.length_cons, List.length_nil, List.nil_append, List.cons_append, List.set_cons_zero, List.set_cons_succ, Int.toNat_natCast, Nat.add_zero, b_ft, b_tf, Bool.false_eq_true]
        with_reducible rfl
    · apply Exists.intro
      simp -implicitDefEqProofs only [c5, Try.f5, Option.getD_some, g0, g1, g2, hla, e0, h2, k4_awake, ↓fc15, ↓fc17, Bool.not_true, Bool.not_false, Bool.true_and, Bool.and_true, Bool.false_and, Bool.and_false, Bool.true_or, Bool.or_true, Bool.false_or, Bool.or_false, cond_true, cond_false, boolOf_undef, nb, beq_self_eq_true, Bool.and_self, z_e1, z_e0, ↓EvC_seq, ↓EvC_skip, ↓EvC_exit, ↓EvC_ret, ↓EvC_block, ↓EvC_cond, ↓ev_region, ↓runL_cons, ↓runL_nil, ↓stepO_none, ↓stepO_guard, ↓aop_move, ↓aop_assign, ↓aop_load, ↓aop_store, ↓aop_alloc, ↓aop_box, ↓aop_nilCheck, ↓aop_fieldAddr, ↓aop_field, ↓aop_indexAddr, ↓aop_binOp, ↓aop_pick, ↓aop_extract, ↓aop_buildSlice, ↓aop_slice, ↓aop_not, ↓aop_call, ↓callA_len, ↓callA_append, ev_tmp, ev_const, ofV_int, ofV_bool, ofV_str, ofV_nilSlice, ofV_nilPtr, putA_some, putA_none, gs_self, gs_ne, List.length_set, Option.bind_some, Option.map_some, intBinA, evL, evO, evP, ne_eq, not_false_eq_true, if_true, if_false, reduceCtorEq, ite_true, ite_false, reduceIte, put_app, AV.cells, and_true, true_and, and_self, decide_true, decide_false, ↓yielded_eq, yv_some, boolOf_bool, List.getElem?_toArray, List.getElem?_cons_zero, List.getElem?_cons_succ, Nat.reduceLT, Nat.reduceEqDiff, beq_self_eq_true, Option.some_beq_some, wr_app, wr_app0, rd_app, rd_app0, rdL_here, rdL_next, wrL_here, wrL_next, spl, List.all_cons, List.all_nil, AV.one, Bool.and_self, Bool.true_and, List.drop_zero, List.take_succ_cons, List.take_zero, List.drop_succ_cons, List.head?_cons, Nat.reduceAdd, Nat.reduceLeDiff, List.length_cons, List.length_nil, List.nil_append, List.cons_append, List.set_cons_zero, List.set_cons_succ, Int.toNat_natCast, Nat.add_zero, b_ft, b_tf, Bool.false_eq_true]
      with_reducible rfl

end Go.Dv
