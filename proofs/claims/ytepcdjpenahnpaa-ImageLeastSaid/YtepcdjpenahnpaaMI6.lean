/- Texts of the evaluator and of the laws' walks, put together in the order of their build: T101, T102, T103, T104 (own work). -/
import Derived.Test.YtepcdjpenahnpaaMI5

/- different (printed by a program of mine, own work). -/
namespace Go.Dv
open Go.Proofs
set_option maxRecDepth 100000
set_option linter.unusedSimpArgs false
set_option linter.unusedVariables false
attribute [local congr] bind_congr_first


theorem reg31_9 {H : AH} {v : AV} {l : List Int} {i k : Nat} {x y : Int} {a : Bool} {tm : List AV} (hv : IntS H v l) (hy : l[k]? = some y) (hx : l[i]? = some x) (hlen : tm.length = 34) (h0 : tm.getD 0 undefA = v) (h4 : tm.getD 4 undefA = I i) (h5 : tm.getD 5 undefA = .bool a) (h6 : tm.getD 6 undefA = I k) :
    ∃ tm', EvC Try.prog C0 d31_9 (tm, H) = some (.normal, (tm', H)) ∧ tm'.length = 34 ∧ tm'.getD 5 undefA = .bool (a && (y != x)) ∧ (∀ t ∈ [0, 3, 4, 6], tm'.getD t undefA = tm.getD t undefA) := by
  obtain ⟨i1, k1, hi1, hr1⟩ := hv.ix k y hy
  obtain ⟨i2, k2, hi2, hr2⟩ := hv.ix i x hx
  have dd := ed31_9
  simp only [d31_9, opsAt, atPath, Try.f31, Option.getD_some] at dd
  simp only [d31_9, opsAt, atPath, Try.f31, Option.getD_some]
  rw [dd]
  cases a
  · simp -implicitDefEqProofs only [hlen, h0, h4, h5, h6, Bool.not_true, Bool.not_false, Bool.true_and, Bool.and_true, Bool.false_and, Bool.and_false, Bool.true_or, Bool.or_true, Bool.false_or, Bool.or_false, cond_true, cond_false, boolOf_undef, nb, beq_self_eq_true, Bool.and_self, ↓ld3, ↓st3, z3, boolOf_undef, nb, ↓aop_lookup, ↓aop_makeFunc, ↓aop_makeMap, ↓aop_mapUpdate, ↓aop_buildSlice, ↓aop_extract, ↓EvC_seq, ↓EvC_skip, ↓EvC_exit, ↓EvC_ret, ↓EvC_block, ↓EvC_cond, ↓ev_region, ↓runL_cons, ↓runL_nil, ↓stepO_none, ↓stepO_guard, ↓aop_move, ↓aop_assign, ↓aop_load, ↓aop_store, ↓aop_alloc, ↓aop_box, ↓aop_nilCheck, ↓aop_fieldAddr, ↓aop_field, ↓aop_indexAddr, ↓aop_binOp, ↓aop_pick, ↓aop_extract, ↓aop_buildSlice, ↓aop_slice, ↓aop_not, ↓aop_call, ↓callA_len, ↓callA_append, ev_tmp, ev_const, ofV_int, ofV_bool, ofV_str, ofV_nilSlice, ofV_nilPtr, putA_some, putA_none, gs_self, gs_ne, List.length_set, Option.bind_some, Option.map_some, intBinA, evL, evO, evP, ne_eq, not_false_eq_true, if_true, if_false, reduceCtorEq, ite_true, ite_false, reduceIte, put_app, AV.cells, and_true, true_and, and_self, decide_true, decide_false, ↓yielded_eq, yv_some, boolOf_bool, List.getElem?_toArray, List.getElem?_cons_zero, List.getElem?_cons_succ, Nat.reduceLT, Nat.reduceEqDiff, beq_self_eq_true, Option.some_beq_some, wr_app, wr_app0, rd_app, rd_app0, rdL_here, rdL_next, wrL_here, wrL_next, spl, List.all_cons, List.all_nil, AV.one, Bool.and_self, Bool.true_and, List.drop_zero, List.take_succ_cons, List.take_zero, List.drop_succ_cons, List.head?_cons, Nat.reduceAdd, Nat.reduceLeDiff, List.length_cons, List.length_nil, List.nil_append, List.cons_append, List.set_cons_zero, List.set_cons_succ, Int.toNat_natCast, Nat.add_zero, b_ft, b_tf, Bool.false_eq_true, ↓rp_done, ↓rp_take, ↓rp_all, ↓ra_nil, ↓ra_first, ↓ra_next, ↓quietO_none, ↓quietO_guard, ↓q_move, ↓q_assign, ↓q_pick, ↓q_binOp, ↓q_field, ↓q_fieldAddr, ↓q_indexAddr, ↓q_nilCheck, set_order, keepV_eq, stBeq_self, ↓rp_graft, put_slot, put_slot_app, List.length_append, List.append_assoc, Nat.add_assoc, ↓aop_build, evP, Bool.true_and, Bool.and_true, Bool.false_and, Bool.and_false, Bool.true_or, Bool.or_true, Bool.false_or, Bool.or_false, Bool.not_true, Bool.not_false]
    refine ⟨_, rfl, by simp only [List.length_set, hlen], by simp only [hlen, gs_self, gs_ne, List.length_set, ne_eq, Nat.reduceEqDiff, Nat.reduceLT, not_false_eq_true], fun t ht => ?_⟩
    simp only [List.mem_cons, List.not_mem_nil, or_false] at ht
    rcases ht with rfl | rfl | rfl | rfl <;> simp only [hlen, gs_self, gs_ne, List.length_set, ne_eq, Nat.reduceEqDiff, Nat.reduceLT, not_false_eq_true]

  · simp -implicitDefEqProofs only [hlen, h0, h4, h5, h6, hi1, hi2, hr1, hr2, Bool.not_true, Bool.not_false, Bool.true_and, Bool.and_true, Bool.false_and, Bool.and_false, Bool.true_or, Bool.or_true, Bool.false_or, Bool.or_false, cond_true, cond_false, boolOf_undef, nb, beq_self_eq_true, Bool.and_self, ↓ld3, ↓st3, z3, boolOf_undef, nb, ↓aop_lookup, ↓aop_makeFunc, ↓aop_makeMap, ↓aop_mapUpdate, ↓aop_buildSlice, ↓aop_extract, ↓EvC_seq, ↓EvC_skip, ↓EvC_exit, ↓EvC_ret, ↓EvC_block, ↓EvC_cond, ↓ev_region, ↓runL_cons, ↓runL_nil, ↓stepO_none, ↓stepO_guard, ↓aop_move, ↓aop_assign, ↓aop_load, ↓aop_store, ↓aop_alloc, ↓aop_box, ↓aop_nilCheck, ↓aop_fieldAddr, ↓aop_field, ↓aop_indexAddr, ↓aop_binOp, ↓aop_pick, ↓aop_extract, ↓aop_buildSlice, ↓aop_slice, ↓aop_not, ↓aop_call, ↓callA_len, ↓callA_append, ev_tmp, ev_const, ofV_int, ofV_bool, ofV_str, ofV_nilSlice, ofV_nilPtr, putA_some, putA_none, gs_self, gs_ne, List.length_set, Option.bind_some, Option.map_some, intBinA, evL, evO, evP, ne_eq, not_false_eq_true, if_true, if_false, reduceCtorEq, ite_true, ite_false, reduceIte, put_app, AV.cells, and_true, true_and, and_self, decide_true, decide_false, ↓yielded_eq, yv_some, boolOf_bool, List.getElem?_toArray, List.getElem?_cons_zero, List.getElem?_cons_succ, Nat.reduceLT, Nat.reduceEqDiff, beq_self_eq_true, Option.some_beq_some, wr_app, wr_app0, rd_app, rd_app0, rdL_here, rdL_next, wrL_here, wrL_next, spl, List.all_cons, List.all_nil, AV.one, Bool.and_self, Bool.true_and, List.drop_zero, List.take_succ_cons, List.take_zero, List.drop_succ_cons, List.head?_cons, Nat.reduceAdd, Nat.reduceLeDiff, List.length_cons, List.length_nil, List.nil_append, List.cons_append, List.set_cons_zero, List.set_cons_succ, Int.toNat_natCast, Nat.add_zero, b_ft, b_tf, Bool.false_eq_true, ↓rp_done, ↓rp_take, ↓rp_all, ↓ra_nil, ↓ra_first, ↓ra_next, ↓quietO_none, ↓quietO_guard, ↓q_move, ↓q_assign, ↓q_pick, ↓q_binOp, ↓q_field, ↓q_fieldAddr, ↓q_indexAddr, ↓q_nilCheck, set_order, keepV_eq, stBeq_self, ↓rp_graft, put_slot, put_slot_app, List.length_append, List.append_assoc, Nat.add_assoc, ↓aop_build, evP, Bool.true_and, Bool.and_true, Bool.false_and, Bool.and_false, Bool.true_or, Bool.or_true, Bool.false_or, Bool.or_false, Bool.not_true, Bool.not_false]
    refine ⟨_, rfl, by simp only [List.length_set, hlen], by simp only [hlen, gs_self, gs_ne, List.length_set, ne_eq, Nat.reduceEqDiff, Nat.reduceLT, not_false_eq_true], fun t ht => ?_⟩
    simp only [List.mem_cons, List.not_mem_nil, or_false] at ht
    rcases ht with rfl | rfl | rfl | rfl <;> simp only [hlen, gs_self, gs_ne, List.length_set, ne_eq, Nat.reduceEqDiff, Nat.reduceLT, not_false_eq_true]

theorem reg31_9' {H : AH} {v : AV} {l : List Int} {i k : Nat} {x y : Int} {a : Bool} {tm : List AV} {X : Option (AExit × St)} (hX : EvC Try.prog C0 d31_9 (tm, H) = X) (hv : IntS H v l) (hy : l[k]? = some y) (hx : l[i]? = some x) (hlen : tm.length = 34) (h0 : tm.getD 0 undefA = v) (h4 : tm.getD 4 undefA = I i) (h5 : tm.getD 5 undefA = .bool a) (h6 : tm.getD 6 undefA = I k) : ∃ tm', X = some (.normal, (tm', H)) ∧ tm'.length = 34 ∧ tm'.getD 5 undefA = .bool (a && (y != x)) ∧ (∀ t ∈ [0, 3, 4, 6], tm'.getD t undefA = tm.getD t undefA) := by
  subst hX; exact reg31_9 hv hy hx hlen h0 h4 h5 h6
theorem take_drop_at {l : List Int} {i k : Nat} {y : Int} (hk : k < i) (hy : l[k]? = some y) : (l.take i).drop k = y :: (l.take i).drop (k + 1) := by
  have hl := lt_of_get hy
  exact drop_at (by rw [List.getElem?_take, if_pos hk]; exact hy)
theorem dif_in {H : AH} {v : AV} {l : List Int} {i : Nat} {x : Int} (hv : IntS H v l) (hl : l.length < 2 ^ 40) (hx : l[i]? = some x) : ∀ (d k : Nat) (a : Bool) (tm : List AV), i - k = d → k ≤ i →
    tm.length = 34 → tm.getD 0 undefA = v → tm.getD 4 undefA = I i → tm.getD 5 undefA = .bool a → tm.getD 6 undefA = I k →
    ∃ tm', EvC Try.prog C0 l31_0 (tm, H) = some (.exit 2, (tm', H)) ∧ tm'.length = 34 ∧ tm'.getD 5 undefA = .bool (a && !decide (x ∈ (l.take i).drop k)) ∧ (∀ t ∈ [0, 3, 4], tm'.getD t undefA = tm.getD t undefA) := by
  have hil := lt_of_get hx
  intro d
  induction d with
  | zero =>
    intro k a tm hd hk hlen h0 h4 h5 h6
    obtain rfl : k = i := by omega
    have hlt : decide ((k : Int) < (k : Int)) = false := by simp
    rw [el31_0]
    simp -implicitDefEqProofs only [b31_0, atPath, Try.f31, Option.getD_some, hlen, h0, h4, h6, hlt, ↓ld3, ↓st3, z3, boolOf_undef, nb, ↓aop_lookup, ↓aop_makeFunc, ↓aop_makeMap, ↓aop_mapUpdate, ↓aop_buildSlice, ↓aop_extract, ↓EvC_seq, ↓EvC_skip, ↓EvC_exit, ↓EvC_ret, ↓EvC_block, ↓EvC_cond, ↓ev_region, ↓runL_cons, ↓runL_nil, ↓stepO_none, ↓stepO_guard, ↓aop_move, ↓aop_assign, ↓aop_load, ↓aop_store, ↓aop_alloc, ↓aop_box, ↓aop_nilCheck, ↓aop_fieldAddr, ↓aop_field, ↓aop_indexAddr, ↓aop_binOp, ↓aop_pick, ↓aop_extract, ↓aop_buildSlice, ↓aop_slice, ↓aop_not, ↓aop_call, ↓callA_len, ↓callA_append, ev_tmp, ev_const, ofV_int, ofV_bool, ofV_str, ofV_nilSlice, ofV_nilPtr, putA_some, putA_none, gs_self, gs_ne, List.length_set, Option.bind_some, Option.map_some, intBinA, evL, evO, evP, ne_eq, not_false_eq_true, if_true, if_false, reduceCtorEq, ite_true, ite_false, reduceIte, put_app, AV.cells, and_true, true_and, and_self, decide_true, decide_false, ↓yielded_eq, yv_some, boolOf_bool, List.getElem?_toArray, List.getElem?_cons_zero, List.getElem?_cons_succ, Nat.reduceLT, Nat.reduceEqDiff, beq_self_eq_true, Option.some_beq_some, wr_app, wr_app0, rd_app, rd_app0, rdL_here, rdL_next, wrL_here, wrL_next, spl, List.all_cons, List.all_nil, AV.one, Bool.and_self, Bool.true_and, List.drop_zero, List.take_succ_cons, List.take_zero, List.drop_succ_cons, List.head?_cons, Nat.reduceAdd, Nat.reduceLeDiff, List.length_cons, List.length_nil, List.nil_append, List.cons_append, List.set_cons_zero, List.set_cons_succ, Int.toNat_natCast, Nat.add_zero, b_ft, b_tf, Bool.false_eq_true]
    refine ⟨_, rfl, by simp only [List.length_set, hlen], by rw [List.drop_of_length_le (l := l.take k) (by simp; omega)]; simp only [hlen, h5, List.not_mem_nil, decide_false, Bool.not_false, Bool.and_true, gs_self, gs_ne, List.length_set, ne_eq, Nat.reduceEqDiff, Nat.reduceLT, not_false_eq_true], fun t ht => ?_⟩
    simp only [List.mem_cons, List.not_mem_nil, or_false] at ht
    rcases ht with rfl | rfl | rfl <;> simp only [hlen, gs_self, gs_ne, List.length_set, ne_eq, Nat.reduceEqDiff, Nat.reduceLT, not_false_eq_true]

  | succ d ih =>
    intro k a tm hd hk hlen h0 h4 h5 h6
    obtain ⟨y, hy⟩ := get_of (xs := l) (j := k) (by omega)
    have hlt : decide ((k : Int) < (i : Int)) = true := by simp; omega
    have hw := inc_i (j := k) (by omega)
    rw [el31_0]
    simp -implicitDefEqProofs only [b31_0, atPath, Try.f31, Option.getD_some, hlen, h0, h4, h6, hlt, ↓ld3, ↓st3, z3, boolOf_undef, nb, ↓aop_lookup, ↓aop_makeFunc, ↓aop_makeMap, ↓aop_mapUpdate, ↓aop_buildSlice, ↓aop_extract, ↓EvC_seq, ↓EvC_skip, ↓EvC_exit, ↓EvC_ret, ↓EvC_block, ↓EvC_cond, ↓ev_region, ↓runL_cons, ↓runL_nil, ↓stepO_none, ↓stepO_guard, ↓aop_move, ↓aop_assign, ↓aop_load, ↓aop_store, ↓aop_alloc, ↓aop_box, ↓aop_nilCheck, ↓aop_fieldAddr, ↓aop_field, ↓aop_indexAddr, ↓aop_binOp, ↓aop_pick, ↓aop_extract, ↓aop_buildSlice, ↓aop_slice, ↓aop_not, ↓aop_call, ↓callA_len, ↓callA_append, ev_tmp, ev_const, ofV_int, ofV_bool, ofV_str, ofV_nilSlice, ofV_nilPtr, putA_some, putA_none, gs_self, gs_ne, List.length_set, Option.bind_some, Option.map_some, intBinA, evL, evO, evP, ne_eq, not_false_eq_true, if_true, if_false, reduceCtorEq, ite_true, ite_false, reduceIte, put_app, AV.cells, and_true, true_and, and_self, decide_true, decide_false, ↓yielded_eq, yv_some, boolOf_bool, List.getElem?_toArray, List.getElem?_cons_zero, List.getElem?_cons_succ, Nat.reduceLT, Nat.reduceEqDiff, beq_self_eq_true, Option.some_beq_some, wr_app, wr_app0, rd_app, rd_app0, rdL_here, rdL_next, wrL_here, wrL_next, spl, List.all_cons, List.all_nil, AV.one, Bool.and_self, Bool.true_and, List.drop_zero, List.take_succ_cons, List.take_zero, List.drop_succ_cons, List.head?_cons, Nat.reduceAdd, Nat.reduceLeDiff, List.length_cons, List.length_nil, List.nil_append, List.cons_append, List.set_cons_zero, List.set_cons_succ, Int.toNat_natCast, Nat.add_zero, b_ft, b_tf, Bool.false_eq_true]
    generalize hX : EvC Try.prog C0 (Code.region 9 _ true) _ = X
    obtain ⟨tm1, he, hl1, k5, hk1⟩ := reg31_9' (a := a) hX hv hy hx (by simp only [List.length_set, hlen]) (by simp only [hlen, h0, gs_self, gs_ne, List.length_set, ne_eq, Nat.reduceEqDiff, Nat.reduceLT, not_false_eq_true]) (by simp only [hlen, h4, gs_self, gs_ne, List.length_set, ne_eq, Nat.reduceEqDiff, Nat.reduceLT, not_false_eq_true]) (by simp only [hlen, h5, gs_self, gs_ne, List.length_set, ne_eq, Nat.reduceEqDiff, Nat.reduceLT, not_false_eq_true]) (by simp only [hlen, h6, gs_self, gs_ne, List.length_set, ne_eq, Nat.reduceEqDiff, Nat.reduceLT, not_false_eq_true])
    subst he
    have k0 := hk1 0 (by simp)
    have k3 := hk1 3 (by simp)
    have k4 := hk1 4 (by simp)
    have k6 := hk1 6 (by simp)
    simp only [hlen, h0, h4, h6, gs_self, gs_ne, List.length_set, ne_eq, Nat.reduceEqDiff, Nat.reduceLT, not_false_eq_true] at k0 k3 k4 k6
    simp -implicitDefEqProofs only [hl1, k0, k4, k5, k6, hw, ↓ld3, ↓st3, z3, boolOf_undef, nb, ↓aop_lookup, ↓aop_makeFunc, ↓aop_makeMap, ↓aop_mapUpdate, ↓aop_buildSlice, ↓aop_extract, ↓EvC_seq, ↓EvC_skip, ↓EvC_exit, ↓EvC_ret, ↓EvC_block, ↓EvC_cond, ↓ev_region, ↓runL_cons, ↓runL_nil, ↓stepO_none, ↓stepO_guard, ↓aop_move, ↓aop_assign, ↓aop_load, ↓aop_store, ↓aop_alloc, ↓aop_box, ↓aop_nilCheck, ↓aop_fieldAddr, ↓aop_field, ↓aop_indexAddr, ↓aop_binOp, ↓aop_pick, ↓aop_extract, ↓aop_buildSlice, ↓aop_slice, ↓aop_not, ↓aop_call, ↓callA_len, ↓callA_append, ev_tmp, ev_const, ofV_int, ofV_bool, ofV_str, ofV_nilSlice, ofV_nilPtr, putA_some, putA_none, gs_self, gs_ne, List.length_set, Option.bind_some, Option.map_some, intBinA, evL, evO, evP, ne_eq, not_false_eq_true, if_true, if_false, reduceCtorEq, ite_true, ite_false, reduceIte, put_app, AV.cells, and_true, true_and, and_self, decide_true, decide_false, ↓yielded_eq, yv_some, boolOf_bool, List.getElem?_toArray, List.getElem?_cons_zero, List.getElem?_cons_succ, Nat.reduceLT, Nat.reduceEqDiff, beq_self_eq_true, Option.some_beq_some, wr_app, wr_app0, rd_app, rd_app0, rdL_here, rdL_next, wrL_here, wrL_next, spl, List.all_cons, List.all_nil, AV.one, Bool.and_self, Bool.true_and, List.drop_zero, List.take_succ_cons, List.take_zero, List.drop_succ_cons, List.head?_cons, Nat.reduceAdd, Nat.reduceLeDiff, List.length_cons, List.length_nil, List.nil_append, List.cons_append, List.set_cons_zero, List.set_cons_succ, Int.toNat_natCast, Nat.add_zero, b_ft, b_tf, Bool.false_eq_true]
    generalize hX : EvC Try.prog C0 _ _ = X
    have key : ∀ (tm2 : List AV), EvC Try.prog C0 l31_0 (tm2, H) = X → tm2.length = 34 → tm2.getD 0 undefA = v → tm2.getD 4 undefA = I i → tm2.getD 5 undefA = .bool (a && (y != x)) → tm2.getD 6 undefA = I ((k + 1 : Nat) : Int) → tm2.getD 3 undefA = tm.getD 3 undefA →
        ∃ tm', X = some (.exit 2, (tm', H)) ∧ tm'.length = 34 ∧ tm'.getD 5 undefA = .bool (a && !decide (x ∈ (l.take i).drop k)) ∧ (∀ t ∈ [0, 3, 4], tm'.getD t undefA = tm.getD t undefA) := by
      intro tm2 e q0 q1 q2 q3 q4 q5
      obtain ⟨tm', he, hl', r5, rk⟩ := ih (k + 1) _ tm2 (by omega) (by omega) q0 q1 q2 q3 q4
      refine ⟨tm', e.symm.trans he, hl', ?_, fun t ht => ?_⟩
      · rw [r5, take_drop_at (by omega) hy, Bool.and_assoc]
        congr 2
        by_cases hxy : y = x
        · subst hxy; simp
        · have h1 : (y != x) = true := by simpa using hxy
          have h2 : ¬ x = y := fun e => hxy e.symm
          simp [h1, h2]
      · rw [rk t ht]
        simp only [List.mem_cons, List.not_mem_nil, or_false] at ht
        rcases ht with rfl | rfl | rfl
        · rw [q1, h0]
        · exact q5
        · rw [q2, h4]
    exact key _ hX (by simp only [List.length_set, hl1]) (by simp only [hl1, k0, gs_self, gs_ne, List.length_set, ne_eq, Nat.reduceEqDiff, Nat.reduceLT, not_false_eq_true]) (by simp only [hl1, k4, gs_self, gs_ne, List.length_set, ne_eq, Nat.reduceEqDiff, Nat.reduceLT, not_false_eq_true]) (by simp only [hl1, k5, gs_self, gs_ne, List.length_set, ne_eq, Nat.reduceEqDiff, Nat.reduceLT, not_false_eq_true]) (by simp only [hl1, gs_self, gs_ne, List.length_set, ne_eq, Nat.reduceEqDiff, Nat.reduceLT, not_false_eq_true]) (by simp only [hl1, k3, gs_self, gs_ne, List.length_set, ne_eq, Nat.reduceEqDiff, Nat.reduceLT, not_false_eq_true])
theorem dif_in' {H : AH} {v : AV} {l : List Int} {i : Nat} {x : Int} {tm : List AV} {X : Option (AExit × St)} (hX : EvC Try.prog C0 l31_0 (tm, H) = X) (hv : IntS H v l) (hl : l.length < 2 ^ 40) (hx : l[i]? = some x)
    (hlen : tm.length = 34) (h0 : tm.getD 0 undefA = v) (h4 : tm.getD 4 undefA = I i) (h5 : tm.getD 5 undefA = .bool true) (h6 : tm.getD 6 undefA = I ((0 : Nat) : Int)) :
    ∃ tm', X = some (.exit 2, (tm', H)) ∧ tm'.length = 34 ∧ tm'.getD 5 undefA = .bool (!decide (x ∈ l.take i)) ∧ (∀ t ∈ [0, 3, 4], tm'.getD t undefA = tm.getD t undefA) := by
  subst hX
  have := dif_in hv hl hx i 0 true tm (by omega) (by omega) hlen h0 h4 h5 h6
  simpa using this
theorem dif_out {H : AH} {v : AV} {l : List Int} (hv : IntS H v l) (hl : l.length < 2 ^ 40) : ∀ (d i c : Nat) (tm : List AV), l.length - i = d → i ≤ l.length → c ≤ i →
    tm.length = 34 → tm.getD 0 undefA = v → tm.getD 3 undefA = I c → tm.getD 4 undefA = I i →
    ∃ tm', EvC Try.prog C0 l31_1 (tm, H) = some (.exit 0, (tm', H)) ∧ tm'.length = 34 ∧ tm'.getD 3 undefA = I ((c + diffF (l.take i) (l.drop i) : Nat) : Int) := by
  intro d
  induction d with
  | zero =>
    intro i c tm hd hi hc hlen h0 h3 h4
    obtain rfl : i = l.length := by omega
    have hlt : decide ((l.length : Int) < (l.length : Int)) = false := by simp
    have hla := hv.len
    rw [el31_1]
    simp -implicitDefEqProofs only [b31_1, atPath, Try.f31, Option.getD_some, hlen, h0, h4, hlt, hla, ↓ld3, ↓st3, z3, boolOf_undef, nb, ↓aop_lookup, ↓aop_makeFunc, ↓aop_makeMap, ↓aop_mapUpdate, ↓aop_buildSlice, ↓aop_extract, ↓EvC_seq, ↓EvC_skip, ↓EvC_exit, ↓EvC_ret, ↓EvC_block, ↓EvC_cond, ↓ev_region, ↓runL_cons, ↓runL_nil, ↓stepO_none, ↓stepO_guard, ↓aop_move, ↓aop_assign, ↓aop_load, ↓aop_store, ↓aop_alloc, ↓aop_box, ↓aop_nilCheck, ↓aop_fieldAddr, ↓aop_field, ↓aop_indexAddr, ↓aop_binOp, ↓aop_pick, ↓aop_extract, ↓aop_buildSlice, ↓aop_slice, ↓aop_not, ↓aop_call, ↓callA_len, ↓callA_append, ev_tmp, ev_const, ofV_int, ofV_bool, ofV_str, ofV_nilSlice, ofV_nilPtr, putA_some, putA_none, gs_self, gs_ne, List.length_set, Option.bind_some, Option.map_some, intBinA, evL, evO, evP, ne_eq, not_false_eq_true, if_true, if_false, reduceCtorEq, ite_true, ite_false, reduceIte, put_app, AV.cells, and_true, true_and, and_self, decide_true, decide_false, ↓yielded_eq, yv_some, boolOf_bool, List.getElem?_toArray, List.getElem?_cons_zero, List.getElem?_cons_succ, Nat.reduceLT, Nat.reduceEqDiff, beq_self_eq_true, Option.some_beq_some, wr_app, wr_app0, rd_app, rd_app0, rdL_here, rdL_next, wrL_here, wrL_next, spl, List.all_cons, List.all_nil, AV.one, Bool.and_self, Bool.true_and, List.drop_zero, List.take_succ_cons, List.take_zero, List.drop_succ_cons, List.head?_cons, Nat.reduceAdd, Nat.reduceLeDiff, List.length_cons, List.length_nil, List.nil_append, List.cons_append, List.set_cons_zero, List.set_cons_succ, Int.toNat_natCast, Nat.add_zero, b_ft, b_tf, Bool.false_eq_true]
    exact ⟨_, rfl, by simp only [List.length_set, hlen], by rw [List.drop_length]; simp only [hlen, h3, diffF, Nat.add_zero, gs_self, gs_ne, List.length_set, ne_eq, Nat.reduceEqDiff, Nat.reduceLT, not_false_eq_true]⟩
  | succ d ih =>
    intro i c tm hd hi hc hlen h0 h3 h4
    obtain ⟨x, hx⟩ := get_of (xs := l) (j := i) (by omega)
    have hlt : decide ((i : Int) < (l.length : Int)) = true := by simp; omega
    have hla := hv.len
    have hw := inc_i (j := i) (by omega)
    have hw2 := inc_i (j := c) (by omega)
    have hdx := drop_at hx
    have htk : l.take (i + 1) = l.take i ++ [x] := by rw [List.take_add_one, hx]; rfl
    rw [el31_1]
    simp -implicitDefEqProofs only [b31_1, atPath, Try.f31, Option.getD_some, hlen, h0, h3, h4, hlt, hla, ↓ld3, ↓st3, z3, boolOf_undef, nb, ↓aop_lookup, ↓aop_makeFunc, ↓aop_makeMap, ↓aop_mapUpdate, ↓aop_buildSlice, ↓aop_extract, ↓EvC_seq, ↓EvC_skip, ↓EvC_exit, ↓EvC_ret, ↓EvC_block, ↓EvC_cond, ↓ev_region, ↓runL_cons, ↓runL_nil, ↓stepO_none, ↓stepO_guard, ↓aop_move, ↓aop_assign, ↓aop_load, ↓aop_store, ↓aop_alloc, ↓aop_box, ↓aop_nilCheck, ↓aop_fieldAddr, ↓aop_field, ↓aop_indexAddr, ↓aop_binOp, ↓aop_pick, ↓aop_extract, ↓aop_buildSlice, ↓aop_slice, ↓aop_not, ↓aop_call, ↓callA_len, ↓callA_append, ev_tmp, ev_const, ofV_int, ofV_bool, ofV_str, ofV_nilSlice, ofV_nilPtr, putA_some, putA_none, gs_self, gs_ne, List.length_set, Option.bind_some, Option.map_some, intBinA, evL, evO, evP, ne_eq, not_false_eq_true, if_true, if_false, reduceCtorEq, ite_true, ite_false, reduceIte, put_app, AV.cells, and_true, true_and, and_self, decide_true, decide_false, ↓yielded_eq, yv_some, boolOf_bool, List.getElem?_toArray, List.getElem?_cons_zero, List.getElem?_cons_succ, Nat.reduceLT, Nat.reduceEqDiff, beq_self_eq_true, Option.some_beq_some, wr_app, wr_app0, rd_app, rd_app0, rdL_here, rdL_next, wrL_here, wrL_next, spl, List.all_cons, List.all_nil, AV.one, Bool.and_self, Bool.true_and, List.drop_zero, List.take_succ_cons, List.take_zero, List.drop_succ_cons, List.head?_cons, Nat.reduceAdd, Nat.reduceLeDiff, List.length_cons, List.length_nil, List.nil_append, List.cons_append, List.set_cons_zero, List.set_cons_succ, Int.toNat_natCast, Nat.add_zero, b_ft, b_tf, Bool.false_eq_true]
    generalize hX : EvC Try.prog C0 (Code.loop _) _ = X
    obtain ⟨tm1, he, hl1, k5, hk1⟩ := dif_in' hX hv hl hx (by simp only [List.length_set, hlen]) (by simp only [hlen, h0, gs_self, gs_ne, List.length_set, ne_eq, Nat.reduceEqDiff, Nat.reduceLT, not_false_eq_true]) (by simp only [hlen, h4, gs_self, gs_ne, List.length_set, ne_eq, Nat.reduceEqDiff, Nat.reduceLT, not_false_eq_true]) (by simp only [hlen, gs_self, gs_ne, List.length_set, ne_eq, Nat.reduceEqDiff, Nat.reduceLT, not_false_eq_true]) (by simp only [hlen, gs_self, gs_ne, List.length_set, ne_eq, Nat.reduceEqDiff, Nat.reduceLT, not_false_eq_true]; rfl)
    subst he
    have k0 := hk1 0 (by simp)
    have k3 := hk1 3 (by simp)
    have k4 := hk1 4 (by simp)
    simp only [hlen, h0, h3, h4, gs_self, gs_ne, List.length_set, ne_eq, Nat.reduceEqDiff, Nat.reduceLT, not_false_eq_true] at k0 k3 k4
    have key : ∀ (X : Option (AExit × St)) (tm2 : List AV) (c' : Nat), EvC Try.prog C0 l31_1 (tm2, H) = X → c' = (c + if x ∈ l.take i then 0 else 1) → tm2.length = 34 → tm2.getD 0 undefA = v → tm2.getD 3 undefA = I c' → tm2.getD 4 undefA = I ((i + 1 : Nat) : Int) →
        ∃ tm', X = some (.exit 0, (tm', H)) ∧ tm'.length = 34 ∧ tm'.getD 3 undefA = I ((c + diffF (l.take i) (l.drop i) : Nat) : Int) := by
      intro X tm2 c' e hc' q0 q1 q2 q3
      obtain ⟨tm', he, hl', r3⟩ := ih (i + 1) c' tm2 (by omega) (by omega) (by rw [hc']; split <;> omega) q0 q1 q2 q3
      refine ⟨tm', e.symm.trans he, hl', ?_⟩
      rw [r3, hdx, htk, diffF, hc', Nat.add_assoc]
    by_cases hin : x ∈ l.take i
    · rw [decide_eq_true hin] at k5
      simp -implicitDefEqProofs only [hl1, k0, k3, k4, k5, hw, Bool.not_true, Bool.not_false, Bool.true_and, Bool.and_true, Bool.false_and, Bool.and_false, Bool.true_or, Bool.or_true, Bool.false_or, Bool.or_false, cond_true, cond_false, boolOf_undef, nb, beq_self_eq_true, Bool.and_self, ↓ld3, ↓st3, z3, boolOf_undef, nb, ↓aop_lookup, ↓aop_makeFunc, ↓aop_makeMap, ↓aop_mapUpdate, ↓aop_buildSlice, ↓aop_extract, ↓EvC_seq, ↓EvC_skip, ↓EvC_exit, ↓EvC_ret, ↓EvC_block, ↓EvC_cond, ↓ev_region, ↓runL_cons, ↓runL_nil, ↓stepO_none, ↓stepO_guard, ↓aop_move, ↓aop_assign, ↓aop_load, ↓aop_store, ↓aop_alloc, ↓aop_box, ↓aop_nilCheck, ↓aop_fieldAddr, ↓aop_field, ↓aop_indexAddr, ↓aop_binOp, ↓aop_pick, ↓aop_extract, ↓aop_buildSlice, ↓aop_slice, ↓aop_not, ↓aop_call, ↓callA_len, ↓callA_append, ev_tmp, ev_const, ofV_int, ofV_bool, ofV_str, ofV_nilSlice, ofV_nilPtr, putA_some, putA_none, gs_self, gs_ne, List.length_set, Option.bind_some, Option.map_some, intBinA, evL, evO, evP, ne_eq, not_false_eq_true, if_true, if_false, reduceCtorEq, ite_true, ite_false, reduceIte, put_app, AV.cells, and_true, true_and, and_self, decide_true, decide_false, ↓yielded_eq, yv_some, boolOf_bool, List.getElem?_toArray, List.getElem?_cons_zero, List.getElem?_cons_succ, Nat.reduceLT, Nat.reduceEqDiff, beq_self_eq_true, Option.some_beq_some, wr_app, wr_app0, rd_app, rd_app0, rdL_here, rdL_next, wrL_here, wrL_next, spl, List.all_cons, List.all_nil, AV.one, Bool.and_self, Bool.true_and, List.drop_zero, List.take_succ_cons, List.take_zero, List.drop_succ_cons, List.head?_cons, Nat.reduceAdd, Nat.reduceLeDiff, List.length_cons, List.length_nil, List.nil_append, List.cons_append, List.set_cons_zero, List.set_cons_succ, Int.toNat_natCast, Nat.add_zero, b_ft, b_tf, Bool.false_eq_true]
      exact key _ _ c rfl (by rw [if_pos hin]; rfl) (by simp only [List.length_set, hl1]) (by simp only [hl1, k0, gs_self, gs_ne, List.length_set, ne_eq, Nat.reduceEqDiff, Nat.reduceLT, not_false_eq_true]) (by simp only [hl1, k3, gs_self, gs_ne, List.length_set, ne_eq, Nat.reduceEqDiff, Nat.reduceLT, not_false_eq_true]) (by simp only [hl1, gs_self, gs_ne, List.length_set, ne_eq, Nat.reduceEqDiff, Nat.reduceLT, not_false_eq_true])
    · rw [decide_eq_false hin] at k5
      simp -implicitDefEqProofs only [hl1, k0, k3, k4, k5, hw, hw2, Bool.not_true, Bool.not_false, Bool.true_and, Bool.and_true, Bool.false_and, Bool.and_false, Bool.true_or, Bool.or_true, Bool.false_or, Bool.or_false, cond_true, cond_false, boolOf_undef, nb, beq_self_eq_true, Bool.and_self, ↓ld3, ↓st3, z3, boolOf_undef, nb, ↓aop_lookup, ↓aop_makeFunc, ↓aop_makeMap, ↓aop_mapUpdate, ↓aop_buildSlice, ↓aop_extract, ↓EvC_seq, ↓EvC_skip, ↓EvC_exit, ↓EvC_ret, ↓EvC_block, ↓EvC_cond, ↓ev_region, ↓runL_cons, ↓runL_nil, ↓stepO_none, ↓stepO_guard, ↓aop_move, ↓aop_assign, ↓aop_load, ↓aop_store, ↓aop_alloc, ↓aop_box, ↓aop_nilCheck, ↓aop_fieldAddr, ↓aop_field, ↓aop_indexAddr, ↓aop_binOp, ↓aop_pick, ↓aop_extract, ↓aop_buildSlice, ↓aop_slice, ↓aop_not, ↓aop_call, ↓callA_len, ↓callA_append, ev_tmp, ev_const, ofV_int, ofV_bool, ofV_str, ofV_nilSlice, ofV_nilPtr, putA_some, putA_none, gs_self, gs_ne, List.length_set, Option.bind_some, Option.map_some, intBinA, evL, evO, evP, ne_eq, not_false_eq_true, if_true, if_false, reduceCtorEq, ite_true, ite_false, reduceIte, put_app, AV.cells, and_true, true_and, and_self, decide_true, decide_false, ↓yielded_eq, yv_some, boolOf_bool, List.getElem?_toArray, List.getElem?_cons_zero, List.getElem?_cons_succ, Nat.reduceLT, Nat.reduceEqDiff, beq_self_eq_true, Option.some_beq_some, wr_app, wr_app0, rd_app, rd_app0, rdL_here, rdL_next, wrL_here, wrL_next, spl, List.all_cons, List.all_nil, AV.one, Bool.and_self, Bool.true_and, List.drop_zero, List.take_succ_cons, List.take_zero, List.drop_succ_cons, List.head?_cons, Nat.reduceAdd, Nat.reduceLeDiff, List.length_cons, List.length_nil, List.nil_append, List.cons_append, List.set_cons_zero, List.set_cons_succ, Int.toNat_natCast, Nat.add_zero, b_ft, b_tf, Bool.false_eq_true]
      exact key _ _ (c + 1) rfl (by rw [if_neg hin]) (by simp only [List.length_set, hl1]) (by simp only [hl1, k0, gs_self, gs_ne, List.length_set, ne_eq, Nat.reduceEqDiff, Nat.reduceLT, not_false_eq_true]) (by simp only [hl1, gs_self, gs_ne, List.length_set, ne_eq, Nat.reduceEqDiff, Nat.reduceLT, not_false_eq_true]) (by simp only [hl1, gs_self, gs_ne, List.length_set, ne_eq, Nat.reduceEqDiff, Nat.reduceLT, not_false_eq_true])
theorem dif_out' {H : AH} {v : AV} {l : List Int} {tm : List AV} {X : Option (AExit × St)} (hX : EvC Try.prog C0 l31_1 (tm, H) = X) (hv : IntS H v l) (hl : l.length < 2 ^ 40)
    (hlen : tm.length = 34) (h0 : tm.getD 0 undefA = v) (h3 : tm.getD 3 undefA = I ((0 : Nat) : Int)) (h4 : tm.getD 4 undefA = I ((0 : Nat) : Int)) :
    ∃ tm', X = some (.exit 0, (tm', H)) ∧ tm'.length = 34 ∧ tm'.getD 3 undefA = I (diffF [] l : Nat) := by
  subst hX
  have := dif_out hv hl l.length 0 0 tm (by omega) (by omega) (by omega) hlen h0 h3 h4
  simpa using this
theorem dif_ev {H : AH} {v : AV} {l : List Int} (hv : IntS H v l) (hl : l.length < 2 ^ 40) : Ev Try.prog C0 31 [v] H = some (I (diffF [] l : Nat), H) := by
  have g0 : ([v] ++ List.replicate (34 - [v].length) undefA).length = 34 := by simp
  have g1 : ([v] ++ List.replicate (34 - [v].length) undefA).getD 0 undefA = v := rfl
  rw [fe31]
  generalize [v] ++ List.replicate (34 - [v].length) undefA = tm at *
  simp -implicitDefEqProofs only [c31, Try.f31, Option.getD_some, g0, g1, ↓ld3, ↓st3, z3, boolOf_undef, nb, ↓aop_lookup, ↓aop_makeFunc, ↓aop_makeMap, ↓aop_mapUpdate, ↓aop_buildSlice, ↓aop_extract, ↓EvC_seq, ↓EvC_skip, ↓EvC_exit, ↓EvC_ret, ↓EvC_block, ↓EvC_cond, ↓ev_region, ↓runL_cons, ↓runL_nil, ↓stepO_none, ↓stepO_guard, ↓aop_move, ↓aop_assign, ↓aop_load, ↓aop_store, ↓aop_alloc, ↓aop_box, ↓aop_nilCheck, ↓aop_fieldAddr, ↓aop_field, ↓aop_indexAddr, ↓aop_binOp, ↓aop_pick, ↓aop_extract, ↓aop_buildSlice, ↓aop_slice, ↓aop_not, ↓aop_call, ↓callA_len, ↓callA_append, ev_tmp, ev_const, ofV_int, ofV_bool, ofV_str, ofV_nilSlice, ofV_nilPtr, putA_some, putA_none, gs_self, gs_ne, List.length_set, Option.bind_some, Option.map_some, intBinA, evL, evO, evP, ne_eq, not_false_eq_true, if_true, if_false, reduceCtorEq, ite_true, ite_false, reduceIte, put_app, AV.cells, and_true, true_and, and_self, decide_true, decide_false, ↓yielded_eq, yv_some, boolOf_bool, List.getElem?_toArray, List.getElem?_cons_zero, List.getElem?_cons_succ, Nat.reduceLT, Nat.reduceEqDiff, beq_self_eq_true, Option.some_beq_some, wr_app, wr_app0, rd_app, rd_app0, rdL_here, rdL_next, wrL_here, wrL_next, spl, List.all_cons, List.all_nil, AV.one, Bool.and_self, Bool.true_and, List.drop_zero, List.take_succ_cons, List.take_zero, List.drop_succ_cons, List.head?_cons, Nat.reduceAdd, Nat.reduceLeDiff, List.length_cons, List.length_nil, List.nil_append, List.cons_append, List.set_cons_zero, List.set_cons_succ, Int.toNat_natCast, Nat.add_zero, b_ft, b_tf, Bool.false_eq_true]
  generalize hX : EvC Try.prog C0 (Code.loop _) _ = X
  obtain ⟨tm', he, hl', h3⟩ := dif_out' hX hv hl (by simp only [List.length_set, g0]) (by simp only [g0, g1, gs_self, gs_ne, List.length_set, ne_eq, Nat.reduceEqDiff, Nat.reduceLT, not_false_eq_true]) (by simp only [g0, gs_self, gs_ne, List.length_set, ne_eq, Nat.reduceEqDiff, Nat.reduceLT, not_false_eq_true]; rfl) (by simp only [g0, gs_self, gs_ne, List.length_set, ne_eq, Nat.reduceEqDiff, Nat.reduceLT, not_false_eq_true]; rfl)
  subst he
  simp -implicitDefEqProofs only [hl', h3, ↓ld3, ↓st3, z3, boolOf_undef, nb, ↓aop_lookup, ↓aop_makeFunc, ↓aop_makeMap, ↓aop_mapUpdate, ↓aop_buildSlice, ↓aop_extract, ↓EvC_seq, ↓EvC_skip, ↓EvC_exit, ↓EvC_ret, ↓EvC_block, ↓EvC_cond, ↓ev_region, ↓runL_cons, ↓runL_nil, ↓stepO_none, ↓stepO_guard, ↓aop_move, ↓aop_assign, ↓aop_load, ↓aop_store, ↓aop_alloc, ↓aop_box, ↓aop_nilCheck, ↓aop_fieldAddr, ↓aop_field, ↓aop_indexAddr, ↓aop_binOp, ↓aop_pick, ↓aop_extract, ↓aop_buildSlice, ↓aop_slice, ↓aop_not, ↓aop_call, ↓callA_len, ↓callA_append, ev_tmp, ev_const, ofV_int, ofV_bool, ofV_str, ofV_nilSlice, ofV_nilPtr, putA_some, putA_none, gs_self, gs_ne, List.length_set, Option.bind_some, Option.map_some, intBinA, evL, evO, evP, ne_eq, not_false_eq_true, if_true, if_false, reduceCtorEq, ite_true, ite_false, reduceIte, put_app, AV.cells, and_true, true_and, and_self, decide_true, decide_false, ↓yielded_eq, yv_some, boolOf_bool, List.getElem?_toArray, List.getElem?_cons_zero, List.getElem?_cons_succ, Nat.reduceLT, Nat.reduceEqDiff, beq_self_eq_true, Option.some_beq_some, wr_app, wr_app0, rd_app, rd_app0, rdL_here, rdL_next, wrL_here, wrL_next, spl, List.all_cons, List.all_nil, AV.one, Bool.and_self, Bool.true_and, List.drop_zero, List.take_succ_cons, List.take_zero, List.drop_succ_cons, List.head?_cons, Nat.reduceAdd, Nat.reduceLeDiff, List.length_cons, List.length_nil, List.nil_append, List.cons_append, List.set_cons_zero, List.set_cons_succ, Int.toNat_natCast, Nat.add_zero, b_ft, b_tf, Bool.false_eq_true]
theorem has_ev {H : AH} {v : AV} {xs : List Int} {p : Int} (hv : IntS H v xs) (hl : xs.length < 2 ^ 40) : Ev Try.prog C0 54 [v, I p] H = some (.bool (decide (p ∈ xs)), H) := by
  have h := idx_ev (p := p) hv hl
  have e : decide (idxI xs p ≥ 0) = decide (p ∈ xs) := by
    unfold idxI
    by_cases hp : p ∈ xs
    · rw [if_pos hp, decide_eq_true hp]; simp
    · rw [if_neg hp, decide_eq_false hp]; rfl
  have g0 : ([v, I p] ++ List.replicate (9 - [v, I p].length) undefA).length = 9 := by simp
  have g1 : ([v, I p] ++ List.replicate (9 - [v, I p].length) undefA).getD 0 undefA = v := rfl
  have g2 : ([v, I p] ++ List.replicate (9 - [v, I p].length) undefA).getD 1 undefA = I p := rfl
  rw [fe54]
  generalize [v, I p] ++ List.replicate (9 - [v, I p].length) undefA = tm at *
  simp -implicitDefEqProofs only [c54, Try.f54, Option.getD_some, g0, g1, g2, h, e, ↓fc68, ↓ld3, ↓st3, z3, boolOf_undef, nb, ↓aop_lookup, ↓aop_makeFunc, ↓aop_makeMap, ↓aop_mapUpdate, ↓aop_buildSlice, ↓aop_extract, ↓EvC_seq, ↓EvC_skip, ↓EvC_exit, ↓EvC_ret, ↓EvC_block, ↓EvC_cond, ↓ev_region, ↓runL_cons, ↓runL_nil, ↓stepO_none, ↓stepO_guard, ↓aop_move, ↓aop_assign, ↓aop_load, ↓aop_store, ↓aop_alloc, ↓aop_box, ↓aop_nilCheck, ↓aop_fieldAddr, ↓aop_field, ↓aop_indexAddr, ↓aop_binOp, ↓aop_pick, ↓aop_extract, ↓aop_buildSlice, ↓aop_slice, ↓aop_not, ↓aop_call, ↓callA_len, ↓callA_append, ev_tmp, ev_const, ofV_int, ofV_bool, ofV_str, ofV_nilSlice, ofV_nilPtr, putA_some, putA_none, gs_self, gs_ne, List.length_set, Option.bind_some, Option.map_some, intBinA, evL, evO, evP, ne_eq, not_false_eq_true, if_true, if_false, reduceCtorEq, ite_true, ite_false, reduceIte, put_app, AV.cells, and_true, true_and, and_self, decide_true, decide_false, ↓yielded_eq, yv_some, boolOf_bool, List.getElem?_toArray, List.getElem?_cons_zero, List.getElem?_cons_succ, Nat.reduceLT, Nat.reduceEqDiff, beq_self_eq_true, Option.some_beq_some, wr_app, wr_app0, rd_app, rd_app0, rdL_here, rdL_next, wrL_here, wrL_next, spl, List.all_cons, List.all_nil, AV.one, Bool.and_self, Bool.true_and, List.drop_zero, List.take_succ_cons, List.take_zero, List.drop_succ_cons, List.head?_cons, Nat.reduceAdd, Nat.reduceLeDiff, List.length_cons, List.length_nil, List.nil_append, List.cons_append, List.set_cons_zero, List.set_cons_succ, Int.toNat_natCast, Nat.add_zero, b_ft, b_tf, Bool.false_eq_true]
end Go.Dv

/- image.drop (printed by a program of mine, own work). -/
namespace Go.Dv
open Go.Proofs
set_option maxRecDepth 100000
set_option linter.unusedSimpArgs false
set_option linter.unusedVariables false
attribute [local congr] bind_congr_first


theorem idx_far {rest : List Int} {p : Int} (h : p ∉ rest) : ((rest.length : Nat) : Int) = ((rest.idxOf p : Nat) : Int) := by rw [List.idxOf_eq_length h]
theorem drop_loop {G : AH} {u r : AV} {h rest : List Int} (hu : IntS G u h) (hr : IntS G r rest) (hl : h.length < 2 ^ 39) (hl2 : rest.length < 2 ^ 39) : ∀ (d j w : Nat) (far : Int) (tm : List AV), h.length - j = d → j ≤ h.length →
    tm.length = 35 → tm.getD 0 undefA = u → tm.getD 1 undefA = r → tm.getD 5 undefA = I w → tm.getD 6 undefA = I far → tm.getD 10 undefA = u → tm.getD 11 undefA = I h.length → tm.getD 12 undefA = I j →
    ∃ tm', EvC Try.prog C0 l55_0 (tm, G) = some (.exit 0, (tm', G)) ∧ tm'.length = 35 ∧ tm'.getD 0 undefA = u ∧ tm'.getD 5 undefA = I (farI rest (h.drop j) j w far : Nat) := by
  intro d
  induction d with
  | zero =>
    intro j w far tm hd hj hlen h0 h1 h5 h6 h10 h11 h12
    obtain rfl : j = h.length := by omega
    have hlt : decide ((h.length : Int) < (h.length : Int)) = false := by simp
    rw [el55_0]
    simp -implicitDefEqProofs only [b55_0, atPath, Try.f55, Option.getD_some, hlen, h0, h11, h12, hlt, ↓ld3, ↓st3, z3, boolOf_undef, nb, ↓aop_lookup, ↓aop_makeFunc, ↓aop_makeMap, ↓aop_mapUpdate, ↓aop_buildSlice, ↓aop_extract, ↓EvC_seq, ↓EvC_skip, ↓EvC_exit, ↓EvC_ret, ↓EvC_block, ↓EvC_cond, ↓ev_region, ↓runL_cons, ↓runL_nil, ↓stepO_none, ↓stepO_guard, ↓aop_move, ↓aop_assign, ↓aop_load, ↓aop_store, ↓aop_alloc, ↓aop_box, ↓aop_nilCheck, ↓aop_fieldAddr, ↓aop_field, ↓aop_indexAddr, ↓aop_binOp, ↓aop_pick, ↓aop_extract, ↓aop_buildSlice, ↓aop_slice, ↓aop_not, ↓aop_call, ↓callA_len, ↓callA_append, ev_tmp, ev_const, ofV_int, ofV_bool, ofV_str, ofV_nilSlice, ofV_nilPtr, putA_some, putA_none, gs_self, gs_ne, List.length_set, Option.bind_some, Option.map_some, intBinA, evL, evO, evP, ne_eq, not_false_eq_true, if_true, if_false, reduceCtorEq, ite_true, ite_false, reduceIte, put_app, AV.cells, and_true, true_and, and_self, decide_true, decide_false, ↓yielded_eq, yv_some, boolOf_bool, List.getElem?_toArray, List.getElem?_cons_zero, List.getElem?_cons_succ, Nat.reduceLT, Nat.reduceEqDiff, beq_self_eq_true, Option.some_beq_some, wr_app, wr_app0, rd_app, rd_app0, rdL_here, rdL_next, wrL_here, wrL_next, spl, List.all_cons, List.all_nil, AV.one, Bool.and_self, Bool.true_and, List.drop_zero, List.take_succ_cons, List.take_zero, List.drop_succ_cons, List.head?_cons, Nat.reduceAdd, Nat.reduceLeDiff, List.length_cons, List.length_nil, List.nil_append, List.cons_append, List.set_cons_zero, List.set_cons_succ, Int.toNat_natCast, Nat.add_zero, b_ft, b_tf, Bool.false_eq_true]
    exact ⟨_, rfl, by simp only [List.length_set, hlen], by simp only [hlen, h0, gs_self, gs_ne, List.length_set, ne_eq, Nat.reduceEqDiff, Nat.reduceLT, not_false_eq_true], by rw [List.drop_length]; simp only [hlen, h5, farI, gs_self, gs_ne, List.length_set, ne_eq, Nat.reduceEqDiff, Nat.reduceLT, not_false_eq_true]⟩
  | succ d ih =>
    intro j w far tm hd hj hlen h0 h1 h5 h6 h10 h11 h12
    obtain ⟨p, hp⟩ := get_of (xs := h) (j := j) (by omega)
    obtain ⟨i1, k1, hi1, hr1⟩ := hu.ix j p hp
    have hlt : decide ((j : Int) < (h.length : Int)) = true := by simp; omega
    have hw := inc_i (j := j) (by omega)
    have hdx := drop_at hp
    have hla := hr.len
    have hix := idx_ev (p := p) hr (by omega)
    have key : ∀ (X : Option (AExit × St)) (tm2 : List AV) (w' : Nat) (far' : Int), EvC Try.prog C0 l55_0 (tm2, G) = X → farI rest (h.drop (j + 1)) (j + 1) w' far' = farI rest (h.drop j) j w far → tm2.length = 35 → tm2.getD 0 undefA = u → tm2.getD 1 undefA = r → tm2.getD 5 undefA = I w' → tm2.getD 6 undefA = I far' → tm2.getD 10 undefA = u → tm2.getD 11 undefA = I h.length → tm2.getD 12 undefA = I ((j + 1 : Nat) : Int) →
        ∃ tm', X = some (.exit 0, (tm', G)) ∧ tm'.length = 35 ∧ tm'.getD 0 undefA = u ∧ tm'.getD 5 undefA = I (farI rest (h.drop j) j w far : Nat) := by
      intro X tm2 w' far' e ef q0 q1 q2 q3 q4 q5 q6 q7
      obtain ⟨tm', he, hl', r0, r5⟩ := ih (j + 1) w' far' tm2 (by omega) (by omega) q0 q1 q2 q3 q4 q5 q6 q7
      exact ⟨tm', e.symm.trans he, hl', r0, by rw [r5, ef]⟩
    have fin : ∀ (at' : Int), at' = ((rest.idxOf p : Nat) : Int) → (at' > far → farI rest (h.drop (j + 1)) (j + 1) j at' = farI rest (h.drop j) j w far) ∧ (¬ at' > far → farI rest (h.drop (j + 1)) (j + 1) w far = farI rest (h.drop j) j w far) := by
      intro at' e
      subst e
      rw [hdx]
      exact ⟨fun h => by rw [farI, if_pos h], fun h => by rw [farI, if_neg h]⟩
    by_cases hin : p ∈ rest
    · rw [show idxI rest p = (rest.idxOf p : Nat) from if_pos hin] at hix
      have q1 : decide (((rest.idxOf p : Nat) : Int) < 0) = false := by simp
      have hf := fin _ rfl
      generalize ((rest.idxOf p : Nat) : Int) = at' at *
      rw [el55_0]
      by_cases hg : at' > far
      · have q2 : decide (at' > far) = true := decide_eq_true hg
        simp -implicitDefEqProofs only [b55_0, atPath, Try.f55, Option.getD_some, hlen, h0, h1, h5, h6, h10, h11, h12, hlt, hw, hi1, hr1, hix, q1, q2, ↓fc68, ↓ld3, ↓st3, z3, boolOf_undef, nb, ↓aop_lookup, ↓aop_makeFunc, ↓aop_makeMap, ↓aop_mapUpdate, ↓aop_buildSlice, ↓aop_extract, ↓EvC_seq, ↓EvC_skip, ↓EvC_exit, ↓EvC_ret, ↓EvC_block, ↓EvC_cond, ↓ev_region, ↓runL_cons, ↓runL_nil, ↓stepO_none, ↓stepO_guard, ↓aop_move, ↓aop_assign, ↓aop_load, ↓aop_store, ↓aop_alloc, ↓aop_box, ↓aop_nilCheck, ↓aop_fieldAddr, ↓aop_field, ↓aop_indexAddr, ↓aop_binOp, ↓aop_pick, ↓aop_extract, ↓aop_buildSlice, ↓aop_slice, ↓aop_not, ↓aop_call, ↓callA_len, ↓callA_append, ev_tmp, ev_const, ofV_int, ofV_bool, ofV_str, ofV_nilSlice, ofV_nilPtr, putA_some, putA_none, gs_self, gs_ne, List.length_set, Option.bind_some, Option.map_some, intBinA, evL, evO, evP, ne_eq, not_false_eq_true, if_true, if_false, reduceCtorEq, ite_true, ite_false, reduceIte, put_app, AV.cells, and_true, true_and, and_self, decide_true, decide_false, ↓yielded_eq, yv_some, boolOf_bool, List.getElem?_toArray, List.getElem?_cons_zero, List.getElem?_cons_succ, Nat.reduceLT, Nat.reduceEqDiff, beq_self_eq_true, Option.some_beq_some, wr_app, wr_app0, rd_app, rd_app0, rdL_here, rdL_next, wrL_here, wrL_next, spl, List.all_cons, List.all_nil, AV.one, Bool.and_self, Bool.true_and, List.drop_zero, List.take_succ_cons, List.take_zero, List.drop_succ_cons, List.head?_cons, Nat.reduceAdd, Nat.reduceLeDiff, List.length_cons, List.length_nil, List.nil_append, List.cons_append, List.set_cons_zero, List.set_cons_succ, Int.toNat_natCast, Nat.add_zero, b_ft, b_tf, Bool.false_eq_true]
        refine key _ _ j at' rfl (hf.1 hg) ?_ ?_ ?_ ?_ ?_ ?_ ?_ ?_
        all_goals simp only [List.length_set, hlen, h0, h1, h5, h6, h10, h11, gs_self, gs_ne, List.length_set, ne_eq, Nat.reduceEqDiff, Nat.reduceLT, not_false_eq_true]
      · have q2 : decide (at' > far) = false := decide_eq_false hg
        simp -implicitDefEqProofs only [b55_0, atPath, Try.f55, Option.getD_some, hlen, h0, h1, h5, h6, h10, h11, h12, hlt, hw, hi1, hr1, hix, q1, q2, ↓fc68, ↓ld3, ↓st3, z3, boolOf_undef, nb, ↓aop_lookup, ↓aop_makeFunc, ↓aop_makeMap, ↓aop_mapUpdate, ↓aop_buildSlice, ↓aop_extract, ↓EvC_seq, ↓EvC_skip, ↓EvC_exit, ↓EvC_ret, ↓EvC_block, ↓EvC_cond, ↓ev_region, ↓runL_cons, ↓runL_nil, ↓stepO_none, ↓stepO_guard, ↓aop_move, ↓aop_assign, ↓aop_load, ↓aop_store, ↓aop_alloc, ↓aop_box, ↓aop_nilCheck, ↓aop_fieldAddr, ↓aop_field, ↓aop_indexAddr, ↓aop_binOp, ↓aop_pick, ↓aop_extract, ↓aop_buildSlice, ↓aop_slice, ↓aop_not, ↓aop_call, ↓callA_len, ↓callA_append, ev_tmp, ev_const, ofV_int, ofV_bool, ofV_str, ofV_nilSlice, ofV_nilPtr, putA_some, putA_none, gs_self, gs_ne, List.length_set, Option.bind_some, Option.map_some, intBinA, evL, evO, evP, ne_eq, not_false_eq_true, if_true, if_false, reduceCtorEq, ite_true, ite_false, reduceIte, put_app, AV.cells, and_true, true_and, and_self, decide_true, decide_false, ↓yielded_eq, yv_some, boolOf_bool, List.getElem?_toArray, List.getElem?_cons_zero, List.getElem?_cons_succ, Nat.reduceLT, Nat.reduceEqDiff, beq_self_eq_true, Option.some_beq_some, wr_app, wr_app0, rd_app, rd_app0, rdL_here, rdL_next, wrL_here, wrL_next, spl, List.all_cons, List.all_nil, AV.one, Bool.and_self, Bool.true_and, List.drop_zero, List.take_succ_cons, List.take_zero, List.drop_succ_cons, List.head?_cons, Nat.reduceAdd, Nat.reduceLeDiff, List.length_cons, List.length_nil, List.nil_append, List.cons_append, List.set_cons_zero, List.set_cons_succ, Int.toNat_natCast, Nat.add_zero, b_ft, b_tf, Bool.false_eq_true]
        refine key _ _ w far rfl (hf.2 hg) ?_ ?_ ?_ ?_ ?_ ?_ ?_ ?_
        all_goals simp only [List.length_set, hlen, h0, h1, h5, h6, h10, h11, gs_self, gs_ne, List.length_set, ne_eq, Nat.reduceEqDiff, Nat.reduceLT, not_false_eq_true]
    · rw [show idxI rest p = -1 from if_neg hin] at hix
      have q1 : decide ((-1 : Int) < 0) = true := by simp
      have hf := fin _ (idx_far hin)
      generalize ((rest.length : Nat) : Int) = at' at *
      rw [el55_0]
      by_cases hg : at' > far
      · have q2 : decide (at' > far) = true := decide_eq_true hg
        simp -implicitDefEqProofs only [b55_0, atPath, Try.f55, Option.getD_some, hlen, h0, h1, h5, h6, h10, h11, h12, hlt, hw, hi1, hr1, hix, hla, q1, q2, ↓fc68, ↓ld3, ↓st3, z3, boolOf_undef, nb, ↓aop_lookup, ↓aop_makeFunc, ↓aop_makeMap, ↓aop_mapUpdate, ↓aop_buildSlice, ↓aop_extract, ↓EvC_seq, ↓EvC_skip, ↓EvC_exit, ↓EvC_ret, ↓EvC_block, ↓EvC_cond, ↓ev_region, ↓runL_cons, ↓runL_nil, ↓stepO_none, ↓stepO_guard, ↓aop_move, ↓aop_assign, ↓aop_load, ↓aop_store, ↓aop_alloc, ↓aop_box, ↓aop_nilCheck, ↓aop_fieldAddr, ↓aop_field, ↓aop_indexAddr, ↓aop_binOp, ↓aop_pick, ↓aop_extract, ↓aop_buildSlice, ↓aop_slice, ↓aop_not, ↓aop_call, ↓callA_len, ↓callA_append, ev_tmp, ev_const, ofV_int, ofV_bool, ofV_str, ofV_nilSlice, ofV_nilPtr, putA_some, putA_none, gs_self, gs_ne, List.length_set, Option.bind_some, Option.map_some, intBinA, evL, evO, evP, ne_eq, not_false_eq_true, if_true, if_false, reduceCtorEq, ite_true, ite_false, reduceIte, put_app, AV.cells, and_true, true_and, and_self, decide_true, decide_false, ↓yielded_eq, yv_some, boolOf_bool, List.getElem?_toArray, List.getElem?_cons_zero, List.getElem?_cons_succ, Nat.reduceLT, Nat.reduceEqDiff, beq_self_eq_true, Option.some_beq_some, wr_app, wr_app0, rd_app, rd_app0, rdL_here, rdL_next, wrL_here, wrL_next, spl, List.all_cons, List.all_nil, AV.one, Bool.and_self, Bool.true_and, List.drop_zero, List.take_succ_cons, List.take_zero, List.drop_succ_cons, List.head?_cons, Nat.reduceAdd, Nat.reduceLeDiff, List.length_cons, List.length_nil, List.nil_append, List.cons_append, List.set_cons_zero, List.set_cons_succ, Int.toNat_natCast, Nat.add_zero, b_ft, b_tf, Bool.false_eq_true]
        refine key _ _ j at' rfl (hf.1 hg) ?_ ?_ ?_ ?_ ?_ ?_ ?_ ?_
        all_goals simp only [List.length_set, hlen, h0, h1, h5, h6, h10, h11, gs_self, gs_ne, List.length_set, ne_eq, Nat.reduceEqDiff, Nat.reduceLT, not_false_eq_true]
      · have q2 : decide (at' > far) = false := decide_eq_false hg
        simp -implicitDefEqProofs only [b55_0, atPath, Try.f55, Option.getD_some, hlen, h0, h1, h5, h6, h10, h11, h12, hlt, hw, hi1, hr1, hix, hla, q1, q2, ↓fc68, ↓ld3, ↓st3, z3, boolOf_undef, nb, ↓aop_lookup, ↓aop_makeFunc, ↓aop_makeMap, ↓aop_mapUpdate, ↓aop_buildSlice, ↓aop_extract, ↓EvC_seq, ↓EvC_skip, ↓EvC_exit, ↓EvC_ret, ↓EvC_block, ↓EvC_cond, ↓ev_region, ↓runL_cons, ↓runL_nil, ↓stepO_none, ↓stepO_guard, ↓aop_move, ↓aop_assign, ↓aop_load, ↓aop_store, ↓aop_alloc, ↓aop_box, ↓aop_nilCheck, ↓aop_fieldAddr, ↓aop_field, ↓aop_indexAddr, ↓aop_binOp, ↓aop_pick, ↓aop_extract, ↓aop_buildSlice, ↓aop_slice, ↓aop_not, ↓aop_call, ↓callA_len, ↓callA_append, ev_tmp, ev_const, ofV_int, ofV_bool, ofV_str, ofV_nilSlice, ofV_nilPtr, putA_some, putA_none, gs_self, gs_ne, List.length_set, Option.bind_some, Option.map_some, intBinA, evL, evO, evP, ne_eq, not_false_eq_true, if_true, if_false, reduceCtorEq, ite_true, ite_false, reduceIte, put_app, AV.cells, and_true, true_and, and_self, decide_true, decide_false, ↓yielded_eq, yv_some, boolOf_bool, List.getElem?_toArray, List.getElem?_cons_zero, List.getElem?_cons_succ, Nat.reduceLT, Nat.reduceEqDiff, beq_self_eq_true, Option.some_beq_some, wr_app, wr_app0, rd_app, rd_app0, rdL_here, rdL_next, wrL_here, wrL_next, spl, List.all_cons, List.all_nil, AV.one, Bool.and_self, Bool.true_and, List.drop_zero, List.take_succ_cons, List.take_zero, List.drop_succ_cons, List.head?_cons, Nat.reduceAdd, Nat.reduceLeDiff, List.length_cons, List.length_nil, List.nil_append, List.cons_append, List.set_cons_zero, List.set_cons_succ, Int.toNat_natCast, Nat.add_zero, b_ft, b_tf, Bool.false_eq_true]
        refine key _ _ w far rfl (hf.2 hg) ?_ ?_ ?_ ?_ ?_ ?_ ?_ ?_
        all_goals simp only [List.length_set, hlen, h0, h1, h5, h6, h10, h11, gs_self, gs_ne, List.length_set, ne_eq, Nat.reduceEqDiff, Nat.reduceLT, not_false_eq_true]
theorem drop_loop' {G : AH} {u r : AV} {h rest : List Int} {tm : List AV} {X : Option (AExit × St)} (hX : EvC Try.prog C0 l55_0 (tm, G) = X) (hu : IntS G u h) (hr : IntS G r rest) (hl : h.length < 2 ^ 39) (hl2 : rest.length < 2 ^ 39)
    (hlen : tm.length = 35) (h0 : tm.getD 0 undefA = u) (h1 : tm.getD 1 undefA = r) (h5 : tm.getD 5 undefA = I ((0 : Nat) : Int)) (h6 : tm.getD 6 undefA = I (-1)) (h10 : tm.getD 10 undefA = u) (h11 : tm.getD 11 undefA = I h.length) (h12 : tm.getD 12 undefA = I ((0 : Nat) : Int)) :
    ∃ tm', X = some (.exit 0, (tm', G)) ∧ tm'.length = 35 ∧ tm'.getD 0 undefA = u ∧ tm'.getD 5 undefA = I (worst rest h : Nat) := by
  subst hX
  exact drop_loop hu hr hl hl2 h.length 0 0 (-1) tm (by omega) (by omega) hlen h0 h1 h5 h6 h10 h11 h12
/-- image.drop leaves out the page that is needed last -/
theorem drop_ev {G : AH} {b : Nat} {r : AV} {h rest : List Int} (hb : G[b]? = some (.cells (ii h) 3)) (hne : h ≠ []) (hr : IntS G r rest) (hl : h.length < 2 ^ 39) (hl2 : rest.length < 2 ^ 39) :
    ∃ L, Ev Try.prog C0 55 [ov b h.length, r] G = some (.slice b 0 1 (h.length - 1) h.length false, G.set b (.cells (ii (h.eraseIdx (worst rest h) ++ [0])) 3) ++ L) := by
  have hu : IntS G (ov b h.length) h := by
    have := HS.ints (b0 := 0) (G := G) (h := h) (b := b) ⟨fun _ => Nat.zero_le _, fun _ => hb⟩
    rwa [hV_cons hne] at this
  have hw := (worst_spec rest h hne).1
  obtain ⟨L, hd⟩ := del_ev hb hw hl
  have hlu := hu.len
  have hinc := inc_i (j := worst rest h) (by omega)
  have g0 : ([ov b h.length, r] ++ List.replicate (35 - [ov b h.length, r].length) undefA).length = 35 := by simp
  have g1 : ([ov b h.length, r] ++ List.replicate (35 - [ov b h.length, r].length) undefA).getD 0 undefA = ov b h.length := rfl
  have g2 : ([ov b h.length, r] ++ List.replicate (35 - [ov b h.length, r].length) undefA).getD 1 undefA = r := rfl
  rw [fe55]
  generalize [ov b h.length, r] ++ List.replicate (35 - [ov b h.length, r].length) undefA = tm at *
  refine ⟨L, ?_⟩
  simp -implicitDefEqProofs only [c55, Try.f55, Option.getD_some, g0, g1, g2, hlu, ↓ld3, ↓st3, z3, boolOf_undef, nb, ↓aop_lookup, ↓aop_makeFunc, ↓aop_makeMap, ↓aop_mapUpdate, ↓aop_buildSlice, ↓aop_extract, ↓EvC_seq, ↓EvC_skip, ↓EvC_exit, ↓EvC_ret, ↓EvC_block, ↓EvC_cond, ↓ev_region, ↓runL_cons, ↓runL_nil, ↓stepO_none, ↓stepO_guard, ↓aop_move, ↓aop_assign, ↓aop_load, ↓aop_store, ↓aop_alloc, ↓aop_box, ↓aop_nilCheck, ↓aop_fieldAddr, ↓aop_field, ↓aop_indexAddr, ↓aop_binOp, ↓aop_pick, ↓aop_extract, ↓aop_buildSlice, ↓aop_slice, ↓aop_not, ↓aop_call, ↓callA_len, ↓callA_append, ev_tmp, ev_const, ofV_int, ofV_bool, ofV_str, ofV_nilSlice, ofV_nilPtr, putA_some, putA_none, gs_self, gs_ne, List.length_set, Option.bind_some, Option.map_some, intBinA, evL, evO, evP, ne_eq, not_false_eq_true, if_true, if_false, reduceCtorEq, ite_true, ite_false, reduceIte, put_app, AV.cells, and_true, true_and, and_self, decide_true, decide_false, ↓yielded_eq, yv_some, boolOf_bool, List.getElem?_toArray, List.getElem?_cons_zero, List.getElem?_cons_succ, Nat.reduceLT, Nat.reduceEqDiff, beq_self_eq_true, Option.some_beq_some, wr_app, wr_app0, rd_app, rd_app0, rdL_here, rdL_next, wrL_here, wrL_next, spl, List.all_cons, List.all_nil, AV.one, Bool.and_self, Bool.true_and, List.drop_zero, List.take_succ_cons, List.take_zero, List.drop_succ_cons, List.head?_cons, Nat.reduceAdd, Nat.reduceLeDiff, List.length_cons, List.length_nil, List.nil_append, List.cons_append, List.set_cons_zero, List.set_cons_succ, Int.toNat_natCast, Nat.add_zero, b_ft, b_tf, Bool.false_eq_true]
  generalize hX : EvC Try.prog C0 (Code.loop _) _ = X
  obtain ⟨tm', he, hl', h0, h5⟩ := drop_loop' hX hu hr hl hl2 (by simp only [List.length_set, g0]) (by simp only [g0, g1, gs_self, gs_ne, List.length_set, ne_eq, Nat.reduceEqDiff, Nat.reduceLT, not_false_eq_true]) (by simp only [g0, g2, gs_self, gs_ne, List.length_set, ne_eq, Nat.reduceEqDiff, Nat.reduceLT, not_false_eq_true]) (by simp only [g0, gs_self, gs_ne, List.length_set, ne_eq, Nat.reduceEqDiff, Nat.reduceLT, not_false_eq_true]; rfl) (by simp only [g0, gs_self, gs_ne, List.length_set, ne_eq, Nat.reduceEqDiff, Nat.reduceLT, not_false_eq_true]) (by simp only [g0, gs_self, gs_ne, List.length_set, ne_eq, Nat.reduceEqDiff, Nat.reduceLT, not_false_eq_true]) (by simp only [g0, gs_self, gs_ne, List.length_set, ne_eq, Nat.reduceEqDiff, Nat.reduceLT, not_false_eq_true]) (by simp only [g0, gs_self, gs_ne, List.length_set, ne_eq, Nat.reduceEqDiff, Nat.reduceLT, not_false_eq_true]; rfl)
  subst he
  simp -implicitDefEqProofs only [hl', h0, h5, hinc, hd, ↓fc69, ↓ld3, ↓st3, z3, boolOf_undef, nb, ↓aop_lookup, ↓aop_makeFunc, ↓aop_makeMap, ↓aop_mapUpdate, ↓aop_buildSlice, ↓aop_extract, ↓EvC_seq, ↓EvC_skip, ↓EvC_exit, ↓EvC_ret, ↓EvC_block, ↓EvC_cond, ↓ev_region, ↓runL_cons, ↓runL_nil, ↓stepO_none, ↓stepO_guard, ↓aop_move, ↓aop_assign, ↓aop_load, ↓aop_store, ↓aop_alloc, ↓aop_box, ↓aop_nilCheck, ↓aop_fieldAddr, ↓aop_field, ↓aop_indexAddr, ↓aop_binOp, ↓aop_pick, ↓aop_extract, ↓aop_buildSlice, ↓aop_slice, ↓aop_not, ↓aop_call, ↓callA_len, ↓callA_append, ev_tmp, ev_const, ofV_int, ofV_bool, ofV_str, ofV_nilSlice, ofV_nilPtr, putA_some, putA_none, gs_self, gs_ne, List.length_set, Option.bind_some, Option.map_some, intBinA, evL, evO, evP, ne_eq, not_false_eq_true, if_true, if_false, reduceCtorEq, ite_true, ite_false, reduceIte, put_app, AV.cells, and_true, true_and, and_self, decide_true, decide_false, ↓yielded_eq, yv_some, boolOf_bool, List.getElem?_toArray, List.getElem?_cons_zero, List.getElem?_cons_succ, Nat.reduceLT, Nat.reduceEqDiff, beq_self_eq_true, Option.some_beq_some, wr_app, wr_app0, rd_app, rd_app0, rdL_here, rdL_next, wrL_here, wrL_next, spl, List.all_cons, List.all_nil, AV.one, Bool.and_self, Bool.true_and, List.drop_zero, List.take_succ_cons, List.take_zero, List.drop_succ_cons, List.head?_cons, Nat.reduceAdd, Nat.reduceLeDiff, List.length_cons, List.length_nil, List.nil_append, List.cons_append, List.set_cons_zero, List.set_cons_succ, Int.toNat_natCast, Nat.add_zero, b_ft, b_tf, Bool.false_eq_true]
end Go.Dv

/- image.Least (printed by a program of mine, own work). -/
namespace Go.Dv
open Go.Proofs
set_option maxRecDepth 100000
set_option linter.unusedSimpArgs false
set_option linter.unusedVariables false
attribute [local congr] bind_congr_first


/-- a slice of ints that can be cut behind a place -/
structure IntV (H : AH) (v : AV) (xs : List Int) : Prop extends IntS H v xs where
  cut : ∀ n, n ≤ xs.length → ∃ v', (∀ G, sliceA Try.prog 46 G v (some (I n)) none none = some v') ∧ IntS H v' (xs.drop n)
theorem IntV.same {H G : AH} {v : AV} {xs : List Int} (h : IntV H v xs) (hs : ∀ j, j < H.length → G[j]? = H[j]?) : IntV G v xs :=
  ⟨h.toIntS.same hs, fun n hn => by obtain ⟨v', h1, h2⟩ := h.cut n hn; exact ⟨v', h1, h2.same hs⟩⟩
structure LeastInv (G0 : AH) (v : AV) (n f : Nat) (tm : List AV) (G : AH) (h : List Int) (c j b : Nat) : Prop where
  len : tm.length = 54
  t0 : tm.getD 0 undefA = v
  t1 : tm.getD 1 undefA = I f
  t9 : tm.getD 9 undefA = hV h b
  t10 : tm.getD 10 undefA = I c
  t26 : tm.getD 26 undefA = v
  t27 : tm.getD 27 undefA = I n
  t28 : tm.getD 28 undefA = I j
  hs : HS G0.length G h b
  keep : ∀ j, j < G0.length → G[j]? = G0[j]?
  big : G0.length ≤ G.length
  hl : h.length ≤ f
  hc : c ≤ j
set_option maxHeartbeats 1000000 in
theorem least_round {G0 : AH} {v : AV} {t : List Int} {f : Nat} {tm : List AV} {G : AH} {h : List Int} {c j b : Nat} {p : Int} (hv : IntV G0 v t) (ht : t.length < 2 ^ 38) (hf0 : 0 < f) (hf : f ≤ 64) (hp : t[j]? = some p) (hI : LeastInv G0 v t.length f tm G h c j b) :
    ∀ X, EvC Try.prog C0 l27_0 (tm, G) = X → ∃ tm' G' b', EvC Try.prog C0 l27_0 (tm', G') = X ∧ LeastInv G0 v t.length f tm' G' (belS f h p (t.drop (j + 1))).1 (if (belS f h p (t.drop (j + 1))).2 then c + 1 else c) (j + 1) b' := by
  intro X hX
  have hjl := lt_of_get hp
  have hl := hI.hl
  have hcj := hI.hc
  have hvG := hv.same hI.keep
  obtain ⟨i1, k1, hi1, hr1⟩ := hvG.ix j p hp
  have hlt : decide ((j : Int) < (t.length : Int)) = true := by simp; omega
  have hw := inc_i (j := j) (by omega)
  have hw2 := inc_i (j := c) (by omega)
  have hlen := hI.len
  have h0 := hI.t0
  have h1 := hI.t1
  have h9 := hI.t9
  have h10 := hI.t10
  have h26 := hI.t26
  have h27 := hI.t27
  have h28 := hI.t28
  have hbl' := bel_len hf0 hl p (t.drop (j + 1))
  have hlh := hI.hs.ints.len G
  have mk : ∀ (tm' : List AV) (G' : AH) (h' : List Int) (c' b' : Nat), tm'.length = 54 → tm'.getD 0 undefA = v → tm'.getD 1 undefA = I f → tm'.getD 9 undefA = hV h' b' → tm'.getD 10 undefA = I c' → tm'.getD 26 undefA = v → tm'.getD 27 undefA = I t.length → tm'.getD 28 undefA = I ((j + 1 : Nat) : Int) → UseTo G0.length G h' G' b' → h'.length ≤ f → c' ≤ j + 1 → LeastInv G0 v t.length f tm' G' h' c' (j + 1) b' := by
    intro tm' G' h' c' b' a1 a2 a3 a4 a5 a6 a7 a8 a9 a10 a11
    exact ⟨a1, a2, a3, a4, a5, a6, a7, a8, a9.1, fun i hi => (a9.2.1 i hi).trans (hI.keep i hi), Nat.le_trans hI.big a9.2.2, a10, a11⟩
  have hhas := has_ev (p := p) hI.hs.ints (by omega)
  unfold belS at hbl' ⊢
  by_cases hph : p ∈ h
  · rw [decide_eq_true hph] at hhas
    rw [if_pos hph] at hbl' ⊢
    simp only [Bool.false_eq_true, if_false]
    rw [el27_0] at hX
    simp -implicitDefEqProofs only [b27_0, atPath, Try.f27, Option.getD_some, hlen, h0, h1, h9, h10, h26, h27, h28, hlt, hw, hi1, hr1, hhas, ↓fc54, ↓ld3, ↓st3, z3, boolOf_undef, nb, ↓aop_lookup, ↓aop_makeFunc, ↓aop_makeMap, ↓aop_mapUpdate, ↓aop_buildSlice, ↓aop_extract, ↓EvC_seq, ↓EvC_skip, ↓EvC_exit, ↓EvC_ret, ↓EvC_block, ↓EvC_cond, ↓ev_region, ↓runL_cons, ↓runL_nil, ↓stepO_none, ↓stepO_guard, ↓aop_move, ↓aop_assign, ↓aop_load, ↓aop_store, ↓aop_alloc, ↓aop_box, ↓aop_nilCheck, ↓aop_fieldAddr, ↓aop_field, ↓aop_indexAddr, ↓aop_binOp, ↓aop_pick, ↓aop_extract, ↓aop_buildSlice, ↓aop_slice, ↓aop_not, ↓aop_call, ↓callA_len, ↓callA_append, ev_tmp, ev_const, ofV_int, ofV_bool, ofV_str, ofV_nilSlice, ofV_nilPtr, putA_some, putA_none, gs_self, gs_ne, List.length_set, Option.bind_some, Option.map_some, intBinA, evL, evO, evP, ne_eq, not_false_eq_true, if_true, if_false, reduceCtorEq, ite_true, ite_false, reduceIte, put_app, AV.cells, and_true, true_and, and_self, decide_true, decide_false, ↓yielded_eq, yv_some, boolOf_bool, List.getElem?_toArray, List.getElem?_cons_zero, List.getElem?_cons_succ, Nat.reduceLT, Nat.reduceEqDiff, beq_self_eq_true, Option.some_beq_some, wr_app, wr_app0, rd_app, rd_app0, rdL_here, rdL_next, wrL_here, wrL_next, spl, List.all_cons, List.all_nil, AV.one, Bool.and_self, Bool.true_and, List.drop_zero, List.take_succ_cons, List.take_zero, List.drop_succ_cons, List.head?_cons, Nat.reduceAdd, Nat.reduceLeDiff, List.length_cons, List.length_nil, List.nil_append, List.cons_append, List.set_cons_zero, List.set_cons_succ, Int.toNat_natCast, Nat.add_zero, b_ft, b_tf, Bool.false_eq_true] at hX
    refine ⟨_, G, b, hX, mk _ _ _ _ _ ?_ ?_ ?_ ?_ ?_ ?_ ?_ ?_ ⟨hI.hs, fun _ _ => rfl, Nat.le_refl _⟩ hl (by omega)⟩
    all_goals simp only [List.length_set, hlen, h0, h1, h9, h10, h26, h27, gs_self, gs_ne, List.length_set, ne_eq, Nat.reduceEqDiff, Nat.reduceLT, not_false_eq_true]
  · rw [decide_eq_false hph] at hhas
    rw [if_neg hph] at hbl' ⊢
    simp only [if_true]
    by_cases hff : h.length = f
    · rw [if_pos hff] at hbl' ⊢
      have q1 : ((h.length : Int) == (f : Int)) = true := by simp; omega
      have hne : h ≠ [] := by intro e; subst e; simp at hff; omega
      have hb := hI.hs.at' hne
      have hgl := lt_of_get hb
      obtain ⟨r, hcut, hrS⟩ := hvG.cut (j + 1) (by omega)
      obtain ⟨L, hd⟩ := drop_ev hb hne hrS (by omega) (by rw [List.length_drop]; omega)
      have hwr := (worst_spec (t.drop (j + 1)) h hne).1
      have hpe := erase_len hwr
      generalize hE : h.eraseIdx (worst (t.drop (j + 1)) h) = E at *
      generalize hG1 : G.set b (.cells (ii (E ++ [0])) 3) ++ L = G1 at hd
      have hl1 : G.length ≤ G1.length := by rw [← hG1]; simp
      have hb1 : G1[b]? = some (.cells (ii (E ++ [0])) 3) := by
        rw [← hG1, List.getElem?_append_left (by simpa using hgl), List.getElem?_set_self hgl]
      have hb2 : (G1 ++ [AObj.cells (ii [p]) 3])[b]? = some (.cells (ii (E ++ [0])) 3) := by rw [List.getElem?_append_left (by omega)]; exact hb1
      have hr : rdCells (G1 ++ [AObj.cells (ii [p]) 3]) G1.length 0 1 = some (ii [p]) := by
        have : (G1 ++ [AObj.cells (ii [p]) 3])[G1.length]? = some (.cells (ii [p]) 3) := by simp
        exact rd_at this rfl
      have hpos := List.length_pos_iff.2 hne
      have e3 : appendA Try.prog none 46 (some 46) (.slice b 0 1 (h.length - 1) h.length false) (.slice G1.length 0 1 1 1 true) (G1 ++ [AObj.cells (ii [p]) 3]) = some (ov b h.length, (G1 ++ [AObj.cells (ii [p]) 3]).set b (.cells (ii (E ++ [p])) 3)) := by
        rw [app_in hr (by omega) hb2 (by simp only [List.length_append, List.length_cons, List.length_nil]; omega) (by omega)]
        rw [show h.length - 1 + 1 = h.length by omega, show 0 + (h.length - 1) = E.length by omega, List.take_append_of_le_length (Nat.le_refl _), List.take_length, List.drop_of_length_le (l := E ++ [0]) (by simp), List.append_nil]
      have e1 := bs46 G1 p
      have hu : UseTo G0.length G (E ++ [p]) ((G1 ++ [AObj.cells (ii [p]) 3]).set b (.cells (ii (E ++ [p])) 3)) b := by
        have hge := hI.hs.ge hne
        have hbig := hI.big
        refine ⟨⟨fun _ => hge, fun _ => by rw [List.getElem?_set_self (by simp; omega)]⟩, fun i hi => ?_, by simp; omega⟩
        rw [List.getElem?_set_ne (by omega), List.getElem?_append_left (by omega), ← hG1, List.getElem?_append_left (by simp; omega), List.getElem?_set_ne (by omega)]
      have hv2 : hV (E ++ [p]) b = ov b h.length := by
        rw [hV_cons (by simp), show (E ++ [p]).length = h.length by simp only [List.length_append, List.length_cons, List.length_nil]; omega]
      rw [hV_cons hne] at h9 hhas hlh
      rw [el27_0] at hX
      simp -implicitDefEqProofs only [b27_0, atPath, Try.f27, Option.getD_some, hlen, h0, h1, h9, h10, h26, h27, h28, hlt, hw, hw2, hi1, hr1, hhas, hlh, q1, hcut, hd, e1, e3, ↓fc54, ↓fc55, ↓ld3, ↓st3, z3, boolOf_undef, nb, ↓aop_lookup, ↓aop_makeFunc, ↓aop_makeMap, ↓aop_mapUpdate, ↓aop_buildSlice, ↓aop_extract, ↓EvC_seq, ↓EvC_skip, ↓EvC_exit, ↓EvC_ret, ↓EvC_block, ↓EvC_cond, ↓ev_region, ↓runL_cons, ↓runL_nil, ↓stepO_none, ↓stepO_guard, ↓aop_move, ↓aop_assign, ↓aop_load, ↓aop_store, ↓aop_alloc, ↓aop_box, ↓aop_nilCheck, ↓aop_fieldAddr, ↓aop_field, ↓aop_indexAddr, ↓aop_binOp, ↓aop_pick, ↓aop_extract, ↓aop_buildSlice, ↓aop_slice, ↓aop_not, ↓aop_call, ↓callA_len, ↓callA_append, ev_tmp, ev_const, ofV_int, ofV_bool, ofV_str, ofV_nilSlice, ofV_nilPtr, putA_some, putA_none, gs_self, gs_ne, List.length_set, Option.bind_some, Option.map_some, intBinA, evL, evO, evP, ne_eq, not_false_eq_true, if_true, if_false, reduceCtorEq, ite_true, ite_false, reduceIte, put_app, AV.cells, and_true, true_and, and_self, decide_true, decide_false, ↓yielded_eq, yv_some, boolOf_bool, List.getElem?_toArray, List.getElem?_cons_zero, List.getElem?_cons_succ, Nat.reduceLT, Nat.reduceEqDiff, beq_self_eq_true, Option.some_beq_some, wr_app, wr_app0, rd_app, rd_app0, rdL_here, rdL_next, wrL_here, wrL_next, spl, List.all_cons, List.all_nil, AV.one, Bool.and_self, Bool.true_and, List.drop_zero, List.take_succ_cons, List.take_zero, List.drop_succ_cons, List.head?_cons, Nat.reduceAdd, Nat.reduceLeDiff, List.length_cons, List.length_nil, List.nil_append, List.cons_append, List.set_cons_zero, List.set_cons_succ, Int.toNat_natCast, Nat.add_zero, b_ft, b_tf, Bool.false_eq_true] at hX
      refine ⟨_, _, b, hX, mk _ _ _ _ _ ?_ ?_ ?_ ?_ ?_ ?_ ?_ ?_ hu hbl' (by omega)⟩
      rotate_left 3
      · rw [hv2]; simp only [hlen, gs_self, gs_ne, List.length_set, ne_eq, Nat.reduceEqDiff, Nat.reduceLT, not_false_eq_true]
      all_goals simp only [List.length_set, hlen, h0, h1, h9, h10, h26, h27, gs_self, gs_ne, List.length_set, ne_eq, Nat.reduceEqDiff, Nat.reduceLT, not_false_eq_true]
    · rw [if_neg hff] at hbl' ⊢
      have q1 : ((h.length : Int) == (f : Int)) = false := by simp; omega
      obtain ⟨G', ea, hlG, hk⟩ := app_more p hI.big hI.hs (by omega)
      have hu := app_to (h := h ++ [p]) hI.big hlG hk
      have e1 := bs46 G p
      rw [el27_0] at hX
      simp -implicitDefEqProofs only [b27_0, atPath, Try.f27, Option.getD_some, hlen, h0, h1, h9, h10, h26, h27, h28, hlt, hw, hw2, hi1, hr1, hhas, hlh, q1, e1, ea, ↓fc54, ↓fc55, ↓ld3, ↓st3, z3, boolOf_undef, nb, ↓aop_lookup, ↓aop_makeFunc, ↓aop_makeMap, ↓aop_mapUpdate, ↓aop_buildSlice, ↓aop_extract, ↓EvC_seq, ↓EvC_skip, ↓EvC_exit, ↓EvC_ret, ↓EvC_block, ↓EvC_cond, ↓ev_region, ↓runL_cons, ↓runL_nil, ↓stepO_none, ↓stepO_guard, ↓aop_move, ↓aop_assign, ↓aop_load, ↓aop_store, ↓aop_alloc, ↓aop_box, ↓aop_nilCheck, ↓aop_fieldAddr, ↓aop_field, ↓aop_indexAddr, ↓aop_binOp, ↓aop_pick, ↓aop_extract, ↓aop_buildSlice, ↓aop_slice, ↓aop_not, ↓aop_call, ↓callA_len, ↓callA_append, ev_tmp, ev_const, ofV_int, ofV_bool, ofV_str, ofV_nilSlice, ofV_nilPtr, putA_some, putA_none, gs_self, gs_ne, List.length_set, Option.bind_some, Option.map_some, intBinA, evL, evO, evP, ne_eq, not_false_eq_true, if_true, if_false, reduceCtorEq, ite_true, ite_false, reduceIte, put_app, AV.cells, and_true, true_and, and_self, decide_true, decide_false, ↓yielded_eq, yv_some, boolOf_bool, List.getElem?_toArray, List.getElem?_cons_zero, List.getElem?_cons_succ, Nat.reduceLT, Nat.reduceEqDiff, beq_self_eq_true, Option.some_beq_some, wr_app, wr_app0, rd_app, rd_app0, rdL_here, rdL_next, wrL_here, wrL_next, spl, List.all_cons, List.all_nil, AV.one, Bool.and_self, Bool.true_and, List.drop_zero, List.take_succ_cons, List.take_zero, List.drop_succ_cons, List.head?_cons, Nat.reduceAdd, Nat.reduceLeDiff, List.length_cons, List.length_nil, List.nil_append, List.cons_append, List.set_cons_zero, List.set_cons_succ, Int.toNat_natCast, Nat.add_zero, b_ft, b_tf, Bool.false_eq_true] at hX
      refine ⟨_, _, G.length + 1, hX, mk _ _ _ _ _ ?_ ?_ ?_ ?_ ?_ ?_ ?_ ?_ hu hbl' (by omega)⟩
      rotate_left 3
      · rw [hV_cons (h := h ++ [p]) (by simp), show (h ++ [p]).length = h.length + 1 by simp]; simp only [hlen, gs_self, gs_ne, List.length_set, ne_eq, Nat.reduceEqDiff, Nat.reduceLT, not_false_eq_true]
      all_goals simp only [List.length_set, hlen, h0, h1, h9, h10, h26, h27, gs_self, gs_ne, List.length_set, ne_eq, Nat.reduceEqDiff, Nat.reduceLT, not_false_eq_true]
theorem least_end {G : AH} {tm : List AV} {n : Nat} (hlen : tm.length = 54) (h27 : tm.getD 27 undefA = I n) (h28 : tm.getD 28 undefA = I n) : ∃ tm', EvC Try.prog C0 l27_0 (tm, G) = some (.exit 0, (tm', G)) ∧ tm'.length = 54 ∧ tm'.getD 10 undefA = tm.getD 10 undefA := by
  have hlt : decide ((n : Int) < (n : Int)) = false := by simp
  rw [el27_0]
  simp -implicitDefEqProofs only [b27_0, atPath, Try.f27, Option.getD_some, hlen, h27, h28, hlt, ↓ld3, ↓st3, z3, boolOf_undef, nb, ↓aop_lookup, ↓aop_makeFunc, ↓aop_makeMap, ↓aop_mapUpdate, ↓aop_buildSlice, ↓aop_extract, ↓EvC_seq, ↓EvC_skip, ↓EvC_exit, ↓EvC_ret, ↓EvC_block, ↓EvC_cond, ↓ev_region, ↓runL_cons, ↓runL_nil, ↓stepO_none, ↓stepO_guard, ↓aop_move, ↓aop_assign, ↓aop_load, ↓aop_store, ↓aop_alloc, ↓aop_box, ↓aop_nilCheck, ↓aop_fieldAddr, ↓aop_field, ↓aop_indexAddr, ↓aop_binOp, ↓aop_pick, ↓aop_extract, ↓aop_buildSlice, ↓aop_slice, ↓aop_not, ↓aop_call, ↓callA_len, ↓callA_append, ev_tmp, ev_const, ofV_int, ofV_bool, ofV_str, ofV_nilSlice, ofV_nilPtr, putA_some, putA_none, gs_self, gs_ne, List.length_set, Option.bind_some, Option.map_some, intBinA, evL, evO, evP, ne_eq, not_false_eq_true, if_true, if_false, reduceCtorEq, ite_true, ite_false, reduceIte, put_app, AV.cells, and_true, true_and, and_self, decide_true, decide_false, ↓yielded_eq, yv_some, boolOf_bool, List.getElem?_toArray, List.getElem?_cons_zero, List.getElem?_cons_succ, Nat.reduceLT, Nat.reduceEqDiff, beq_self_eq_true, Option.some_beq_some, wr_app, wr_app0, rd_app, rd_app0, rdL_here, rdL_next, wrL_here, wrL_next, spl, List.all_cons, List.all_nil, AV.one, Bool.and_self, Bool.true_and, List.drop_zero, List.take_succ_cons, List.take_zero, List.drop_succ_cons, List.head?_cons, Nat.reduceAdd, Nat.reduceLeDiff, List.length_cons, List.length_nil, List.nil_append, List.cons_append, List.set_cons_zero, List.set_cons_succ, Int.toNat_natCast, Nat.add_zero, b_ft, b_tf, Bool.false_eq_true]
  exact ⟨_, rfl, by simp only [List.length_set, hlen], by simp only [hlen, gs_self, gs_ne, List.length_set, ne_eq, Nat.reduceEqDiff, Nat.reduceLT, not_false_eq_true]⟩
theorem least_loop {G0 : AH} {v : AV} {t : List Int} {f : Nat} (hv : IntV G0 v t) (ht : t.length < 2 ^ 38) (hf0 : 0 < f) (hf : f ≤ 64) : ∀ (d j : Nat) (tm : List AV) (G : AH) (h : List Int) (c b : Nat), t.length - j = d → j ≤ t.length → LeastInv G0 v t.length f tm G h c j b →
    ∃ tm' G', EvC Try.prog C0 l27_0 (tm, G) = some (.exit 0, (tm', G')) ∧ tm'.length = 54 ∧ tm'.getD 10 undefA = I ((c + bel f (t.drop j) h : Nat) : Int) ∧ (∀ j, j < G0.length → G'[j]? = G0[j]?) ∧ G0.length ≤ G'.length := by
  intro d
  induction d with
  | zero =>
    intro j tm G h c b hd hj hI
    obtain rfl : j = t.length := by omega
    obtain ⟨tm', he, hl', h10⟩ := least_end (G := G) hI.len hI.t27 hI.t28
    rw [List.drop_length]
    exact ⟨tm', G, he, hl', by rw [h10, hI.t10]; rfl, hI.keep, hI.big⟩
  | succ d ih =>
    intro j tm G h c b hd hj hI
    obtain ⟨p, hp⟩ := get_of (xs := t) (j := j) (by omega)
    obtain ⟨tm1, G1, b1, he, hI1⟩ := least_round hv ht hf0 hf hp hI _ rfl
    obtain ⟨tm', G', he2, hl', h10, r⟩ := ih (j + 1) tm1 G1 _ _ b1 (by omega) (by omega) hI1
    refine ⟨tm', G', he.symm.trans he2, hl', ?_, r⟩
    rw [h10, drop_at hp, bel]
    congr 2
    split <;> omega
theorem least_loop' {G0 G : AH} {v : AV} {t : List Int} {f : Nat} {tm : List AV} {X : Option (AExit × St)} (hX : EvC Try.prog C0 l27_0 (tm, G) = X) (hv : IntV G0 v t) (ht : t.length < 2 ^ 38) (hf0 : 0 < f) (hf : f ≤ 64) (hI : LeastInv G0 v t.length f tm G [] 0 0 0) :
    ∃ tm' G', X = some (.exit 0, (tm', G')) ∧ tm'.length = 54 ∧ tm'.getD 10 undefA = I (bel f t [] : Nat) ∧ (∀ j, j < G0.length → G'[j]? = G0[j]?) ∧ G0.length ≤ G'.length := by
  subst hX
  have := least_loop hv ht hf0 hf t.length 0 tm G [] 0 0 (by omega) (by omega) hI
  simpa using this
theorem least_err {G : AH} {v hv : AV} {fr n e : Int} (h : Ev Try.prog C0 53 [v, I fr] G = some (.tuple [hv, I n, I e], G)) (he : e ≠ 0) : Ev Try.prog C0 27 [v, I fr] G = some (.tuple [I 0, I e], G) := by
  have h4 : (e != 0) = true := by simpa using he
  have g0 : ([v, I fr] ++ List.replicate (54 - [v, I fr].length) undefA).length = 54 := by simp
  have g1 : ([v, I fr] ++ List.replicate (54 - [v, I fr].length) undefA).getD 0 undefA = v := rfl
  have g2 : ([v, I fr] ++ List.replicate (54 - [v, I fr].length) undefA).getD 1 undefA = I fr := rfl
  rw [fe27]
  generalize [v, I fr] ++ List.replicate (54 - [v, I fr].length) undefA = tm at *
  simp -implicitDefEqProofs only [c27, Try.f27, Option.getD_some, g0, g1, g2, h, h4, ↓fc53, ↓ld3, ↓st3, z3, boolOf_undef, nb, ↓aop_lookup, ↓aop_makeFunc, ↓aop_makeMap, ↓aop_mapUpdate, ↓aop_buildSlice, ↓aop_extract, ↓EvC_seq, ↓EvC_skip, ↓EvC_exit, ↓EvC_ret, ↓EvC_block, ↓EvC_cond, ↓ev_region, ↓runL_cons, ↓runL_nil, ↓stepO_none, ↓stepO_guard, ↓aop_move, ↓aop_assign, ↓aop_load, ↓aop_store, ↓aop_alloc, ↓aop_box, ↓aop_nilCheck, ↓aop_fieldAddr, ↓aop_field, ↓aop_indexAddr, ↓aop_binOp, ↓aop_pick, ↓aop_extract, ↓aop_buildSlice, ↓aop_slice, ↓aop_not, ↓aop_call, ↓callA_len, ↓callA_append, ev_tmp, ev_const, ofV_int, ofV_bool, ofV_str, ofV_nilSlice, ofV_nilPtr, putA_some, putA_none, gs_self, gs_ne, List.length_set, Option.bind_some, Option.map_some, intBinA, evL, evO, evP, ne_eq, not_false_eq_true, if_true, if_false, reduceCtorEq, ite_true, ite_false, reduceIte, put_app, AV.cells, and_true, true_and, and_self, decide_true, decide_false, ↓yielded_eq, yv_some, boolOf_bool, List.getElem?_toArray, List.getElem?_cons_zero, List.getElem?_cons_succ, Nat.reduceLT, Nat.reduceEqDiff, beq_self_eq_true, Option.some_beq_some, wr_app, wr_app0, rd_app, rd_app0, rdL_here, rdL_next, wrL_here, wrL_next, spl, List.all_cons, List.all_nil, AV.one, Bool.and_self, Bool.true_and, List.drop_zero, List.take_succ_cons, List.take_zero, List.drop_succ_cons, List.head?_cons, Nat.reduceAdd, Nat.reduceLeDiff, List.length_cons, List.length_nil, List.nil_append, List.cons_append, List.set_cons_zero, List.set_cons_succ, Int.toNat_natCast, Nat.add_zero, b_ft, b_tf, Bool.false_eq_true]
theorem least_long {G : AH} {v : AV} {f : Nat} {t : List Int} (hf0 : 0 < f) (hf : f ≤ 64) (hv : IntS G v t) (hl : t.length ≤ 4000) (hl2 : 400 < t.length) : ∃ G', Ev Try.prog C0 27 [v, I f] G = some (.tuple [I 0, I 5], G') ∧ (∀ j, j < G.length → G'[j]? = G[j]?) ∧ G.length ≤ G'.length := by
  obtain ⟨G1, b1, h1, hs1, k1, bg1⟩ := run_ev hf0 hf hv hl
  have hla := hv.len
  have q : decide ((t.length : Int) > 400) = true := by simp; omega
  have q0 : ((0 : Int) != 0) = false := by simp
  refine ⟨G1, ?_, k1, bg1⟩
  have g0 : ([v, I f] ++ List.replicate (54 - [v, I f].length) undefA).length = 54 := by simp
  have g1 : ([v, I f] ++ List.replicate (54 - [v, I f].length) undefA).getD 0 undefA = v := rfl
  have g2 : ([v, I f] ++ List.replicate (54 - [v, I f].length) undefA).getD 1 undefA = I f := rfl
  rw [fe27]
  generalize [v, I f] ++ List.replicate (54 - [v, I f].length) undefA = tm at *
  simp -implicitDefEqProofs only [c27, Try.f27, Option.getD_some, g0, g1, g2, h1, hla, q, q0, ↓fc53, ↓ld3, ↓st3, z3, boolOf_undef, nb, ↓aop_lookup, ↓aop_makeFunc, ↓aop_makeMap, ↓aop_mapUpdate, ↓aop_buildSlice, ↓aop_extract, ↓EvC_seq, ↓EvC_skip, ↓EvC_exit, ↓EvC_ret, ↓EvC_block, ↓EvC_cond, ↓ev_region, ↓runL_cons, ↓runL_nil, ↓stepO_none, ↓stepO_guard, ↓aop_move, ↓aop_assign, ↓aop_load, ↓aop_store, ↓aop_alloc, ↓aop_box, ↓aop_nilCheck, ↓aop_fieldAddr, ↓aop_field, ↓aop_indexAddr, ↓aop_binOp, ↓aop_pick, ↓aop_extract, ↓aop_buildSlice, ↓aop_slice, ↓aop_not, ↓aop_call, ↓callA_len, ↓callA_append, ev_tmp, ev_const, ofV_int, ofV_bool, ofV_str, ofV_nilSlice, ofV_nilPtr, putA_some, putA_none, gs_self, gs_ne, List.length_set, Option.bind_some, Option.map_some, intBinA, evL, evO, evP, ne_eq, not_false_eq_true, if_true, if_false, reduceCtorEq, ite_true, ite_false, reduceIte, put_app, AV.cells, and_true, true_and, and_self, decide_true, decide_false, ↓yielded_eq, yv_some, boolOf_bool, List.getElem?_toArray, List.getElem?_cons_zero, List.getElem?_cons_succ, Nat.reduceLT, Nat.reduceEqDiff, beq_self_eq_true, Option.some_beq_some, wr_app, wr_app0, rd_app, rd_app0, rdL_here, rdL_next, wrL_here, wrL_next, spl, List.all_cons, List.all_nil, AV.one, Bool.and_self, Bool.true_and, List.drop_zero, List.take_succ_cons, List.take_zero, List.drop_succ_cons, List.head?_cons, Nat.reduceAdd, Nat.reduceLeDiff, List.length_cons, List.length_nil, List.nil_append, List.cons_append, List.set_cons_zero, List.set_cons_succ, Int.toNat_natCast, Nat.add_zero, b_ft, b_tf, Bool.false_eq_true]
theorem least_ev {G : AH} {v : AV} {f : Nat} {t : List Int} (hf0 : 0 < f) (hf : f ≤ 64) (hv : IntV G v t) (hl : t.length ≤ 400) : ∃ G', Ev Try.prog C0 27 [v, I f] G = some (.tuple [I (bel f t [] : Nat), I 0], G') ∧ (∀ j, j < G.length → G'[j]? = G[j]?) ∧ G.length ≤ G'.length := by
  obtain ⟨G1, b1, h1, hs1, k1, bg1⟩ := run_ev hf0 hf hv.toIntS (by omega)
  have hv1 := hv.same k1
  have hla := hv.len
  have q : decide ((t.length : Int) > 400) = false := by simp; omega
  have q0 : ((0 : Int) != 0) = false := by simp
  have g0 : ([v, I f] ++ List.replicate (54 - [v, I f].length) undefA).length = 54 := by simp
  have g1 : ([v, I f] ++ List.replicate (54 - [v, I f].length) undefA).getD 0 undefA = v := rfl
  have g2 : ([v, I f] ++ List.replicate (54 - [v, I f].length) undefA).getD 1 undefA = I f := rfl
  rw [fe27]
  generalize [v, I f] ++ List.replicate (54 - [v, I f].length) undefA = tm at *
  simp -implicitDefEqProofs only [c27, Try.f27, Option.getD_some, g0, g1, g2, h1, hla, q, q0, ↓fc53, ↓ld3, ↓st3, z3, boolOf_undef, nb, ↓aop_lookup, ↓aop_makeFunc, ↓aop_makeMap, ↓aop_mapUpdate, ↓aop_buildSlice, ↓aop_extract, ↓EvC_seq, ↓EvC_skip, ↓EvC_exit, ↓EvC_ret, ↓EvC_block, ↓EvC_cond, ↓ev_region, ↓runL_cons, ↓runL_nil, ↓stepO_none, ↓stepO_guard, ↓aop_move, ↓aop_assign, ↓aop_load, ↓aop_store, ↓aop_alloc, ↓aop_box, ↓aop_nilCheck, ↓aop_fieldAddr, ↓aop_field, ↓aop_indexAddr, ↓aop_binOp, ↓aop_pick, ↓aop_extract, ↓aop_buildSlice, ↓aop_slice, ↓aop_not, ↓aop_call, ↓callA_len, ↓callA_append, ev_tmp, ev_const, ofV_int, ofV_bool, ofV_str, ofV_nilSlice, ofV_nilPtr, putA_some, putA_none, gs_self, gs_ne, List.length_set, Option.bind_some, Option.map_some, intBinA, evL, evO, evP, ne_eq, not_false_eq_true, if_true, if_false, reduceCtorEq, ite_true, ite_false, reduceIte, put_app, AV.cells, and_true, true_and, and_self, decide_true, decide_false, ↓yielded_eq, yv_some, boolOf_bool, List.getElem?_toArray, List.getElem?_cons_zero, List.getElem?_cons_succ, Nat.reduceLT, Nat.reduceEqDiff, beq_self_eq_true, Option.some_beq_some, wr_app, wr_app0, rd_app, rd_app0, rdL_here, rdL_next, wrL_here, wrL_next, spl, List.all_cons, List.all_nil, AV.one, Bool.and_self, Bool.true_and, List.drop_zero, List.take_succ_cons, List.take_zero, List.drop_succ_cons, List.head?_cons, Nat.reduceAdd, Nat.reduceLeDiff, List.length_cons, List.length_nil, List.nil_append, List.cons_append, List.set_cons_zero, List.set_cons_succ, Int.toNat_natCast, Nat.add_zero, b_ft, b_tf, Bool.false_eq_true]
  generalize hX : EvC Try.prog C0 (Code.loop _) _ = X
  obtain ⟨tm', G', he, hl', h10, hk, hb⟩ := least_loop' hX hv1 (by omega) hf0 hf ⟨by simp only [List.length_set, g0], by simp only [g0, g1, gs_self, gs_ne, List.length_set, ne_eq, Nat.reduceEqDiff, Nat.reduceLT, not_false_eq_true], by simp only [g0, g2, gs_self, gs_ne, List.length_set, ne_eq, Nat.reduceEqDiff, Nat.reduceLT, not_false_eq_true], by simp only [g0, gs_self, gs_ne, List.length_set, ne_eq, Nat.reduceEqDiff, Nat.reduceLT, not_false_eq_true, hV_nil], by simp only [g0, gs_self, gs_ne, List.length_set, ne_eq, Nat.reduceEqDiff, Nat.reduceLT, not_false_eq_true]; rfl, by simp only [g0, g1, gs_self, gs_ne, List.length_set, ne_eq, Nat.reduceEqDiff, Nat.reduceLT, not_false_eq_true], by simp only [g0, gs_self, gs_ne, List.length_set, ne_eq, Nat.reduceEqDiff, Nat.reduceLT, not_false_eq_true], by simp only [g0, gs_self, gs_ne, List.length_set, ne_eq, Nat.reduceEqDiff, Nat.reduceLT, not_false_eq_true]; rfl, HS.nil _ _ _, fun _ _ => rfl, Nat.le_refl _, by simp, Nat.le_refl _⟩
  subst he
  refine ⟨G', ?_, fun j hj => (hk j (by omega)).trans (k1 j hj), by omega⟩
  simp -implicitDefEqProofs only [hl', h10, ↓ld3, ↓st3, z3, boolOf_undef, nb, ↓aop_lookup, ↓aop_makeFunc, ↓aop_makeMap, ↓aop_mapUpdate, ↓aop_buildSlice, ↓aop_extract, ↓EvC_seq, ↓EvC_skip, ↓EvC_exit, ↓EvC_ret, ↓EvC_block, ↓EvC_cond, ↓ev_region, ↓runL_cons, ↓runL_nil, ↓stepO_none, ↓stepO_guard, ↓aop_move, ↓aop_assign, ↓aop_load, ↓aop_store, ↓aop_alloc, ↓aop_box, ↓aop_nilCheck, ↓aop_fieldAddr, ↓aop_field, ↓aop_indexAddr, ↓aop_binOp, ↓aop_pick, ↓aop_extract, ↓aop_buildSlice, ↓aop_slice, ↓aop_not, ↓aop_call, ↓callA_len, ↓callA_append, ev_tmp, ev_const, ofV_int, ofV_bool, ofV_str, ofV_nilSlice, ofV_nilPtr, putA_some, putA_none, gs_self, gs_ne, List.length_set, Option.bind_some, Option.map_some, intBinA, evL, evO, evP, ne_eq, not_false_eq_true, if_true, if_false, reduceCtorEq, ite_true, ite_false, reduceIte, put_app, AV.cells, and_true, true_and, and_self, decide_true, decide_false, ↓yielded_eq, yv_some, boolOf_bool, List.getElem?_toArray, List.getElem?_cons_zero, List.getElem?_cons_succ, Nat.reduceLT, Nat.reduceEqDiff, beq_self_eq_true, Option.some_beq_some, wr_app, wr_app0, rd_app, rd_app0, rdL_here, rdL_next, wrL_here, wrL_next, spl, List.all_cons, List.all_nil, AV.one, Bool.and_self, Bool.true_and, List.drop_zero, List.take_succ_cons, List.take_zero, List.drop_succ_cons, List.head?_cons, Nat.reduceAdd, Nat.reduceLeDiff, List.length_cons, List.length_nil, List.nil_append, List.cons_append, List.set_cons_zero, List.set_cons_succ, Int.toNat_natCast, Nat.add_zero, b_ft, b_tf, Bool.false_eq_true]
end Go.Dv

/- the law ImageBest on abstract heaps; the start with a slice of ints that can be cut (printed by a program of mine, own work). -/
namespace Go.Dv
open Go.Proofs
set_option maxRecDepth 100000
set_option linter.unusedSimpArgs false
set_option linter.unusedVariables false
attribute [local congr] bind_congr_first


theorem law9_long {G : AH} {v : AV} {t : List Int} (hv : IntS G v t) (hl : t.length > 400) {n : Int} (hn : 0 ≤ n ∧ n ≤ 255) : Ev Try.prog C0 9 [v, .int .u8 n] G = some (.bool true, G) := by
  have hla := hv.len
  have q : decide ((t.length : Int) > 400) = true := by simp; omega
  have w1 := wrap_u8 hn
  have x1 := frN_w hn
  have h6 := awake_ev G
  have g0 : ([v, .int .u8 n] ++ List.replicate (69 - [v, .int .u8 n].length) undefA).length = 69 := by simp
  have g1 : ([v, .int .u8 n] ++ List.replicate (69 - [v, .int .u8 n].length) undefA).getD 0 undefA = v := rfl
  have g2 : ([v, .int .u8 n] ++ List.replicate (69 - [v, .int .u8 n].length) undefA).getD 1 undefA = .int .u8 n := rfl
  rw [fe9]
  generalize [v, .int .u8 n] ++ List.replicate (69 - [v, .int .u8 n].length) undefA = tm at *
  simp -implicitDefEqProofs only [c9, Try.f9, Option.getD_some, g0, g1, g2, hla, q, w1, x1, h6, nz64, ↓aop_conv un5 un3, ↓fc26, Bool.not_true, Bool.not_false, Bool.true_and, Bool.and_true, Bool.false_and, Bool.and_false, Bool.true_or, Bool.or_true, Bool.false_or, Bool.or_false, cond_true, cond_false, boolOf_undef, nb, beq_self_eq_true, Bool.and_self, ↓ld3, ↓st3, z3, boolOf_undef, nb, ↓aop_lookup, ↓aop_makeFunc, ↓aop_makeMap, ↓aop_mapUpdate, ↓aop_buildSlice, ↓aop_extract, ↓EvC_seq, ↓EvC_skip, ↓EvC_exit, ↓EvC_ret, ↓EvC_block, ↓EvC_cond, ↓ev_region, ↓runL_cons, ↓runL_nil, ↓stepO_none, ↓stepO_guard, ↓aop_move, ↓aop_assign, ↓aop_load, ↓aop_store, ↓aop_alloc, ↓aop_box, ↓aop_nilCheck, ↓aop_fieldAddr, ↓aop_field, ↓aop_indexAddr, ↓aop_binOp, ↓aop_pick, ↓aop_extract, ↓aop_buildSlice, ↓aop_slice, ↓aop_not, ↓aop_call, ↓callA_len, ↓callA_append, ev_tmp, ev_const, ofV_int, ofV_bool, ofV_str, ofV_nilSlice, ofV_nilPtr, putA_some, putA_none, gs_self, gs_ne, List.length_set, Option.bind_some, Option.map_some, intBinA, evL, evO, evP, ne_eq, not_false_eq_true, if_true, if_false, reduceCtorEq, ite_true, ite_false, reduceIte, put_app, AV.cells, and_true, true_and, and_self, decide_true, decide_false, ↓yielded_eq, yv_some, boolOf_bool, List.getElem?_toArray, List.getElem?_cons_zero, List.getElem?_cons_succ, Nat.reduceLT, Nat.reduceEqDiff, beq_self_eq_true, Option.some_beq_some, wr_app, wr_app0, rd_app, rd_app0, rdL_here, rdL_next, wrL_here, wrL_next, spl, List.all_cons, List.all_nil, AV.one, Bool.and_self, Bool.true_and, List.drop_zero, List.take_succ_cons, List.take_zero, List.drop_succ_cons, List.head?_cons, Nat.reduceAdd, Nat.reduceLeDiff, List.length_cons, List.length_nil, List.nil_append, List.cons_append, List.set_cons_zero, List.set_cons_succ, Int.toNat_natCast, Nat.add_zero, b_ft, b_tf, Bool.false_eq_true]
theorem law9_ok {G : AH} {v : AV} {t : List Int} (hv : IntV G v t) (hl : t.length ≤ 400) {n : Int} (hn : 0 ≤ n ∧ n ≤ 255) : ∃ G', Ev Try.prog C0 9 [v, .int .u8 n] G = some (.bool true, G') := by
  have hla := hv.len
  have q : decide ((t.length : Int) > 400) = false := by simp; omega
  have w1 := wrap_u8 hn
  have x1 := frN_w hn
  have hf0 := frN_lo n
  have hf := frN_hi n
  generalize frN n = f at *
  obtain ⟨G1, h1, k1, b1⟩ := faults_ev hf0 hf hv.toIntS (by omega)
  have hv1 := hv.same k1
  obtain ⟨G2, h2, k2, b2⟩ := least_ev hf0 hf hv1 hl
  have hv2 := hv1.same k2
  have h3 := dif_ev hv2.toIntS (by omega)
  have h6 := awake_ev G2
  have l1 := bel_run hf0 t
  have l2 := lru_bound hf0 t
  have l3 := bel_diff0 (f := f) t
  have l4 := lru_diff hf0 t
  have l5 := run_faults (f := f) t [] 0
  rw [Nat.zero_add] at l5
  generalize runS f t [] 0 = r at *
  obtain ⟨r1, a⟩ := r
  dsimp only at *
  generalize bel f t [] = b at *
  generalize diffF [] t = k at *
  have hm : f * b ≤ 64 * 400 := Nat.mul_le_mul hf (by omega)
  have e0 : ((0 : Int) != 0) = false := by simp
  have e1 : decide ((b : Int) > (a : Int)) = false := by simp; omega
  have e2 : IntKind.i64.wrap ((f : Int) * (b : Int)) = ((f * b : Nat) : Int) := by
    rw [show (f : Int) * (b : Int) = ((f * b : Nat) : Int) by simp, IntWalk.i64_in _ (by omega)]
  have e3 : IntKind.i64.wrap (((f * b : Nat) : Int) + (f : Int)) = ((f * b + f : Nat) : Int) := by
    rw [IntWalk.i64_in _ (by omega)]; simp
  have e4 : decide ((a : Int) > ((f * b + f : Nat) : Int)) = false := by
    rw [decide_eq_false_iff_not]; omega
  have e5 : decide ((b : Int) < (k : Int)) = false := by simp; omega
  have g0 : ([v, .int .u8 n] ++ List.replicate (69 - [v, .int .u8 n].length) undefA).length = 69 := by simp
  have g1 : ([v, .int .u8 n] ++ List.replicate (69 - [v, .int .u8 n].length) undefA).getD 0 undefA = v := rfl
  have g2 : ([v, .int .u8 n] ++ List.replicate (69 - [v, .int .u8 n].length) undefA).getD 1 undefA = .int .u8 n := rfl
  rw [fe9]
  generalize [v, .int .u8 n] ++ List.replicate (69 - [v, .int .u8 n].length) undefA = tm at *
  refine ⟨G2, ?_⟩
  by_cases hk : k ≤ f
  · have e6 : decide ((f : Int) < (k : Int)) = false := by simp; omega
    have e7 : ((a : Int) == (k : Int)) = true := by have := l4 hk; simp; omega
    simp -implicitDefEqProofs only [c9, Try.f9, Option.getD_some, g0, g1, g2, hla, q, w1, x1, h1, h2, h3, h6, e0, e1, e2, e3, e4, e5, e6, e7, nz64, ↓aop_conv un5 un3, ↓fc26, ↓fc27, ↓fc30, ↓fc31, Bool.not_true, Bool.not_false, Bool.true_and, Bool.and_true, Bool.false_and, Bool.and_false, Bool.true_or, Bool.or_true, Bool.false_or, Bool.or_false, cond_true, cond_false, boolOf_undef, nb, beq_self_eq_true, Bool.and_self, ↓ld3, ↓st3, z3, boolOf_undef, nb, ↓aop_lookup, ↓aop_makeFunc, ↓aop_makeMap, ↓aop_mapUpdate, ↓aop_buildSlice, ↓aop_extract, ↓EvC_seq, ↓EvC_skip, ↓EvC_exit, ↓EvC_ret, ↓EvC_block, ↓EvC_cond, ↓ev_region, ↓runL_cons, ↓runL_nil, ↓stepO_none, ↓stepO_guard, ↓aop_move, ↓aop_assign, ↓aop_load, ↓aop_store, ↓aop_alloc, ↓aop_box, ↓aop_nilCheck, ↓aop_fieldAddr, ↓aop_field, ↓aop_indexAddr, ↓aop_binOp, ↓aop_pick, ↓aop_extract, ↓aop_buildSlice, ↓aop_slice, ↓aop_not, ↓aop_call, ↓callA_len, ↓callA_append, ev_tmp, ev_const, ofV_int, ofV_bool, ofV_str, ofV_nilSlice, ofV_nilPtr, putA_some, putA_none, gs_self, gs_ne, List.length_set, Option.bind_some, Option.map_some, intBinA, evL, evO, evP, ne_eq, not_false_eq_true, if_true, if_false, reduceCtorEq, ite_true, ite_false, reduceIte, put_app, AV.cells, and_true, true_and, and_self, decide_true, decide_false, ↓yielded_eq, yv_some, boolOf_bool, List.getElem?_toArray, List.getElem?_cons_zero, List.getElem?_cons_succ, Nat.reduceLT, Nat.reduceEqDiff, beq_self_eq_true, Option.some_beq_some, wr_app, wr_app0, rd_app, rd_app0, rdL_here, rdL_next, wrL_here, wrL_next, spl, List.all_cons, List.all_nil, AV.one, Bool.and_self, Bool.true_and, List.drop_zero, List.take_succ_cons, List.take_zero, List.drop_succ_cons, List.head?_cons, Nat.reduceAdd, Nat.reduceLeDiff, List.length_cons, List.length_nil, List.nil_append, List.cons_append, List.set_cons_zero, List.set_cons_succ, Int.toNat_natCast, Nat.add_zero, b_ft, b_tf, Bool.false_eq_true]
  · have e6 : decide ((f : Int) < (k : Int)) = true := by simp; omega
    simp -implicitDefEqProofs only [c9, Try.f9, Option.getD_some, g0, g1, g2, hla, q, w1, x1, h1, h2, h3, h6, e0, e1, e2, e3, e4, e5, e6, nz64, ↓aop_conv un5 un3, ↓fc26, ↓fc27, ↓fc30, ↓fc31, Bool.not_true, Bool.not_false, Bool.true_and, Bool.and_true, Bool.false_and, Bool.and_false, Bool.true_or, Bool.or_true, Bool.false_or, Bool.or_false, cond_true, cond_false, boolOf_undef, nb, beq_self_eq_true, Bool.and_self, ↓ld3, ↓st3, z3, boolOf_undef, nb, ↓aop_lookup, ↓aop_makeFunc, ↓aop_makeMap, ↓aop_mapUpdate, ↓aop_buildSlice, ↓aop_extract, ↓EvC_seq, ↓EvC_skip, ↓EvC_exit, ↓EvC_ret, ↓EvC_block, ↓EvC_cond, ↓ev_region, ↓runL_cons, ↓runL_nil, ↓stepO_none, ↓stepO_guard, ↓aop_move, ↓aop_assign, ↓aop_load, ↓aop_store, ↓aop_alloc, ↓aop_box, ↓aop_nilCheck, ↓aop_fieldAddr, ↓aop_field, ↓aop_indexAddr, ↓aop_binOp, ↓aop_pick, ↓aop_extract, ↓aop_buildSlice, ↓aop_slice, ↓aop_not, ↓aop_call, ↓callA_len, ↓callA_append, ev_tmp, ev_const, ofV_int, ofV_bool, ofV_str, ofV_nilSlice, ofV_nilPtr, putA_some, putA_none, gs_self, gs_ne, List.length_set, Option.bind_some, Option.map_some, intBinA, evL, evO, evP, ne_eq, not_false_eq_true, if_true, if_false, reduceCtorEq, ite_true, ite_false, reduceIte, put_app, AV.cells, and_true, true_and, and_self, decide_true, decide_false, ↓yielded_eq, yv_some, boolOf_bool, List.getElem?_toArray, List.getElem?_cons_zero, List.getElem?_cons_succ, Nat.reduceLT, Nat.reduceEqDiff, beq_self_eq_true, Option.some_beq_some, wr_app, wr_app0, rd_app, rd_app0, rdL_here, rdL_next, wrL_here, wrL_next, spl, List.all_cons, List.all_nil, AV.one, Bool.and_self, Bool.true_and, List.drop_zero, List.take_succ_cons, List.take_zero, List.drop_succ_cons, List.head?_cons, Nat.reduceAdd, Nat.reduceLeDiff, List.length_cons, List.length_nil, List.nil_append, List.cons_append, List.set_cons_zero, List.set_cons_succ, Int.toNat_natCast, Nat.add_zero, b_ft, b_tf, Bool.false_eq_true]
theorem law9_ev {G : AH} {v : AV} {t : List Int} (hv : IntV G v t) (n : Int) (hn : 0 ≤ n ∧ n ≤ 255) : ∃ G', Ev Try.prog C0 9 [v, .int .u8 n] G = some (.bool true, G') := by
  by_cases hl : t.length > 400
  · exact ⟨G, law9_long hv.toIntS hl hn⟩
  · exact law9_ok hv (by omega) hn

theorem start_intv (W : World) {a : Option Addr} {len cap : Nat} {l : List Int} (h : InRow W a len cap l) :
    ∃ φ H v, WR W (fun b => b < W.heap.size) φ H W ∧ VR φ v (.slice a len cap) ∧ IntV H v (l.take len) := by
  rcases h with ⟨rfl, rfl, rfl, rfl⟩ | ⟨x, rfl, hl, hcap, hc⟩
  · refine ⟨_, _, .nilSlice, WR.start W, rfl, int_nil _, fun n hn => ⟨.nilSlice, fun G => ?_, by simpa using int_nil _⟩⟩
    obtain rfl : n = 0 := by simpa using hn
    exact (sl46n G _ rfl).2
  · have htl : (l.take len).length = len := by simp; omega
    rcases Nat.eq_zero_or_pos cap with h0 | hpos
    · subst h0
      obtain rfl : len = 0 := by omega
      refine ⟨_, _, .slice 0 0 1 0 0 true, WR.idle W, ⟨x, 0, rfl, Nat.le_refl _, ⟨Nat.le_refl _, fun _ => rfl⟩, .inl rfl⟩, ⟨fun G => by rw [ln46, htl], fun j e he => ?_⟩, fun n hn => ⟨.slice 0 0 1 0 0 true, fun G => ?_, ⟨fun G => by rw [ln46]; simp, fun j e he => ?_⟩⟩⟩
      · simp at he
      · obtain rfl : n = 0 := by simpa using hn
        exact sl46l G 0 0 0 0 true 0 (Nat.le_refl _) (Nat.le_refl _)
      · simp at he
    · have hx := cell_spot (hc 0 hpos)
      have hx0 : x.add 0 = x := by simp [Addr.add]
      rw [hx0] at hx
      have hxa : ∀ n, x.add n = ⟨x.block, x.off + n, none⟩ := fun n => by
        unfold Addr.add
        split
        · rename_i h; subst h
          obtain ⟨b, o, s⟩ := x
          simp at hx ⊢; exact hx.1
        · rfl
      have hrd : ∀ (j : Nat) (e : Int), l[j]? = some e → rdCells [AObj.arg (ii l)] 0 j 1 = some [I e] := by
        intro j e he
        have hjl := lt_of_get he
        simp only [rdCells, List.getElem?_cons_zero]
        rw [if_pos (by rw [ii_length]; omega), ii_drop, List.drop_eq_getElem_cons hjl]
        rw [List.getElem?_eq_getElem hjl] at he
        rw [Option.some.inj he]; rfl
      refine ⟨_, _, .slice 0 0 1 len cap true, WR.one W (x := (x.block, x.off, x.off + cap)) (cs := ii l) hx.2 ⟨x.block, x.off, _, rfl, fun n v hv => ?_⟩, ⟨x, cap, rfl, hl, ⟨Nat.le_refl _, fun _ => rfl⟩, .inr ⟨x.block, x.off, _, rfl, by have := hxa 0; rw [hx0] at this; exact this, by omega⟩⟩, ⟨fun G => by rw [ln46, htl], fun j e he => ?_⟩, fun n hn => ⟨.slice 0 n 1 (len - n) (cap - n) true, fun G => ?_, ⟨fun G => by rw [ln46, List.length_drop, htl], fun j e he => ?_⟩⟩⟩
      · have hn := lt_of_get hv
        rw [ii_length] at hn
        simp only [ii, List.getElem?_map, Option.map_eq_some_iff] at hv
        obtain ⟨z, hz, rfl⟩ := hv
        refine ⟨.int .i64 z, ?_, rfl⟩
        have := hc n (by omega)
        rw [hxa, List.getD_eq_getElem?_getD, hz] at this
        exact this
      · have hj : j < len := by have := lt_of_get he; omega
        refine ⟨0, 0 + j, ?_, ?_⟩
        · rw [ia46, if_pos ⟨by omega, by omega, rfl⟩]; simp
        · rw [List.getElem?_take, if_pos hj] at he
          rw [Nat.zero_add]; exact hrd j e he
      · have := sl46l G 0 0 len cap true n (by omega) hl
        rwa [Nat.zero_add] at this
      · have hj := lt_of_get he
        rw [List.length_drop, htl] at hj
        refine ⟨0, n + j, ?_, ?_⟩
        · rw [ia46, if_pos ⟨by omega, by omega, rfl⟩]; simp
        · rw [List.getElem?_drop, List.getElem?_take, if_pos (by omega)] at he
          exact hrd _ e he
end Go.Dv
