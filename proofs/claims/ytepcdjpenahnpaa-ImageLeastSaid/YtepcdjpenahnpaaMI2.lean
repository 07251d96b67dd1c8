/- Texts of the evaluator and of the laws' walks, put together in the order of their build: T95, T96, T97 (own work). -/
import Derived.Test.YtepcdjpenahnpaaMI1

/- SameInts and contains (printed by a program of mine, own work). -/
namespace Go.Dv
open Go.Proofs
set_option maxRecDepth 100000
set_option linter.unusedSimpArgs false
set_option linter.unusedVariables false
attribute [local congr] bind_congr_first


theorem reg32_6 {H : AH} {a b : AV} {xs ys : List Int} {j : Nat} {x y : Int} {tm : List AV} (ha : IntS H a xs) (hb : IntS H b ys) (hx : xs[j]? = some x) (hy : ys[j]? = some y) (hlen : tm.length = 26) (h0 : tm.getD 0 undefA = a) (h1 : tm.getD 1 undefA = b) (h5 : tm.getD 5 undefA = I j) :
    ∃ tm', EvC Try.prog C0 d32_6 (tm, H) = some (.normal, (tm', H)) ∧ tm'.length = 26 ∧ tm'.getD 25 undefA = .bool (x != y) ∧ (∀ t ∈ [0, 1, 5], tm'.getD t undefA = tm.getD t undefA) := by
  obtain ⟨i1, k1, hi1, hr1⟩ := ha.ix j x hx
  obtain ⟨i2, k2, hi2, hr2⟩ := hb.ix j y hy
  have dd := ed32_6
  simp only [d32_6, opsAt, atPath, Try.f32, Option.getD_some] at dd
  simp only [d32_6, opsAt, atPath, Try.f32, Option.getD_some]
  rw [dd]
  simp -implicitDefEqProofs only [hlen, h0, h1, h5, hi1, hi2, hr1, hr2, Bool.not_true, Bool.not_false, Bool.true_and, Bool.and_true, Bool.false_and, Bool.and_false, Bool.true_or, Bool.or_true, Bool.false_or, Bool.or_false, cond_true, cond_false, boolOf_undef, nb, beq_self_eq_true, Bool.and_self, ↓ld3, ↓st3, z3, boolOf_undef, nb, ↓aop_lookup, ↓aop_makeFunc, ↓aop_makeMap, ↓aop_mapUpdate, ↓aop_buildSlice, ↓aop_extract, ↓EvC_seq, ↓EvC_skip, ↓EvC_exit, ↓EvC_ret, ↓EvC_block, ↓EvC_cond, ↓ev_region, ↓runL_cons, ↓runL_nil, ↓stepO_none, ↓stepO_guard, ↓aop_move, ↓aop_assign, ↓aop_load, ↓aop_store, ↓aop_alloc, ↓aop_box, ↓aop_nilCheck, ↓aop_fieldAddr, ↓aop_field, ↓aop_indexAddr, ↓aop_binOp, ↓aop_pick, ↓aop_extract, ↓aop_buildSlice, ↓aop_slice, ↓aop_not, ↓aop_call, ↓callA_len, ↓callA_append, ev_tmp, ev_const, ofV_int, ofV_bool, ofV_str, ofV_nilSlice, ofV_nilPtr, putA_some, putA_none, gs_self, gs_ne, List.length_set, Option.bind_some, Option.map_some, intBinA, evL, evO, evP, ne_eq, not_false_eq_true, if_true, if_false, reduceCtorEq, ite_true, ite_false, reduceIte, put_app, AV.cells, and_true, true_and, and_self, decide_true, decide_false, ↓yielded_eq, yv_some, boolOf_bool, List.getElem?_toArray, List.getElem?_cons_zero, List.getElem?_cons_succ, Nat.reduceLT, Nat.reduceEqDiff, beq_self_eq_true, Option.some_beq_some, wr_app, wr_app0, rd_app, rd_app0, rdL_here, rdL_next, wrL_here, wrL_next, spl, List.all_cons, List.all_nil, AV.one, Bool.and_self, Bool.true_and, List.drop_zero, List.take_succ_cons, List.take_zero, List.drop_succ_cons, List.head?_cons, Nat.reduceAdd, Nat.reduceLeDiff, List.length_cons, List.length_nil, List.nil_append, List.cons_append, List.set_cons_zero, List.set_cons_succ, Int.toNat_natCast, Nat.add_zero, b_ft, b_tf, Bool.false_eq_true, ↓rp_done, ↓rp_take, ↓rp_all, ↓ra_nil, ↓ra_first, ↓ra_next, ↓quietO_none, ↓quietO_guard, ↓q_move, ↓q_assign, ↓q_pick, ↓q_binOp, ↓q_field, ↓q_fieldAddr, ↓q_indexAddr, ↓q_nilCheck, set_order, keepV_eq, stBeq_self, ↓rp_graft, put_slot, put_slot_app, List.length_append, List.append_assoc, Nat.add_assoc, ↓aop_build, evP, Bool.true_and, Bool.and_true, Bool.false_and, Bool.and_false, Bool.true_or, Bool.or_true, Bool.false_or, Bool.or_false, Bool.not_true, Bool.not_false]
  refine ⟨_, rfl, by simp only [List.length_set, hlen], by simp only [hlen, gs_self, gs_ne, List.length_set, ne_eq, Nat.reduceEqDiff, Nat.reduceLT, not_false_eq_true], fun t ht => ?_⟩
  simp only [List.mem_cons, List.not_mem_nil, or_false] at ht
  rcases ht with rfl | rfl | rfl <;> simp only [hlen, gs_self, gs_ne, List.length_set, ne_eq, Nat.reduceEqDiff, Nat.reduceLT, not_false_eq_true]

theorem reg32_6' {H : AH} {a b : AV} {xs ys : List Int} {j : Nat} {x y : Int} {tm : List AV} {X : Option (AExit × St)} (hX : EvC Try.prog C0 d32_6 (tm, H) = X) (ha : IntS H a xs) (hb : IntS H b ys) (hx : xs[j]? = some x) (hy : ys[j]? = some y) (hlen : tm.length = 26) (h0 : tm.getD 0 undefA = a) (h1 : tm.getD 1 undefA = b) (h5 : tm.getD 5 undefA = I j) :
    ∃ tm', X = some (.normal, (tm', H)) ∧ tm'.length = 26 ∧ tm'.getD 25 undefA = .bool (x != y) ∧ (∀ t ∈ [0, 1, 5], tm'.getD t undefA = tm.getD t undefA) := by
  subst hX; exact reg32_6 ha hb hx hy hlen h0 h1 h5
theorem same_loop {a b : AV} {H : AH} {xs ys : List Int} (ha : IntS H a xs) (hb : IntS H b ys) (hxy : xs.length = ys.length) (hl : xs.length < 2 ^ 40) : ∀ (d j : Nat) (tm : List AV), xs.length - j = d → j ≤ xs.length →
    tm.length = 26 → tm.getD 0 undefA = a → tm.getD 1 undefA = b → tm.getD 5 undefA = I j →
    ∃ e tm', EvC Try.prog C0 l32_0 (tm, H) = some (e, (tm', H)) ∧ tm'.length = 26 ∧ ((xs.drop j = ys.drop j ∧ e = .exit 0) ∨ (xs.drop j ≠ ys.drop j ∧ e = .ret ∧ tm'.getD 4 undefA = .bool false)) := by
  intro d
  induction d with
  | zero =>
    intro j tm hd hj hlen h0 h1 h5
    obtain rfl : j = xs.length := by omega
    have hlt : decide ((xs.length : Int) < (xs.length : Int)) = false := by simp
    have hla := ha.len
    rw [el32_0]
    simp -implicitDefEqProofs only [b32_0, atPath, Try.f32, Option.getD_some, hlen, h0, h1, h5, hlt, hla, ↓ld3, ↓st3, z3, boolOf_undef, nb, ↓aop_lookup, ↓aop_makeFunc, ↓aop_makeMap, ↓aop_mapUpdate, ↓aop_buildSlice, ↓aop_extract, ↓EvC_seq, ↓EvC_skip, ↓EvC_exit, ↓EvC_ret, ↓EvC_block, ↓EvC_cond, ↓ev_region, ↓runL_cons, ↓runL_nil, ↓stepO_none, ↓stepO_guard, ↓aop_move, ↓aop_assign, ↓aop_load, ↓aop_store, ↓aop_alloc, ↓aop_box, ↓aop_nilCheck, ↓aop_fieldAddr, ↓aop_field, ↓aop_indexAddr, ↓aop_binOp, ↓aop_pick, ↓aop_extract, ↓aop_buildSlice, ↓aop_slice, ↓aop_not, ↓aop_call, ↓callA_len, ↓callA_append, ev_tmp, ev_const, ofV_int, ofV_bool, ofV_str, ofV_nilSlice, ofV_nilPtr, putA_some, putA_none, gs_self, gs_ne, List.length_set, Option.bind_some, Option.map_some, intBinA, evL, evO, evP, ne_eq, not_false_eq_true, if_true, if_false, reduceCtorEq, ite_true, ite_false, reduceIte, put_app, AV.cells, and_true, true_and, and_self, decide_true, decide_false, ↓yielded_eq, yv_some, boolOf_bool, List.getElem?_toArray, List.getElem?_cons_zero, List.getElem?_cons_succ, Nat.reduceLT, Nat.reduceEqDiff, beq_self_eq_true, Option.some_beq_some, wr_app, wr_app0, rd_app, rd_app0, rdL_here, rdL_next, wrL_here, wrL_next, spl, List.all_cons, List.all_nil, AV.one, Bool.and_self, Bool.true_and, List.drop_zero, List.take_succ_cons, List.take_zero, List.drop_succ_cons, List.head?_cons, Nat.reduceAdd, Nat.reduceLeDiff, List.length_cons, List.length_nil, List.nil_append, List.cons_append, List.set_cons_zero, List.set_cons_succ, Int.toNat_natCast, Nat.add_zero, b_ft, b_tf, Bool.false_eq_true]
    refine ⟨_, _, rfl, by simp only [List.length_set, hlen], .inl ⟨?_, rfl⟩⟩
    rw [List.drop_length, List.drop_of_length_le (by omega)]
  | succ d ih =>
    intro j tm hd hj hlen h0 h1 h5
    obtain ⟨x, hx⟩ := get_of (xs := xs) (j := j) (by omega)
    obtain ⟨y, hy⟩ := get_of (xs := ys) (j := j) (by omega)
    have hlt : decide ((j : Int) < (xs.length : Int)) = true := by simp; omega
    have hla := ha.len
    have hw := inc_i (j := j) (by omega)
    have hdx := drop_at hx
    have hdy := drop_at hy
    rw [el32_0]
    simp -implicitDefEqProofs only [b32_0, atPath, Try.f32, Option.getD_some, hlen, h0, h1, h5, hlt, hla, ↓ld3, ↓st3, z3, boolOf_undef, nb, ↓aop_lookup, ↓aop_makeFunc, ↓aop_makeMap, ↓aop_mapUpdate, ↓aop_buildSlice, ↓aop_extract, ↓EvC_seq, ↓EvC_skip, ↓EvC_exit, ↓EvC_ret, ↓EvC_block, ↓EvC_cond, ↓ev_region, ↓runL_cons, ↓runL_nil, ↓stepO_none, ↓stepO_guard, ↓aop_move, ↓aop_assign, ↓aop_load, ↓aop_store, ↓aop_alloc, ↓aop_box, ↓aop_nilCheck, ↓aop_fieldAddr, ↓aop_field, ↓aop_indexAddr, ↓aop_binOp, ↓aop_pick, ↓aop_extract, ↓aop_buildSlice, ↓aop_slice, ↓aop_not, ↓aop_call, ↓callA_len, ↓callA_append, ev_tmp, ev_const, ofV_int, ofV_bool, ofV_str, ofV_nilSlice, ofV_nilPtr, putA_some, putA_none, gs_self, gs_ne, List.length_set, Option.bind_some, Option.map_some, intBinA, evL, evO, evP, ne_eq, not_false_eq_true, if_true, if_false, reduceCtorEq, ite_true, ite_false, reduceIte, put_app, AV.cells, and_true, true_and, and_self, decide_true, decide_false, ↓yielded_eq, yv_some, boolOf_bool, List.getElem?_toArray, List.getElem?_cons_zero, List.getElem?_cons_succ, Nat.reduceLT, Nat.reduceEqDiff, beq_self_eq_true, Option.some_beq_some, wr_app, wr_app0, rd_app, rd_app0, rdL_here, rdL_next, wrL_here, wrL_next, spl, List.all_cons, List.all_nil, AV.one, Bool.and_self, Bool.true_and, List.drop_zero, List.take_succ_cons, List.take_zero, List.drop_succ_cons, List.head?_cons, Nat.reduceAdd, Nat.reduceLeDiff, List.length_cons, List.length_nil, List.nil_append, List.cons_append, List.set_cons_zero, List.set_cons_succ, Int.toNat_natCast, Nat.add_zero, b_ft, b_tf, Bool.false_eq_true]
    generalize hX : EvC Try.prog C0 (Code.region 6 _ true) _ = X
    obtain ⟨tm1, he, hl1, h25, hk⟩ := reg32_6' hX ha hb hx hy (by simp only [List.length_set, hlen]) (by simp only [hlen, h0, gs_self, gs_ne, List.length_set, ne_eq, Nat.reduceEqDiff, Nat.reduceLT, not_false_eq_true]) (by simp only [hlen, h1, gs_self, gs_ne, List.length_set, ne_eq, Nat.reduceEqDiff, Nat.reduceLT, not_false_eq_true]) (by simp only [hlen, h5, gs_self, gs_ne, List.length_set, ne_eq, Nat.reduceEqDiff, Nat.reduceLT, not_false_eq_true])
    subst he
    have k0 := hk 0 (by simp)
    have k1 := hk 1 (by simp)
    have k5 := hk 5 (by simp)
    simp only [hlen, h0, h1, h5, gs_self, gs_ne, List.length_set, ne_eq, Nat.reduceEqDiff, Nat.reduceLT, not_false_eq_true] at k0 k1 k5
    by_cases hne : x = y
    · have hd' : (x != y) = false := by simpa using hne
      rw [hd'] at h25
      simp -implicitDefEqProofs only [hl1, h25, k0, k1, k5, hw, ↓ld3, ↓st3, z3, boolOf_undef, nb, ↓aop_lookup, ↓aop_makeFunc, ↓aop_makeMap, ↓aop_mapUpdate, ↓aop_buildSlice, ↓aop_extract, ↓EvC_seq, ↓EvC_skip, ↓EvC_exit, ↓EvC_ret, ↓EvC_block, ↓EvC_cond, ↓ev_region, ↓runL_cons, ↓runL_nil, ↓stepO_none, ↓stepO_guard, ↓aop_move, ↓aop_assign, ↓aop_load, ↓aop_store, ↓aop_alloc, ↓aop_box, ↓aop_nilCheck, ↓aop_fieldAddr, ↓aop_field, ↓aop_indexAddr, ↓aop_binOp, ↓aop_pick, ↓aop_extract, ↓aop_buildSlice, ↓aop_slice, ↓aop_not, ↓aop_call, ↓callA_len, ↓callA_append, ev_tmp, ev_const, ofV_int, ofV_bool, ofV_str, ofV_nilSlice, ofV_nilPtr, putA_some, putA_none, gs_self, gs_ne, List.length_set, Option.bind_some, Option.map_some, intBinA, evL, evO, evP, ne_eq, not_false_eq_true, if_true, if_false, reduceCtorEq, ite_true, ite_false, reduceIte, put_app, AV.cells, and_true, true_and, and_self, decide_true, decide_false, ↓yielded_eq, yv_some, boolOf_bool, List.getElem?_toArray, List.getElem?_cons_zero, List.getElem?_cons_succ, Nat.reduceLT, Nat.reduceEqDiff, beq_self_eq_true, Option.some_beq_some, wr_app, wr_app0, rd_app, rd_app0, rdL_here, rdL_next, wrL_here, wrL_next, spl, List.all_cons, List.all_nil, AV.one, Bool.and_self, Bool.true_and, List.drop_zero, List.take_succ_cons, List.take_zero, List.drop_succ_cons, List.head?_cons, Nat.reduceAdd, Nat.reduceLeDiff, List.length_cons, List.length_nil, List.nil_append, List.cons_append, List.set_cons_zero, List.set_cons_succ, Int.toNat_natCast, Nat.add_zero, b_ft, b_tf, Bool.false_eq_true]
      generalize hX : EvC Try.prog C0 _ _ = X
      have key : ∀ (tm1 : List AV), EvC Try.prog C0 l32_0 (tm1, H) = X → tm1.length = 26 → tm1.getD 0 undefA = a → tm1.getD 1 undefA = b → tm1.getD 5 undefA = I ((j + 1 : Nat) : Int) → ∃ e tm', X = some (e, (tm', H)) ∧ tm'.length = 26 ∧ ((xs.drop j = ys.drop j ∧ e = .exit 0) ∨ (xs.drop j ≠ ys.drop j ∧ e = .ret ∧ tm'.getD 4 undefA = .bool false)) := by
        intro tm1 h1 g1 g2 g3 g4
        obtain ⟨e, tm', he, hl', hc⟩ := ih (j + 1) tm1 (by omega) (by omega) g1 g2 g3 g4
        refine ⟨e, tm', h1.symm.trans he, hl', ?_⟩
        rw [hdx, hdy, hne]
        simpa using hc
      exact key _ hX (by simp only [List.length_set, hl1]) (by simp only [hl1, k0, gs_self, gs_ne, List.length_set, ne_eq, Nat.reduceEqDiff, Nat.reduceLT, not_false_eq_true]) (by simp only [hl1, k1, gs_self, gs_ne, List.length_set, ne_eq, Nat.reduceEqDiff, Nat.reduceLT, not_false_eq_true]) (by simp only [hl1, gs_self, gs_ne, List.length_set, ne_eq, Nat.reduceEqDiff, Nat.reduceLT, not_false_eq_true])
    · have hd' : (x != y) = true := by simpa using hne
      rw [hd'] at h25
      simp -implicitDefEqProofs only [hl1, h25, k0, k1, k5, ↓ld3, ↓st3, z3, boolOf_undef, nb, ↓aop_lookup, ↓aop_makeFunc, ↓aop_makeMap, ↓aop_mapUpdate, ↓aop_buildSlice, ↓aop_extract, ↓EvC_seq, ↓EvC_skip, ↓EvC_exit, ↓EvC_ret, ↓EvC_block, ↓EvC_cond, ↓ev_region, ↓runL_cons, ↓runL_nil, ↓stepO_none, ↓stepO_guard, ↓aop_move, ↓aop_assign, ↓aop_load, ↓aop_store, ↓aop_alloc, ↓aop_box, ↓aop_nilCheck, ↓aop_fieldAddr, ↓aop_field, ↓aop_indexAddr, ↓aop_binOp, ↓aop_pick, ↓aop_extract, ↓aop_buildSlice, ↓aop_slice, ↓aop_not, ↓aop_call, ↓callA_len, ↓callA_append, ev_tmp, ev_const, ofV_int, ofV_bool, ofV_str, ofV_nilSlice, ofV_nilPtr, putA_some, putA_none, gs_self, gs_ne, List.length_set, Option.bind_some, Option.map_some, intBinA, evL, evO, evP, ne_eq, not_false_eq_true, if_true, if_false, reduceCtorEq, ite_true, ite_false, reduceIte, put_app, AV.cells, and_true, true_and, and_self, decide_true, decide_false, ↓yielded_eq, yv_some, boolOf_bool, List.getElem?_toArray, List.getElem?_cons_zero, List.getElem?_cons_succ, Nat.reduceLT, Nat.reduceEqDiff, beq_self_eq_true, Option.some_beq_some, wr_app, wr_app0, rd_app, rd_app0, rdL_here, rdL_next, wrL_here, wrL_next, spl, List.all_cons, List.all_nil, AV.one, Bool.and_self, Bool.true_and, List.drop_zero, List.take_succ_cons, List.take_zero, List.drop_succ_cons, List.head?_cons, Nat.reduceAdd, Nat.reduceLeDiff, List.length_cons, List.length_nil, List.nil_append, List.cons_append, List.set_cons_zero, List.set_cons_succ, Int.toNat_natCast, Nat.add_zero, b_ft, b_tf, Bool.false_eq_true]
      refine ⟨_, _, rfl, by simp only [List.length_set, hl1], .inr ⟨?_, rfl, ?_⟩⟩
      · rw [hdx, hdy]; intro h; exact hne (List.cons.inj h).1
      · simp only [hl1, gs_self, gs_ne, List.length_set, ne_eq, Nat.reduceEqDiff, Nat.reduceLT, not_false_eq_true]
theorem same_loop' {a b : AV} {H : AH} {xs ys : List Int} {tm : List AV} {X : Option (AExit × St)} (hX : EvC Try.prog C0 l32_0 (tm, H) = X) (ha : IntS H a xs) (hb : IntS H b ys) (hxy : xs.length = ys.length) (hl : xs.length < 2 ^ 40)
    (hlen : tm.length = 26) (h0 : tm.getD 0 undefA = a) (h1 : tm.getD 1 undefA = b) (h5 : tm.getD 5 undefA = I ((0 : Nat) : Int)) :
    ∃ e tm', X = some (e, (tm', H)) ∧ tm'.length = 26 ∧ ((xs = ys ∧ e = .exit 0) ∨ (xs ≠ ys ∧ e = .ret ∧ tm'.getD 4 undefA = .bool false)) := by
  subst hX
  exact same_loop ha hb hxy hl xs.length 0 tm (by omega) (by omega) hlen h0 h1 h5
theorem same_ev {a b : AV} {H : AH} {xs ys : List Int} (ha : IntS H a xs) (hb : IntS H b ys) (hl : xs.length < 2 ^ 40) : Ev Try.prog C0 32 [a, b] H = some (.bool (decide (xs = ys)), H) := by
  have hla := ha.len
  have hlb := hb.len
  have g0 : ([a, b] ++ List.replicate (26 - [a, b].length) undefA).length = 26 := by simp
  have g1 : ([a, b] ++ List.replicate (26 - [a, b].length) undefA).getD 0 undefA = a := rfl
  have g2 : ([a, b] ++ List.replicate (26 - [a, b].length) undefA).getD 1 undefA = b := rfl
  rw [fe32]
  generalize [a, b] ++ List.replicate (26 - [a, b].length) undefA = tm at *
  by_cases hxy : xs.length = ys.length
  · have hd' : ((xs.length : Int) != (ys.length : Int)) = false := by simp [hxy]
    simp -implicitDefEqProofs only [c32, Try.f32, Option.getD_some, g0, g1, g2, hla, hlb, hd', ↓ld3, ↓st3, z3, boolOf_undef, nb, ↓aop_lookup, ↓aop_makeFunc, ↓aop_makeMap, ↓aop_mapUpdate, ↓aop_buildSlice, ↓aop_extract, ↓EvC_seq, ↓EvC_skip, ↓EvC_exit, ↓EvC_ret, ↓EvC_block, ↓EvC_cond, ↓ev_region, ↓runL_cons, ↓runL_nil, ↓stepO_none, ↓stepO_guard, ↓aop_move, ↓aop_assign, ↓aop_load, ↓aop_store, ↓aop_alloc, ↓aop_box, ↓aop_nilCheck, ↓aop_fieldAddr, ↓aop_field, ↓aop_indexAddr, ↓aop_binOp, ↓aop_pick, ↓aop_extract, ↓aop_buildSlice, ↓aop_slice, ↓aop_not, ↓aop_call, ↓callA_len, ↓callA_append, ev_tmp, ev_const, ofV_int, ofV_bool, ofV_str, ofV_nilSlice, ofV_nilPtr, putA_some, putA_none, gs_self, gs_ne, List.length_set, Option.bind_some, Option.map_some, intBinA, evL, evO, evP, ne_eq, not_false_eq_true, if_true, if_false, reduceCtorEq, ite_true, ite_false, reduceIte, put_app, AV.cells, and_true, true_and, and_self, decide_true, decide_false, ↓yielded_eq, yv_some, boolOf_bool, List.getElem?_toArray, List.getElem?_cons_zero, List.getElem?_cons_succ, Nat.reduceLT, Nat.reduceEqDiff, beq_self_eq_true, Option.some_beq_some, wr_app, wr_app0, rd_app, rd_app0, rdL_here, rdL_next, wrL_here, wrL_next, spl, List.all_cons, List.all_nil, AV.one, Bool.and_self, Bool.true_and, List.drop_zero, List.take_succ_cons, List.take_zero, List.drop_succ_cons, List.head?_cons, Nat.reduceAdd, Nat.reduceLeDiff, List.length_cons, List.length_nil, List.nil_append, List.cons_append, List.set_cons_zero, List.set_cons_succ, Int.toNat_natCast, Nat.add_zero, b_ft, b_tf, Bool.false_eq_true]
    generalize hX : EvC Try.prog C0 (Code.loop _) _ = X
    obtain ⟨e, tm', he, hl', hc⟩ := same_loop' hX ha hb hxy hl (by simp only [List.length_set, g0]) (by simp only [g0, g1, gs_self, gs_ne, List.length_set, ne_eq, Nat.reduceEqDiff, Nat.reduceLT, not_false_eq_true]) (by simp only [g0, g2, gs_self, gs_ne, List.length_set, ne_eq, Nat.reduceEqDiff, Nat.reduceLT, not_false_eq_true]) (by simp only [g0, gs_self, gs_ne, List.length_set, ne_eq, Nat.reduceEqDiff, Nat.reduceLT, not_false_eq_true]; rfl)
    subst he
    rcases hc with ⟨h, rfl⟩ | ⟨h, rfl, h4⟩
    · have hd2 : decide (xs = ys) = true := by simpa using h
      simp -implicitDefEqProofs only [hl', hd2, ↓ld3, ↓st3, z3, boolOf_undef, nb, ↓aop_lookup, ↓aop_makeFunc, ↓aop_makeMap, ↓aop_mapUpdate, ↓aop_buildSlice, ↓aop_extract, ↓EvC_seq, ↓EvC_skip, ↓EvC_exit, ↓EvC_ret, ↓EvC_block, ↓EvC_cond, ↓ev_region, ↓runL_cons, ↓runL_nil, ↓stepO_none, ↓stepO_guard, ↓aop_move, ↓aop_assign, ↓aop_load, ↓aop_store, ↓aop_alloc, ↓aop_box, ↓aop_nilCheck, ↓aop_fieldAddr, ↓aop_field, ↓aop_indexAddr, ↓aop_binOp, ↓aop_pick, ↓aop_extract, ↓aop_buildSlice, ↓aop_slice, ↓aop_not, ↓aop_call, ↓callA_len, ↓callA_append, ev_tmp, ev_const, ofV_int, ofV_bool, ofV_str, ofV_nilSlice, ofV_nilPtr, putA_some, putA_none, gs_self, gs_ne, List.length_set, Option.bind_some, Option.map_some, intBinA, evL, evO, evP, ne_eq, not_false_eq_true, if_true, if_false, reduceCtorEq, ite_true, ite_false, reduceIte, put_app, AV.cells, and_true, true_and, and_self, decide_true, decide_false, ↓yielded_eq, yv_some, boolOf_bool, List.getElem?_toArray, List.getElem?_cons_zero, List.getElem?_cons_succ, Nat.reduceLT, Nat.reduceEqDiff, beq_self_eq_true, Option.some_beq_some, wr_app, wr_app0, rd_app, rd_app0, rdL_here, rdL_next, wrL_here, wrL_next, spl, List.all_cons, List.all_nil, AV.one, Bool.and_self, Bool.true_and, List.drop_zero, List.take_succ_cons, List.take_zero, List.drop_succ_cons, List.head?_cons, Nat.reduceAdd, Nat.reduceLeDiff, List.length_cons, List.length_nil, List.nil_append, List.cons_append, List.set_cons_zero, List.set_cons_succ, Int.toNat_natCast, Nat.add_zero, b_ft, b_tf, Bool.false_eq_true]
    · have hd2 : decide (xs = ys) = false := by simpa using h
      simp -implicitDefEqProofs only [hl', hd2, h4, ↓ld3, ↓st3, z3, boolOf_undef, nb, ↓aop_lookup, ↓aop_makeFunc, ↓aop_makeMap, ↓aop_mapUpdate, ↓aop_buildSlice, ↓aop_extract, ↓EvC_seq, ↓EvC_skip, ↓EvC_exit, ↓EvC_ret, ↓EvC_block, ↓EvC_cond, ↓ev_region, ↓runL_cons, ↓runL_nil, ↓stepO_none, ↓stepO_guard, ↓aop_move, ↓aop_assign, ↓aop_load, ↓aop_store, ↓aop_alloc, ↓aop_box, ↓aop_nilCheck, ↓aop_fieldAddr, ↓aop_field, ↓aop_indexAddr, ↓aop_binOp, ↓aop_pick, ↓aop_extract, ↓aop_buildSlice, ↓aop_slice, ↓aop_not, ↓aop_call, ↓callA_len, ↓callA_append, ev_tmp, ev_const, ofV_int, ofV_bool, ofV_str, ofV_nilSlice, ofV_nilPtr, putA_some, putA_none, gs_self, gs_ne, List.length_set, Option.bind_some, Option.map_some, intBinA, evL, evO, evP, ne_eq, not_false_eq_true, if_true, if_false, reduceCtorEq, ite_true, ite_false, reduceIte, put_app, AV.cells, and_true, true_and, and_self, decide_true, decide_false, ↓yielded_eq, yv_some, boolOf_bool, List.getElem?_toArray, List.getElem?_cons_zero, List.getElem?_cons_succ, Nat.reduceLT, Nat.reduceEqDiff, beq_self_eq_true, Option.some_beq_some, wr_app, wr_app0, rd_app, rd_app0, rdL_here, rdL_next, wrL_here, wrL_next, spl, List.all_cons, List.all_nil, AV.one, Bool.and_self, Bool.true_and, List.drop_zero, List.take_succ_cons, List.take_zero, List.drop_succ_cons, List.head?_cons, Nat.reduceAdd, Nat.reduceLeDiff, List.length_cons, List.length_nil, List.nil_append, List.cons_append, List.set_cons_zero, List.set_cons_succ, Int.toNat_natCast, Nat.add_zero, b_ft, b_tf, Bool.false_eq_true]
  · have hd' : ((xs.length : Int) != (ys.length : Int)) = true := by simp; omega
    have hd2 : decide (xs = ys) = false := by simp; intro h; exact hxy (by rw [h])
    simp -implicitDefEqProofs only [c32, Try.f32, Option.getD_some, g0, g1, g2, hla, hlb, hd', hd2, ↓ld3, ↓st3, z3, boolOf_undef, nb, ↓aop_lookup, ↓aop_makeFunc, ↓aop_makeMap, ↓aop_mapUpdate, ↓aop_buildSlice, ↓aop_extract, ↓EvC_seq, ↓EvC_skip, ↓EvC_exit, ↓EvC_ret, ↓EvC_block, ↓EvC_cond, ↓ev_region, ↓runL_cons, ↓runL_nil, ↓stepO_none, ↓stepO_guard, ↓aop_move, ↓aop_assign, ↓aop_load, ↓aop_store, ↓aop_alloc, ↓aop_box, ↓aop_nilCheck, ↓aop_fieldAddr, ↓aop_field, ↓aop_indexAddr, ↓aop_binOp, ↓aop_pick, ↓aop_extract, ↓aop_buildSlice, ↓aop_slice, ↓aop_not, ↓aop_call, ↓callA_len, ↓callA_append, ev_tmp, ev_const, ofV_int, ofV_bool, ofV_str, ofV_nilSlice, ofV_nilPtr, putA_some, putA_none, gs_self, gs_ne, List.length_set, Option.bind_some, Option.map_some, intBinA, evL, evO, evP, ne_eq, not_false_eq_true, if_true, if_false, reduceCtorEq, ite_true, ite_false, reduceIte, put_app, AV.cells, and_true, true_and, and_self, decide_true, decide_false, ↓yielded_eq, yv_some, boolOf_bool, List.getElem?_toArray, List.getElem?_cons_zero, List.getElem?_cons_succ, Nat.reduceLT, Nat.reduceEqDiff, beq_self_eq_true, Option.some_beq_some, wr_app, wr_app0, rd_app, rd_app0, rdL_here, rdL_next, wrL_here, wrL_next, spl, List.all_cons, List.all_nil, AV.one, Bool.and_self, Bool.true_and, List.drop_zero, List.take_succ_cons, List.take_zero, List.drop_succ_cons, List.head?_cons, Nat.reduceAdd, Nat.reduceLeDiff, List.length_cons, List.length_nil, List.nil_append, List.cons_append, List.set_cons_zero, List.set_cons_succ, Int.toNat_natCast, Nat.add_zero, b_ft, b_tf, Bool.false_eq_true]

/-! contains -/
theorem reg43_8 {H : AH} {va vl : AV} {al xs : List Int} {i k : Nat} {x y : Int} {a : Bool} {tm : List AV} (ha : IntS H va al) (hv : IntS H vl xs) (hy : al[k]? = some y) (hx : xs[i]? = some x) (hlen : tm.length = 34) (h0 : tm.getD 0 undefA = va) (h1 : tm.getD 1 undefA = vl) (h5 : tm.getD 5 undefA = I i) (h6 : tm.getD 6 undefA = .bool a) (h7 : tm.getD 7 undefA = I k) :
    ∃ tm', EvC Try.prog C0 d43_8 (tm, H) = some (.normal, (tm', H)) ∧ tm'.length = 34 ∧ tm'.getD 6 undefA = .bool (a || (y == x)) ∧ (∀ t ∈ [0, 1, 5, 7], tm'.getD t undefA = tm.getD t undefA) := by
  obtain ⟨i1, k1, hi1, hr1⟩ := ha.ix k y hy
  obtain ⟨i2, k2, hi2, hr2⟩ := hv.ix i x hx
  have dd := ed43_8
  simp only [d43_8, opsAt, atPath, Try.f43, Option.getD_some] at dd
  simp only [d43_8, opsAt, atPath, Try.f43, Option.getD_some]
  rw [dd]
  cases a
  · simp -implicitDefEqProofs only [hlen, h0, h1, h5, h6, h7, hi1, hi2, hr1, hr2, Bool.not_true, Bool.not_false, Bool.true_and, Bool.and_true, Bool.false_and, Bool.and_false, Bool.true_or, Bool.or_true, Bool.false_or, Bool.or_false, cond_true, cond_false, boolOf_undef, nb, beq_self_eq_true, Bool.and_self, ↓ld3, ↓st3, z3, boolOf_undef, nb, ↓aop_lookup, ↓aop_makeFunc, ↓aop_makeMap, ↓aop_mapUpdate, ↓aop_buildSlice, ↓aop_extract, ↓EvC_seq, ↓EvC_skip, ↓EvC_exit, ↓EvC_ret, ↓EvC_block, ↓EvC_cond, ↓ev_region, ↓runL_cons, ↓runL_nil, ↓stepO_none, ↓stepO_guard, ↓aop_move, ↓aop_assign, ↓aop_load, ↓aop_store, ↓aop_alloc, ↓aop_box, ↓aop_nilCheck, ↓aop_fieldAddr, ↓aop_field, ↓aop_indexAddr, ↓aop_binOp, ↓aop_pick, ↓aop_extract, ↓aop_buildSlice, ↓aop_slice, ↓aop_not, ↓aop_call, ↓callA_len, ↓callA_append, ev_tmp, ev_const, ofV_int, ofV_bool, ofV_str, ofV_nilSlice, ofV_nilPtr, putA_some, putA_none, gs_self, gs_ne, List.length_set, Option.bind_some, Option.map_some, intBinA, evL, evO, evP, ne_eq, not_false_eq_true, if_true, if_false, reduceCtorEq, ite_true, ite_false, reduceIte, put_app, AV.cells, and_true, true_and, and_self, decide_true, decide_false, ↓yielded_eq, yv_some, boolOf_bool, List.getElem?_toArray, List.getElem?_cons_zero, List.getElem?_cons_succ, Nat.reduceLT, Nat.reduceEqDiff, beq_self_eq_true, Option.some_beq_some, wr_app, wr_app0, rd_app, rd_app0, rdL_here, rdL_next, wrL_here, wrL_next, spl, List.all_cons, List.all_nil, AV.one, Bool.and_self, Bool.true_and, List.drop_zero, List.take_succ_cons, List.take_zero, List.drop_succ_cons, List.head?_cons, Nat.reduceAdd, Nat.reduceLeDiff, List.length_cons, List.length_nil, List.nil_append, List.cons_append, List.set_cons_zero, List.set_cons_succ, Int.toNat_natCast, Nat.add_zero, b_ft, b_tf, Bool.false_eq_true, ↓rp_done, ↓rp_take, ↓rp_all, ↓ra_nil, ↓ra_first, ↓ra_next, ↓quietO_none, ↓quietO_guard, ↓q_move, ↓q_assign, ↓q_pick, ↓q_binOp, ↓q_field, ↓q_fieldAddr, ↓q_indexAddr, ↓q_nilCheck, set_order, keepV_eq, stBeq_self, ↓rp_graft, put_slot, put_slot_app, List.length_append, List.append_assoc, Nat.add_assoc, ↓aop_build, evP, Bool.true_and, Bool.and_true, Bool.false_and, Bool.and_false, Bool.true_or, Bool.or_true, Bool.false_or, Bool.or_false, Bool.not_true, Bool.not_false]
    refine ⟨_, rfl, by simp only [List.length_set, hlen], by simp only [hlen, gs_self, gs_ne, List.length_set, ne_eq, Nat.reduceEqDiff, Nat.reduceLT, not_false_eq_true], fun t ht => ?_⟩
    simp only [List.mem_cons, List.not_mem_nil, or_false] at ht
    rcases ht with rfl | rfl | rfl | rfl <;> simp only [hlen, gs_self, gs_ne, List.length_set, ne_eq, Nat.reduceEqDiff, Nat.reduceLT, not_false_eq_true]

  · simp -implicitDefEqProofs only [hlen, h0, h1, h5, h6, h7, Bool.not_true, Bool.not_false, Bool.true_and, Bool.and_true, Bool.false_and, Bool.and_false, Bool.true_or, Bool.or_true, Bool.false_or, Bool.or_false, cond_true, cond_false, boolOf_undef, nb, beq_self_eq_true, Bool.and_self, ↓ld3, ↓st3, z3, boolOf_undef, nb, ↓aop_lookup, ↓aop_makeFunc, ↓aop_makeMap, ↓aop_mapUpdate, ↓aop_buildSlice, ↓aop_extract, ↓EvC_seq, ↓EvC_skip, ↓EvC_exit, ↓EvC_ret, ↓EvC_block, ↓EvC_cond, ↓ev_region, ↓runL_cons, ↓runL_nil, ↓stepO_none, ↓stepO_guard, ↓aop_move, ↓aop_assign, ↓aop_load, ↓aop_store, ↓aop_alloc, ↓aop_box, ↓aop_nilCheck, ↓aop_fieldAddr, ↓aop_field, ↓aop_indexAddr, ↓aop_binOp, ↓aop_pick, ↓aop_extract, ↓aop_buildSlice, ↓aop_slice, ↓aop_not, ↓aop_call, ↓callA_len, ↓callA_append, ev_tmp, ev_const, ofV_int, ofV_bool, ofV_str, ofV_nilSlice, ofV_nilPtr, putA_some, putA_none, gs_self, gs_ne, List.length_set, Option.bind_some, Option.map_some, intBinA, evL, evO, evP, ne_eq, not_false_eq_true, if_true, if_false, reduceCtorEq, ite_true, ite_false, reduceIte, put_app, AV.cells, and_true, true_and, and_self, decide_true, decide_false, ↓yielded_eq, yv_some, boolOf_bool, List.getElem?_toArray, List.getElem?_cons_zero, List.getElem?_cons_succ, Nat.reduceLT, Nat.reduceEqDiff, beq_self_eq_true, Option.some_beq_some, wr_app, wr_app0, rd_app, rd_app0, rdL_here, rdL_next, wrL_here, wrL_next, spl, List.all_cons, List.all_nil, AV.one, Bool.and_self, Bool.true_and, List.drop_zero, List.take_succ_cons, List.take_zero, List.drop_succ_cons, List.head?_cons, Nat.reduceAdd, Nat.reduceLeDiff, List.length_cons, List.length_nil, List.nil_append, List.cons_append, List.set_cons_zero, List.set_cons_succ, Int.toNat_natCast, Nat.add_zero, b_ft, b_tf, Bool.false_eq_true, ↓rp_done, ↓rp_take, ↓rp_all, ↓ra_nil, ↓ra_first, ↓ra_next, ↓quietO_none, ↓quietO_guard, ↓q_move, ↓q_assign, ↓q_pick, ↓q_binOp, ↓q_field, ↓q_fieldAddr, ↓q_indexAddr, ↓q_nilCheck, set_order, keepV_eq, stBeq_self, ↓rp_graft, put_slot, put_slot_app, List.length_append, List.append_assoc, Nat.add_assoc, ↓aop_build, evP, Bool.true_and, Bool.and_true, Bool.false_and, Bool.and_false, Bool.true_or, Bool.or_true, Bool.false_or, Bool.or_false, Bool.not_true, Bool.not_false]
    refine ⟨_, rfl, by simp only [List.length_set, hlen], by simp only [hlen, gs_self, gs_ne, List.length_set, ne_eq, Nat.reduceEqDiff, Nat.reduceLT, not_false_eq_true], fun t ht => ?_⟩
    simp only [List.mem_cons, List.not_mem_nil, or_false] at ht
    rcases ht with rfl | rfl | rfl | rfl <;> simp only [hlen, gs_self, gs_ne, List.length_set, ne_eq, Nat.reduceEqDiff, Nat.reduceLT, not_false_eq_true]

theorem reg43_8' {H : AH} {va vl : AV} {al xs : List Int} {i k : Nat} {x y : Int} {a : Bool} {tm : List AV} {X : Option (AExit × St)} (hX : EvC Try.prog C0 d43_8 (tm, H) = X) (ha : IntS H va al) (hv : IntS H vl xs) (hy : al[k]? = some y) (hx : xs[i]? = some x) (hlen : tm.length = 34) (h0 : tm.getD 0 undefA = va) (h1 : tm.getD 1 undefA = vl) (h5 : tm.getD 5 undefA = I i) (h6 : tm.getD 6 undefA = .bool a) (h7 : tm.getD 7 undefA = I k) :
    ∃ tm', X = some (.normal, (tm', H)) ∧ tm'.length = 34 ∧ tm'.getD 6 undefA = .bool (a || (y == x)) ∧ (∀ t ∈ [0, 1, 5, 7], tm'.getD t undefA = tm.getD t undefA) := by
  subst hX; exact reg43_8 ha hv hy hx hlen h0 h1 h5 h6 h7
theorem con_in {H : AH} {va vl : AV} {al xs : List Int} {i : Nat} {x : Int} (ha : IntS H va al) (hv : IntS H vl xs) (hl : al.length < 2 ^ 40) (hx : xs[i]? = some x) : ∀ (d k : Nat) (a : Bool) (tm : List AV), al.length - k = d → k ≤ al.length →
    tm.length = 34 → tm.getD 0 undefA = va → tm.getD 1 undefA = vl → tm.getD 5 undefA = I i → tm.getD 6 undefA = .bool a → tm.getD 7 undefA = I k →
    ∃ tm', EvC Try.prog C0 l43_0 (tm, H) = some (.exit 2, (tm', H)) ∧ tm'.length = 34 ∧ tm'.getD 6 undefA = .bool (a || decide (x ∈ al.drop k)) ∧ (∀ t ∈ [0, 1, 5], tm'.getD t undefA = tm.getD t undefA) := by
  intro d
  induction d with
  | zero =>
    intro k a tm hd hk hlen h0 h1 h5 h6 h7
    obtain rfl : k = al.length := by omega
    have hlt : decide ((al.length : Int) < (al.length : Int)) = false := by simp
    have hla := ha.len
    rw [el43_0]
    simp -implicitDefEqProofs only [b43_0, atPath, Try.f43, Option.getD_some, hlen, h0, h1, h5, h7, hlt, hla, ↓ld3, ↓st3, z3, boolOf_undef, nb, ↓aop_lookup, ↓aop_makeFunc, ↓aop_makeMap, ↓aop_mapUpdate, ↓aop_buildSlice, ↓aop_extract, ↓EvC_seq, ↓EvC_skip, ↓EvC_exit, ↓EvC_ret, ↓EvC_block, ↓EvC_cond, ↓ev_region, ↓runL_cons, ↓runL_nil, ↓stepO_none, ↓stepO_guard, ↓aop_move, ↓aop_assign, ↓aop_load, ↓aop_store, ↓aop_alloc, ↓aop_box, ↓aop_nilCheck, ↓aop_fieldAddr, ↓aop_field, ↓aop_indexAddr, ↓aop_binOp, ↓aop_pick, ↓aop_extract, ↓aop_buildSlice, ↓aop_slice, ↓aop_not, ↓aop_call, ↓callA_len, ↓callA_append, ev_tmp, ev_const, ofV_int, ofV_bool, ofV_str, ofV_nilSlice, ofV_nilPtr, putA_some, putA_none, gs_self, gs_ne, List.length_set, Option.bind_some, Option.map_some, intBinA, evL, evO, evP, ne_eq, not_false_eq_true, if_true, if_false, reduceCtorEq, ite_true, ite_false, reduceIte, put_app, AV.cells, and_true, true_and, and_self, decide_true, decide_false, ↓yielded_eq, yv_some, boolOf_bool, List.getElem?_toArray, List.getElem?_cons_zero, List.getElem?_cons_succ, Nat.reduceLT, Nat.reduceEqDiff, beq_self_eq_true, Option.some_beq_some, wr_app, wr_app0, rd_app, rd_app0, rdL_here, rdL_next, wrL_here, wrL_next, spl, List.all_cons, List.all_nil, AV.one, Bool.and_self, Bool.true_and, List.drop_zero, List.take_succ_cons, List.take_zero, List.drop_succ_cons, List.head?_cons, Nat.reduceAdd, Nat.reduceLeDiff, List.length_cons, List.length_nil, List.nil_append, List.cons_append, List.set_cons_zero, List.set_cons_succ, Int.toNat_natCast, Nat.add_zero, b_ft, b_tf, Bool.false_eq_true]
    refine ⟨_, rfl, by simp only [List.length_set, hlen], by rw [List.drop_length]; simp only [hlen, h6, List.not_mem_nil, decide_false, Bool.or_false, gs_self, gs_ne, List.length_set, ne_eq, Nat.reduceEqDiff, Nat.reduceLT, not_false_eq_true], fun t ht => ?_⟩
    simp only [List.mem_cons, List.not_mem_nil, or_false] at ht
    rcases ht with rfl | rfl | rfl <;> simp only [hlen, h0, h1, h5, gs_self, gs_ne, List.length_set, ne_eq, Nat.reduceEqDiff, Nat.reduceLT, not_false_eq_true]

  | succ d ih =>
    intro k a tm hd hk hlen h0 h1 h5 h6 h7
    obtain ⟨y, hy⟩ := get_of (xs := al) (j := k) (by omega)
    have hlt : decide ((k : Int) < (al.length : Int)) = true := by simp; omega
    have hla := ha.len
    have hw := inc_i (j := k) (by omega)
    rw [el43_0]
    simp -implicitDefEqProofs only [b43_0, atPath, Try.f43, Option.getD_some, hlen, h0, h1, h5, h7, hlt, hla, ↓ld3, ↓st3, z3, boolOf_undef, nb, ↓aop_lookup, ↓aop_makeFunc, ↓aop_makeMap, ↓aop_mapUpdate, ↓aop_buildSlice, ↓aop_extract, ↓EvC_seq, ↓EvC_skip, ↓EvC_exit, ↓EvC_ret, ↓EvC_block, ↓EvC_cond, ↓ev_region, ↓runL_cons, ↓runL_nil, ↓stepO_none, ↓stepO_guard, ↓aop_move, ↓aop_assign, ↓aop_load, ↓aop_store, ↓aop_alloc, ↓aop_box, ↓aop_nilCheck, ↓aop_fieldAddr, ↓aop_field, ↓aop_indexAddr, ↓aop_binOp, ↓aop_pick, ↓aop_extract, ↓aop_buildSlice, ↓aop_slice, ↓aop_not, ↓aop_call, ↓callA_len, ↓callA_append, ev_tmp, ev_const, ofV_int, ofV_bool, ofV_str, ofV_nilSlice, ofV_nilPtr, putA_some, putA_none, gs_self, gs_ne, List.length_set, Option.bind_some, Option.map_some, intBinA, evL, evO, evP, ne_eq, not_false_eq_true, if_true, if_false, reduceCtorEq, ite_true, ite_false, reduceIte, put_app, AV.cells, and_true, true_and, and_self, decide_true, decide_false, ↓yielded_eq, yv_some, boolOf_bool, List.getElem?_toArray, List.getElem?_cons_zero, List.getElem?_cons_succ, Nat.reduceLT, Nat.reduceEqDiff, beq_self_eq_true, Option.some_beq_some, wr_app, wr_app0, rd_app, rd_app0, rdL_here, rdL_next, wrL_here, wrL_next, spl, List.all_cons, List.all_nil, AV.one, Bool.and_self, Bool.true_and, List.drop_zero, List.take_succ_cons, List.take_zero, List.drop_succ_cons, List.head?_cons, Nat.reduceAdd, Nat.reduceLeDiff, List.length_cons, List.length_nil, List.nil_append, List.cons_append, List.set_cons_zero, List.set_cons_succ, Int.toNat_natCast, Nat.add_zero, b_ft, b_tf, Bool.false_eq_true]
    generalize hX : EvC Try.prog C0 (Code.region 8 _ true) _ = X
    obtain ⟨tm1, he, hl1, k6, hk1⟩ := reg43_8' hX ha hv hy hx (by simp only [List.length_set, hlen]) (by simp only [hlen, h0, gs_self, gs_ne, List.length_set, ne_eq, Nat.reduceEqDiff, Nat.reduceLT, not_false_eq_true]) (by simp only [hlen, h1, gs_self, gs_ne, List.length_set, ne_eq, Nat.reduceEqDiff, Nat.reduceLT, not_false_eq_true]) (by simp only [hlen, h5, gs_self, gs_ne, List.length_set, ne_eq, Nat.reduceEqDiff, Nat.reduceLT, not_false_eq_true]) (by simp only [hlen, h6, gs_self, gs_ne, List.length_set, ne_eq, Nat.reduceEqDiff, Nat.reduceLT, not_false_eq_true]; rfl) (by simp only [hlen, h7, gs_self, gs_ne, List.length_set, ne_eq, Nat.reduceEqDiff, Nat.reduceLT, not_false_eq_true])
    subst he
    have k0 := hk1 0 (by simp)
    have k1 := hk1 1 (by simp)
    have k5 := hk1 5 (by simp)
    have k7 := hk1 7 (by simp)
    simp only [hlen, h0, h1, h5, h7, gs_self, gs_ne, List.length_set, ne_eq, Nat.reduceEqDiff, Nat.reduceLT, not_false_eq_true] at k0 k1 k5 k7
    simp -implicitDefEqProofs only [hl1, k0, k1, k5, k6, k7, hw, ↓ld3, ↓st3, z3, boolOf_undef, nb, ↓aop_lookup, ↓aop_makeFunc, ↓aop_makeMap, ↓aop_mapUpdate, ↓aop_buildSlice, ↓aop_extract, ↓EvC_seq, ↓EvC_skip, ↓EvC_exit, ↓EvC_ret, ↓EvC_block, ↓EvC_cond, ↓ev_region, ↓runL_cons, ↓runL_nil, ↓stepO_none, ↓stepO_guard, ↓aop_move, ↓aop_assign, ↓aop_load, ↓aop_store, ↓aop_alloc, ↓aop_box, ↓aop_nilCheck, ↓aop_fieldAddr, ↓aop_field, ↓aop_indexAddr, ↓aop_binOp, ↓aop_pick, ↓aop_extract, ↓aop_buildSlice, ↓aop_slice, ↓aop_not, ↓aop_call, ↓callA_len, ↓callA_append, ev_tmp, ev_const, ofV_int, ofV_bool, ofV_str, ofV_nilSlice, ofV_nilPtr, putA_some, putA_none, gs_self, gs_ne, List.length_set, Option.bind_some, Option.map_some, intBinA, evL, evO, evP, ne_eq, not_false_eq_true, if_true, if_false, reduceCtorEq, ite_true, ite_false, reduceIte, put_app, AV.cells, and_true, true_and, and_self, decide_true, decide_false, ↓yielded_eq, yv_some, boolOf_bool, List.getElem?_toArray, List.getElem?_cons_zero, List.getElem?_cons_succ, Nat.reduceLT, Nat.reduceEqDiff, beq_self_eq_true, Option.some_beq_some, wr_app, wr_app0, rd_app, rd_app0, rdL_here, rdL_next, wrL_here, wrL_next, spl, List.all_cons, List.all_nil, AV.one, Bool.and_self, Bool.true_and, List.drop_zero, List.take_succ_cons, List.take_zero, List.drop_succ_cons, List.head?_cons, Nat.reduceAdd, Nat.reduceLeDiff, List.length_cons, List.length_nil, List.nil_append, List.cons_append, List.set_cons_zero, List.set_cons_succ, Int.toNat_natCast, Nat.add_zero, b_ft, b_tf, Bool.false_eq_true]
    generalize hX : EvC Try.prog C0 _ _ = X
    have key : ∀ (tm2 : List AV), EvC Try.prog C0 l43_0 (tm2, H) = X → tm2.length = 34 → tm2.getD 0 undefA = va → tm2.getD 1 undefA = vl → tm2.getD 5 undefA = I i → tm2.getD 6 undefA = .bool (a || (y == x)) → tm2.getD 7 undefA = I ((k + 1 : Nat) : Int) →
        ∃ tm', X = some (.exit 2, (tm', H)) ∧ tm'.length = 34 ∧ tm'.getD 6 undefA = .bool (a || decide (x ∈ al.drop k)) ∧ (∀ t ∈ [0, 1, 5], tm'.getD t undefA = tm.getD t undefA) := by
      intro tm2 e q0 q1 q2 q3 q4 q5
      obtain ⟨tm', he, hl', r6, rk⟩ := ih (k + 1) _ tm2 (by omega) (by omega) q0 q1 q2 q3 q4 q5
      refine ⟨tm', e.symm.trans he, hl', ?_, fun t ht => ?_⟩
      · rw [r6, drop_at hy, Bool.or_assoc]
        congr 2
        by_cases hxy : y = x
        · subst hxy; simp
        · have h1 : (y == x) = false := by simpa using hxy
          have h2 : ¬ x = y := fun e => hxy e.symm
          simp [h1, h2]
      · rw [rk t ht]
        simp only [List.mem_cons, List.not_mem_nil, or_false] at ht
        rcases ht with rfl | rfl | rfl
        · rw [q1, h0]
        · rw [q2, h1]
        · rw [q3, h5]
    exact key _ hX (by simp only [List.length_set, hl1]) (by simp only [hl1, k0, gs_self, gs_ne, List.length_set, ne_eq, Nat.reduceEqDiff, Nat.reduceLT, not_false_eq_true]) (by simp only [hl1, k1, gs_self, gs_ne, List.length_set, ne_eq, Nat.reduceEqDiff, Nat.reduceLT, not_false_eq_true]) (by simp only [hl1, k5, gs_self, gs_ne, List.length_set, ne_eq, Nat.reduceEqDiff, Nat.reduceLT, not_false_eq_true]) (by simp only [hl1, k6, gs_self, gs_ne, List.length_set, ne_eq, Nat.reduceEqDiff, Nat.reduceLT, not_false_eq_true]) (by simp only [hl1, gs_self, gs_ne, List.length_set, ne_eq, Nat.reduceEqDiff, Nat.reduceLT, not_false_eq_true])
theorem con_in' {H : AH} {va vl : AV} {al xs : List Int} {i : Nat} {x : Int} {tm : List AV} {X : Option (AExit × St)} (hX : EvC Try.prog C0 l43_0 (tm, H) = X) (ha : IntS H va al) (hv : IntS H vl xs) (hl : al.length < 2 ^ 40) (hx : xs[i]? = some x)
    (hlen : tm.length = 34) (h0 : tm.getD 0 undefA = va) (h1 : tm.getD 1 undefA = vl) (h5 : tm.getD 5 undefA = I i) (h6 : tm.getD 6 undefA = .bool false) (h7 : tm.getD 7 undefA = I ((0 : Nat) : Int)) :
    ∃ tm', X = some (.exit 2, (tm', H)) ∧ tm'.length = 34 ∧ tm'.getD 6 undefA = .bool (decide (x ∈ al)) ∧ (∀ t ∈ [0, 1, 5], tm'.getD t undefA = tm.getD t undefA) := by
  subst hX
  have := con_in ha hv hl hx al.length 0 false tm (by omega) (by omega) hlen h0 h1 h5 h6 h7
  simpa using this
theorem con_out {H : AH} {va vl : AV} {al xs : List Int} (ha : IntS H va al) (hv : IntS H vl xs) (hl : al.length < 2 ^ 40) (hl2 : xs.length < 2 ^ 40) : ∀ (d i : Nat) (tm : List AV), xs.length - i = d → i ≤ xs.length →
    tm.length = 34 → tm.getD 0 undefA = va → tm.getD 1 undefA = vl → tm.getD 5 undefA = I i →
    ∃ e tm', EvC Try.prog C0 l43_1 (tm, H) = some (e, (tm', H)) ∧ tm'.length = 34 ∧ (((∀ x ∈ xs.drop i, x ∈ al) ∧ e = .exit 0) ∨ ((¬ ∀ x ∈ xs.drop i, x ∈ al) ∧ e = .ret ∧ tm'.getD 4 undefA = .bool false)) := by
  intro d
  induction d with
  | zero =>
    intro i tm hd hi hlen h0 h1 h5
    obtain rfl : i = xs.length := by omega
    have hlt : decide ((xs.length : Int) < (xs.length : Int)) = false := by simp
    have hla := hv.len
    rw [el43_1]
    simp -implicitDefEqProofs only [b43_1, atPath, Try.f43, Option.getD_some, hlen, h0, h1, h5, hlt, hla, ↓ld3, ↓st3, z3, boolOf_undef, nb, ↓aop_lookup, ↓aop_makeFunc, ↓aop_makeMap, ↓aop_mapUpdate, ↓aop_buildSlice, ↓aop_extract, ↓EvC_seq, ↓EvC_skip, ↓EvC_exit, ↓EvC_ret, ↓EvC_block, ↓EvC_cond, ↓ev_region, ↓runL_cons, ↓runL_nil, ↓stepO_none, ↓stepO_guard, ↓aop_move, ↓aop_assign, ↓aop_load, ↓aop_store, ↓aop_alloc, ↓aop_box, ↓aop_nilCheck, ↓aop_fieldAddr, ↓aop_field, ↓aop_indexAddr, ↓aop_binOp, ↓aop_pick, ↓aop_extract, ↓aop_buildSlice, ↓aop_slice, ↓aop_not, ↓aop_call, ↓callA_len, ↓callA_append, ev_tmp, ev_const, ofV_int, ofV_bool, ofV_str, ofV_nilSlice, ofV_nilPtr, putA_some, putA_none, gs_self, gs_ne, List.length_set, Option.bind_some, Option.map_some, intBinA, evL, evO, evP, ne_eq, not_false_eq_true, if_true, if_false, reduceCtorEq, ite_true, ite_false, reduceIte, put_app, AV.cells, and_true, true_and, and_self, decide_true, decide_false, ↓yielded_eq, yv_some, boolOf_bool, List.getElem?_toArray, List.getElem?_cons_zero, List.getElem?_cons_succ, Nat.reduceLT, Nat.reduceEqDiff, beq_self_eq_true, Option.some_beq_some, wr_app, wr_app0, rd_app, rd_app0, rdL_here, rdL_next, wrL_here, wrL_next, spl, List.all_cons, List.all_nil, AV.one, Bool.and_self, Bool.true_and, List.drop_zero, List.take_succ_cons, List.take_zero, List.drop_succ_cons, List.head?_cons, Nat.reduceAdd, Nat.reduceLeDiff, List.length_cons, List.length_nil, List.nil_append, List.cons_append, List.set_cons_zero, List.set_cons_succ, Int.toNat_natCast, Nat.add_zero, b_ft, b_tf, Bool.false_eq_true]
    refine ⟨_, _, rfl, by simp only [List.length_set, hlen], .inl ⟨?_, rfl⟩⟩
    rw [List.drop_length]; intro x hx; cases hx
  | succ d ih =>
    intro i tm hd hi hlen h0 h1 h5
    obtain ⟨x, hx⟩ := get_of (xs := xs) (j := i) (by omega)
    have hlt : decide ((i : Int) < (xs.length : Int)) = true := by simp; omega
    have hla := hv.len
    have hw := inc_i (j := i) (by omega)
    have hdx := drop_at hx
    rw [el43_1]
    simp -implicitDefEqProofs only [b43_1, atPath, Try.f43, Option.getD_some, hlen, h0, h1, h5, hlt, hla, ↓ld3, ↓st3, z3, boolOf_undef, nb, ↓aop_lookup, ↓aop_makeFunc, ↓aop_makeMap, ↓aop_mapUpdate, ↓aop_buildSlice, ↓aop_extract, ↓EvC_seq, ↓EvC_skip, ↓EvC_exit, ↓EvC_ret, ↓EvC_block, ↓EvC_cond, ↓ev_region, ↓runL_cons, ↓runL_nil, ↓stepO_none, ↓stepO_guard, ↓aop_move, ↓aop_assign, ↓aop_load, ↓aop_store, ↓aop_alloc, ↓aop_box, ↓aop_nilCheck, ↓aop_fieldAddr, ↓aop_field, ↓aop_indexAddr, ↓aop_binOp, ↓aop_pick, ↓aop_extract, ↓aop_buildSlice, ↓aop_slice, ↓aop_not, ↓aop_call, ↓callA_len, ↓callA_append, ev_tmp, ev_const, ofV_int, ofV_bool, ofV_str, ofV_nilSlice, ofV_nilPtr, putA_some, putA_none, gs_self, gs_ne, List.length_set, Option.bind_some, Option.map_some, intBinA, evL, evO, evP, ne_eq, not_false_eq_true, if_true, if_false, reduceCtorEq, ite_true, ite_false, reduceIte, put_app, AV.cells, and_true, true_and, and_self, decide_true, decide_false, ↓yielded_eq, yv_some, boolOf_bool, List.getElem?_toArray, List.getElem?_cons_zero, List.getElem?_cons_succ, Nat.reduceLT, Nat.reduceEqDiff, beq_self_eq_true, Option.some_beq_some, wr_app, wr_app0, rd_app, rd_app0, rdL_here, rdL_next, wrL_here, wrL_next, spl, List.all_cons, List.all_nil, AV.one, Bool.and_self, Bool.true_and, List.drop_zero, List.take_succ_cons, List.take_zero, List.drop_succ_cons, List.head?_cons, Nat.reduceAdd, Nat.reduceLeDiff, List.length_cons, List.length_nil, List.nil_append, List.cons_append, List.set_cons_zero, List.set_cons_succ, Int.toNat_natCast, Nat.add_zero, b_ft, b_tf, Bool.false_eq_true]
    generalize hX : EvC Try.prog C0 (Code.loop _) _ = X
    obtain ⟨tm1, he, hl1, k6, hk1⟩ := con_in' hX ha hv hl hx (by simp only [List.length_set, hlen]) (by simp only [hlen, h0, gs_self, gs_ne, List.length_set, ne_eq, Nat.reduceEqDiff, Nat.reduceLT, not_false_eq_true]) (by simp only [hlen, h1, gs_self, gs_ne, List.length_set, ne_eq, Nat.reduceEqDiff, Nat.reduceLT, not_false_eq_true]) (by simp only [hlen, h5, gs_self, gs_ne, List.length_set, ne_eq, Nat.reduceEqDiff, Nat.reduceLT, not_false_eq_true]) (by simp only [hlen, gs_self, gs_ne, List.length_set, ne_eq, Nat.reduceEqDiff, Nat.reduceLT, not_false_eq_true]) (by simp only [hlen, gs_self, gs_ne, List.length_set, ne_eq, Nat.reduceEqDiff, Nat.reduceLT, not_false_eq_true]; rfl)
    subst he
    have k0 := hk1 0 (by simp)
    have k1 := hk1 1 (by simp)
    have k5 := hk1 5 (by simp)
    simp only [hlen, h0, h1, h5, gs_self, gs_ne, List.length_set, ne_eq, Nat.reduceEqDiff, Nat.reduceLT, not_false_eq_true] at k0 k1 k5
    by_cases hin : x ∈ al
    · rw [decide_eq_true hin] at k6
      simp -implicitDefEqProofs only [hl1, k0, k1, k5, k6, hw, Bool.not_true, Bool.not_false, Bool.true_and, Bool.and_true, Bool.false_and, Bool.and_false, Bool.true_or, Bool.or_true, Bool.false_or, Bool.or_false, cond_true, cond_false, boolOf_undef, nb, beq_self_eq_true, Bool.and_self, ↓ld3, ↓st3, z3, boolOf_undef, nb, ↓aop_lookup, ↓aop_makeFunc, ↓aop_makeMap, ↓aop_mapUpdate, ↓aop_buildSlice, ↓aop_extract, ↓EvC_seq, ↓EvC_skip, ↓EvC_exit, ↓EvC_ret, ↓EvC_block, ↓EvC_cond, ↓ev_region, ↓runL_cons, ↓runL_nil, ↓stepO_none, ↓stepO_guard, ↓aop_move, ↓aop_assign, ↓aop_load, ↓aop_store, ↓aop_alloc, ↓aop_box, ↓aop_nilCheck, ↓aop_fieldAddr, ↓aop_field, ↓aop_indexAddr, ↓aop_binOp, ↓aop_pick, ↓aop_extract, ↓aop_buildSlice, ↓aop_slice, ↓aop_not, ↓aop_call, ↓callA_len, ↓callA_append, ev_tmp, ev_const, ofV_int, ofV_bool, ofV_str, ofV_nilSlice, ofV_nilPtr, putA_some, putA_none, gs_self, gs_ne, List.length_set, Option.bind_some, Option.map_some, intBinA, evL, evO, evP, ne_eq, not_false_eq_true, if_true, if_false, reduceCtorEq, ite_true, ite_false, reduceIte, put_app, AV.cells, and_true, true_and, and_self, decide_true, decide_false, ↓yielded_eq, yv_some, boolOf_bool, List.getElem?_toArray, List.getElem?_cons_zero, List.getElem?_cons_succ, Nat.reduceLT, Nat.reduceEqDiff, beq_self_eq_true, Option.some_beq_some, wr_app, wr_app0, rd_app, rd_app0, rdL_here, rdL_next, wrL_here, wrL_next, spl, List.all_cons, List.all_nil, AV.one, Bool.and_self, Bool.true_and, List.drop_zero, List.take_succ_cons, List.take_zero, List.drop_succ_cons, List.head?_cons, Nat.reduceAdd, Nat.reduceLeDiff, List.length_cons, List.length_nil, List.nil_append, List.cons_append, List.set_cons_zero, List.set_cons_succ, Int.toNat_natCast, Nat.add_zero, b_ft, b_tf, Bool.false_eq_true]
      generalize hX : EvC Try.prog C0 _ _ = X
      have key : ∀ (tm2 : List AV), EvC Try.prog C0 l43_1 (tm2, H) = X → tm2.length = 34 → tm2.getD 0 undefA = va → tm2.getD 1 undefA = vl → tm2.getD 5 undefA = I ((i + 1 : Nat) : Int) →
          ∃ e tm', X = some (e, (tm', H)) ∧ tm'.length = 34 ∧ (((∀ x ∈ xs.drop i, x ∈ al) ∧ e = .exit 0) ∨ ((¬ ∀ x ∈ xs.drop i, x ∈ al) ∧ e = .ret ∧ tm'.getD 4 undefA = .bool false)) := by
        intro tm2 e q0 q1 q2 q3
        obtain ⟨e', tm', he, hl', hc⟩ := ih (i + 1) tm2 (by omega) (by omega) q0 q1 q2 q3
        refine ⟨e', tm', e.symm.trans he, hl', ?_⟩
        rw [hdx]
        simpa [hin] using hc
      exact key _ hX (by simp only [List.length_set, hl1]) (by simp only [hl1, k0, gs_self, gs_ne, List.length_set, ne_eq, Nat.reduceEqDiff, Nat.reduceLT, not_false_eq_true]) (by simp only [hl1, k1, gs_self, gs_ne, List.length_set, ne_eq, Nat.reduceEqDiff, Nat.reduceLT, not_false_eq_true]) (by simp only [hl1, gs_self, gs_ne, List.length_set, ne_eq, Nat.reduceEqDiff, Nat.reduceLT, not_false_eq_true])
    · rw [decide_eq_false hin] at k6
      simp -implicitDefEqProofs only [hl1, k0, k1, k5, k6, Bool.not_true, Bool.not_false, Bool.true_and, Bool.and_true, Bool.false_and, Bool.and_false, Bool.true_or, Bool.or_true, Bool.false_or, Bool.or_false, cond_true, cond_false, boolOf_undef, nb, beq_self_eq_true, Bool.and_self, ↓ld3, ↓st3, z3, boolOf_undef, nb, ↓aop_lookup, ↓aop_makeFunc, ↓aop_makeMap, ↓aop_mapUpdate, ↓aop_buildSlice, ↓aop_extract, ↓EvC_seq, ↓EvC_skip, ↓EvC_exit, ↓EvC_ret, ↓EvC_block, ↓EvC_cond, ↓ev_region, ↓runL_cons, ↓runL_nil, ↓stepO_none, ↓stepO_guard, ↓aop_move, ↓aop_assign, ↓aop_load, ↓aop_store, ↓aop_alloc, ↓aop_box, ↓aop_nilCheck, ↓aop_fieldAddr, ↓aop_field, ↓aop_indexAddr, ↓aop_binOp, ↓aop_pick, ↓aop_extract, ↓aop_buildSlice, ↓aop_slice, ↓aop_not, ↓aop_call, ↓callA_len, ↓callA_append, ev_tmp, ev_const, ofV_int, ofV_bool, ofV_str, ofV_nilSlice, ofV_nilPtr, putA_some, putA_none, gs_self, gs_ne, List.length_set, Option.bind_some, Option.map_some, intBinA, evL, evO, evP, ne_eq, not_false_eq_true, if_true, if_false, reduceCtorEq, ite_true, ite_false, reduceIte, put_app, AV.cells, and_true, true_and, and_self, decide_true, decide_false, ↓yielded_eq, yv_some, boolOf_bool, List.getElem?_toArray, List.getElem?_cons_zero, List.getElem?_cons_succ, Nat.reduceLT, Nat.reduceEqDiff, beq_self_eq_true, Option.some_beq_some, wr_app, wr_app0, rd_app, rd_app0, rdL_here, rdL_next, wrL_here, wrL_next, spl, List.all_cons, List.all_nil, AV.one, Bool.and_self, Bool.true_and, List.drop_zero, List.take_succ_cons, List.take_zero, List.drop_succ_cons, List.head?_cons, Nat.reduceAdd, Nat.reduceLeDiff, List.length_cons, List.length_nil, List.nil_append, List.cons_append, List.set_cons_zero, List.set_cons_succ, Int.toNat_natCast, Nat.add_zero, b_ft, b_tf, Bool.false_eq_true]
      refine ⟨_, _, rfl, by simp only [List.length_set, hl1], .inr ⟨?_, rfl, by simp only [hl1, gs_self, gs_ne, List.length_set, ne_eq, Nat.reduceEqDiff, Nat.reduceLT, not_false_eq_true]⟩⟩
      rw [hdx]; intro h; exact hin (h x (List.mem_cons_self ..))
theorem con_out' {H : AH} {va vl : AV} {al xs : List Int} {tm : List AV} {X : Option (AExit × St)} (hX : EvC Try.prog C0 l43_1 (tm, H) = X) (ha : IntS H va al) (hv : IntS H vl xs) (hl : al.length < 2 ^ 40) (hl2 : xs.length < 2 ^ 40)
    (hlen : tm.length = 34) (h0 : tm.getD 0 undefA = va) (h1 : tm.getD 1 undefA = vl) (h5 : tm.getD 5 undefA = I ((0 : Nat) : Int)) :
    ∃ e tm', X = some (e, (tm', H)) ∧ tm'.length = 34 ∧ (((∀ x ∈ xs, x ∈ al) ∧ e = .exit 0) ∨ ((¬ ∀ x ∈ xs, x ∈ al) ∧ e = .ret ∧ tm'.getD 4 undefA = .bool false)) := by
  subst hX
  exact con_out ha hv hl hl2 xs.length 0 tm (by omega) (by omega) hlen h0 h1 h5
theorem con_ev {H : AH} {va vl : AV} {al xs : List Int} (ha : IntS H va al) (hv : IntS H vl xs) (hl : al.length < 2 ^ 40) (hl2 : xs.length < 2 ^ 40) (hs : ∀ x ∈ xs, x ∈ al) : Ev Try.prog C0 43 [va, vl] H = some (.bool true, H) := by
  have g0 : ([va, vl] ++ List.replicate (34 - [va, vl].length) undefA).length = 34 := by simp
  have g1 : ([va, vl] ++ List.replicate (34 - [va, vl].length) undefA).getD 0 undefA = va := rfl
  have g2 : ([va, vl] ++ List.replicate (34 - [va, vl].length) undefA).getD 1 undefA = vl := rfl
  rw [fe43]
  generalize [va, vl] ++ List.replicate (34 - [va, vl].length) undefA = tm at *
  simp -implicitDefEqProofs only [c43, Try.f43, Option.getD_some, g0, g1, g2, ↓ld3, ↓st3, z3, boolOf_undef, nb, ↓aop_lookup, ↓aop_makeFunc, ↓aop_makeMap, ↓aop_mapUpdate, ↓aop_buildSlice, ↓aop_extract, ↓EvC_seq, ↓EvC_skip, ↓EvC_exit, ↓EvC_ret, ↓EvC_block, ↓EvC_cond, ↓ev_region, ↓runL_cons, ↓runL_nil, ↓stepO_none, ↓stepO_guard, ↓aop_move, ↓aop_assign, ↓aop_load, ↓aop_store, ↓aop_alloc, ↓aop_box, ↓aop_nilCheck, ↓aop_fieldAddr, ↓aop_field, ↓aop_indexAddr, ↓aop_binOp, ↓aop_pick, ↓aop_extract, ↓aop_buildSlice, ↓aop_slice, ↓aop_not, ↓aop_call, ↓callA_len, ↓callA_append, ev_tmp, ev_const, ofV_int, ofV_bool, ofV_str, ofV_nilSlice, ofV_nilPtr, putA_some, putA_none, gs_self, gs_ne, List.length_set, Option.bind_some, Option.map_some, intBinA, evL, evO, evP, ne_eq, not_false_eq_true, if_true, if_false, reduceCtorEq, ite_true, ite_false, reduceIte, put_app, AV.cells, and_true, true_and, and_self, decide_true, decide_false, ↓yielded_eq, yv_some, boolOf_bool, List.getElem?_toArray, List.getElem?_cons_zero, List.getElem?_cons_succ, Nat.reduceLT, Nat.reduceEqDiff, beq_self_eq_true, Option.some_beq_some, wr_app, wr_app0, rd_app, rd_app0, rdL_here, rdL_next, wrL_here, wrL_next, spl, List.all_cons, List.all_nil, AV.one, Bool.and_self, Bool.true_and, List.drop_zero, List.take_succ_cons, List.take_zero, List.drop_succ_cons, List.head?_cons, Nat.reduceAdd, Nat.reduceLeDiff, List.length_cons, List.length_nil, List.nil_append, List.cons_append, List.set_cons_zero, List.set_cons_succ, Int.toNat_natCast, Nat.add_zero, b_ft, b_tf, Bool.false_eq_true]
  generalize hX : EvC Try.prog C0 (Code.loop _) _ = X
  obtain ⟨e, tm', he, hl', hc⟩ := con_out' hX ha hv hl hl2 (by simp only [List.length_set, g0]) (by simp only [g0, g1, gs_self, gs_ne, List.length_set, ne_eq, Nat.reduceEqDiff, Nat.reduceLT, not_false_eq_true]) (by simp only [g0, g2, gs_self, gs_ne, List.length_set, ne_eq, Nat.reduceEqDiff, Nat.reduceLT, not_false_eq_true]) (by simp only [g0, gs_self, gs_ne, List.length_set, ne_eq, Nat.reduceEqDiff, Nat.reduceLT, not_false_eq_true]; rfl)
  subst he
  rcases hc with ⟨h, rfl⟩ | ⟨h, rfl, h4⟩
  · simp -implicitDefEqProofs only [hl', ↓ld3, ↓st3, z3, boolOf_undef, nb, ↓aop_lookup, ↓aop_makeFunc, ↓aop_makeMap, ↓aop_mapUpdate, ↓aop_buildSlice, ↓aop_extract, ↓EvC_seq, ↓EvC_skip, ↓EvC_exit, ↓EvC_ret, ↓EvC_block, ↓EvC_cond, ↓ev_region, ↓runL_cons, ↓runL_nil, ↓stepO_none, ↓stepO_guard, ↓aop_move, ↓aop_assign, ↓aop_load, ↓aop_store, ↓aop_alloc, ↓aop_box, ↓aop_nilCheck, ↓aop_fieldAddr, ↓aop_field, ↓aop_indexAddr, ↓aop_binOp, ↓aop_pick, ↓aop_extract, ↓aop_buildSlice, ↓aop_slice, ↓aop_not, ↓aop_call, ↓callA_len, ↓callA_append, ev_tmp, ev_const, ofV_int, ofV_bool, ofV_str, ofV_nilSlice, ofV_nilPtr, putA_some, putA_none, gs_self, gs_ne, List.length_set, Option.bind_some, Option.map_some, intBinA, evL, evO, evP, ne_eq, not_false_eq_true, if_true, if_false, reduceCtorEq, ite_true, ite_false, reduceIte, put_app, AV.cells, and_true, true_and, and_self, decide_true, decide_false, ↓yielded_eq, yv_some, boolOf_bool, List.getElem?_toArray, List.getElem?_cons_zero, List.getElem?_cons_succ, Nat.reduceLT, Nat.reduceEqDiff, beq_self_eq_true, Option.some_beq_some, wr_app, wr_app0, rd_app, rd_app0, rdL_here, rdL_next, wrL_here, wrL_next, spl, List.all_cons, List.all_nil, AV.one, Bool.and_self, Bool.true_and, List.drop_zero, List.take_succ_cons, List.take_zero, List.drop_succ_cons, List.head?_cons, Nat.reduceAdd, Nat.reduceLeDiff, List.length_cons, List.length_nil, List.nil_append, List.cons_append, List.set_cons_zero, List.set_cons_succ, Int.toNat_natCast, Nat.add_zero, b_ft, b_tf, Bool.false_eq_true]
  · exact absurd hs h
end Go.Dv

/- ref22.Held (printed by a program of mine, own work). -/
namespace Go.Dv
open Go.Proofs
set_option maxRecDepth 100000
set_option linter.unusedSimpArgs false
set_option linter.unusedVariables false
attribute [local congr] bind_congr_first


/-- one more number behind a row of the call's own -/
theorem app_more {b0 : Nat} {G : AH} {b : Nat} {h : List Int} (p : Int) (hb0 : b0 ≤ G.length) (hs : HS b0 G h b) (hl : h.length < 2 ^ 39) :
    ∃ G', appendA Try.prog none 46 (some 46) (hV h b) (.slice G.length 0 1 1 1 true) (G ++ [AObj.cells (ii [p]) 3]) = some (ov (G.length + 1) (h.length + 1), G' ++ [.cells (ii (h ++ [p])) 3]) ∧ G'.length = G.length + 1 ∧ (∀ j, j < b0 → G'[j]? = G[j]?) := by
  have hr : rdCells (G ++ [AObj.cells (ii [p]) 3]) G.length 0 1 = some (ii [p]) := by
    have : (G ++ [AObj.cells (ii [p]) 3])[G.length]? = some (.cells (ii [p]) 3) := by simp
    exact rd_at this rfl
  by_cases hne : h = []
  · subst hne
    refine ⟨G ++ [AObj.cells (ii [p]) 3], ?_, by simp, fun j hj => List.getElem?_append_left (by omega)⟩
    rw [hV_nil, app_nil hr (by omega) (by omega)]
    simp
  · have hb := hs.at' hne
    have hbl := lt_of_get hb
    have hb2 : (G ++ [AObj.cells (ii [p]) 3])[b]? = some (.cells (ii h) 3) := by rw [List.getElem?_append_left hbl]; exact hb
    have ho : rdCells (G ++ [AObj.cells (ii [p]) 3]) b 0 h.length = some (ii h) := by
      rw [rd_ints hb2 (by omega), List.drop_zero, List.take_length]
    refine ⟨(G ++ [AObj.cells (ii [p]) 3]).set b .dead, ?_, by simp, fun j hj => ?_⟩
    · rw [hV_cons hne, app_grow hr (by omega) hb2 ho (by omega)]
      simp
    · rw [List.getElem?_set_ne (by have := hs.ge hne; omega), List.getElem?_append_left (by omega)]
/-- the first one is left out, one more behind -/
theorem app_cut {b0 : Nat} {G : AH} {b : Nat} {h : List Int} (p : Int) (hb0 : b0 ≤ G.length) (hs : HS b0 G h b) (hne : h ≠ []) (hl : h.length < 2 ^ 39) :
    ∃ G', appendA Try.prog none 46 (some 46) (.slice b 1 1 (h.length - 1) (h.length - 1) false) (.slice G.length 0 1 1 1 true) (G ++ [AObj.cells (ii [p]) 3]) = some (ov (G.length + 1) h.length, G' ++ [.cells (ii (h.drop 1 ++ [p])) 3]) ∧ G'.length = G.length + 1 ∧ (∀ j, j < b0 → G'[j]? = G[j]?) := by
  have hr : rdCells (G ++ [AObj.cells (ii [p]) 3]) G.length 0 1 = some (ii [p]) := by
    have : (G ++ [AObj.cells (ii [p]) 3])[G.length]? = some (.cells (ii [p]) 3) := by simp
    exact rd_at this rfl
  have hpos := List.length_pos_iff.2 hne
  have hb := hs.at' hne
  have hbl := lt_of_get hb
  have hb2 : (G ++ [AObj.cells (ii [p]) 3])[b]? = some (.cells (ii h) 3) := by rw [List.getElem?_append_left hbl]; exact hb
  have ho : rdCells (G ++ [AObj.cells (ii [p]) 3]) b 1 (h.length - 1) = some (ii (h.drop 1)) := by
    rw [rd_ints hb2 (by omega), List.take_of_length_le (by simp)]
  refine ⟨(G ++ [AObj.cells (ii [p]) 3]).set b .dead, ?_, by simp, fun j hj => ?_⟩
  · rw [app_grow hr (by omega) hb2 ho (by omega), show h.length - 1 + 1 = h.length by omega]
    simp
  · rw [List.getElem?_set_ne (by have := hs.ge hne; omega), List.getElem?_append_left (by omega)]
theorem app_to {b0 : Nat} {G G' : AH} {h : List Int} (hb0 : b0 ≤ G.length) (hl : G'.length = G.length + 1) (hk : ∀ j, j < b0 → G'[j]? = G[j]?) : UseTo b0 G h (G' ++ [.cells (ii h) 3]) (G.length + 1) :=
  ⟨⟨fun _ => by omega, fun _ => by rw [List.getElem?_append_right (by omega), hl]; simp⟩, fun j hj => by rw [List.getElem?_append_left (by omega)]; exact hk j hj, by simp; omega⟩

theorem reg41_10 {H : AH} {v w : AV} {t h : List Int} {i k : Nat} {x p : Int} {tm : List AV} (hv : IntS H v t) (hw : IntS H w h) (hx : h[k]? = some x) (hp : t[i]? = some p) (hlen : tm.length = 61) (h0 : tm.getD 0 undefA = v) (h6 : tm.getD 6 undefA = w) (h8 : tm.getD 8 undefA = I i) (h10 : tm.getD 10 undefA = I k) :
    ∃ tm', EvC Try.prog C0 d41_10 (tm, H) = some (.normal, (tm', H)) ∧ tm'.length = 61 ∧ tm'.getD 31 undefA = .bool (x != p) ∧ (∀ t ∈ [0, 1, 6, 7, 8, 9, 10], tm'.getD t undefA = tm.getD t undefA) := by
  obtain ⟨i1, k1, hi1, hr1⟩ := hw.ix k x hx
  obtain ⟨i2, k2, hi2, hr2⟩ := hv.ix i p hp
  have dd := ed41_10
  simp only [d41_10, opsAt, atPath, Try.f41, Option.getD_some] at dd
  simp only [d41_10, opsAt, atPath, Try.f41, Option.getD_some]
  rw [dd]
  simp -implicitDefEqProofs only [hlen, h0, h6, h8, h10, hi1, hi2, hr1, hr2, Bool.not_true, Bool.not_false, Bool.true_and, Bool.and_true, Bool.false_and, Bool.and_false, Bool.true_or, Bool.or_true, Bool.false_or, Bool.or_false, cond_true, cond_false, boolOf_undef, nb, beq_self_eq_true, Bool.and_self, ↓ld3, ↓st3, z3, boolOf_undef, nb, ↓aop_lookup, ↓aop_makeFunc, ↓aop_makeMap, ↓aop_mapUpdate, ↓aop_buildSlice, ↓aop_extract, ↓EvC_seq, ↓EvC_skip, ↓EvC_exit, ↓EvC_ret, ↓EvC_block, ↓EvC_cond, ↓ev_region, ↓runL_cons, ↓runL_nil, ↓stepO_none, ↓stepO_guard, ↓aop_move, ↓aop_assign, ↓aop_load, ↓aop_store, ↓aop_alloc, ↓aop_box, ↓aop_nilCheck, ↓aop_fieldAddr, ↓aop_field, ↓aop_indexAddr, ↓aop_binOp, ↓aop_pick, ↓aop_extract, ↓aop_buildSlice, ↓aop_slice, ↓aop_not, ↓aop_call, ↓callA_len, ↓callA_append, ev_tmp, ev_const, ofV_int, ofV_bool, ofV_str, ofV_nilSlice, ofV_nilPtr, putA_some, putA_none, gs_self, gs_ne, List.length_set, Option.bind_some, Option.map_some, intBinA, evL, evO, evP, ne_eq, not_false_eq_true, if_true, if_false, reduceCtorEq, ite_true, ite_false, reduceIte, put_app, AV.cells, and_true, true_and, and_self, decide_true, decide_false, ↓yielded_eq, yv_some, boolOf_bool, List.getElem?_toArray, List.getElem?_cons_zero, List.getElem?_cons_succ, Nat.reduceLT, Nat.reduceEqDiff, beq_self_eq_true, Option.some_beq_some, wr_app, wr_app0, rd_app, rd_app0, rdL_here, rdL_next, wrL_here, wrL_next, spl, List.all_cons, List.all_nil, AV.one, Bool.and_self, Bool.true_and, List.drop_zero, List.take_succ_cons, List.take_zero, List.drop_succ_cons, List.head?_cons, Nat.reduceAdd, Nat.reduceLeDiff, List.length_cons, List.length_nil, List.nil_append, List.cons_append, List.set_cons_zero, List.set_cons_succ, Int.toNat_natCast, Nat.add_zero, b_ft, b_tf, Bool.false_eq_true, ↓rp_done, ↓rp_take, ↓rp_all, ↓ra_nil, ↓ra_first, ↓ra_next, ↓quietO_none, ↓quietO_guard, ↓q_move, ↓q_assign, ↓q_pick, ↓q_binOp, ↓q_field, ↓q_fieldAddr, ↓q_indexAddr, ↓q_nilCheck, set_order, keepV_eq, stBeq_self, ↓rp_graft, put_slot, put_slot_app, List.length_append, List.append_assoc, Nat.add_assoc, ↓aop_build, evP, Bool.true_and, Bool.and_true, Bool.false_and, Bool.and_false, Bool.true_or, Bool.or_true, Bool.false_or, Bool.or_false, Bool.not_true, Bool.not_false]
  refine ⟨_, rfl, by simp only [List.length_set, hlen], by simp only [hlen, gs_self, gs_ne, List.length_set, ne_eq, Nat.reduceEqDiff, Nat.reduceLT, not_false_eq_true], fun t ht => ?_⟩
  simp only [List.mem_cons, List.not_mem_nil, or_false] at ht
  rcases ht with rfl | rfl | rfl | rfl | rfl | rfl | rfl <;> simp only [hlen, gs_self, gs_ne, List.length_set, ne_eq, Nat.reduceEqDiff, Nat.reduceLT, not_false_eq_true]

theorem reg41_10' {H : AH} {v w : AV} {t h : List Int} {i k : Nat} {x p : Int} {tm : List AV} {X : Option (AExit × St)} (hX : EvC Try.prog C0 d41_10 (tm, H) = X) (hv : IntS H v t) (hw : IntS H w h) (hx : h[k]? = some x) (hp : t[i]? = some p) (hlen : tm.length = 61) (h0 : tm.getD 0 undefA = v) (h6 : tm.getD 6 undefA = w) (h8 : tm.getD 8 undefA = I i) (h10 : tm.getD 10 undefA = I k) :
    ∃ tm', X = some (.normal, (tm', H)) ∧ tm'.length = 61 ∧ tm'.getD 31 undefA = .bool (x != p) ∧ (∀ t ∈ [0, 1, 6, 7, 8, 9, 10], tm'.getD t undefA = tm.getD t undefA) := by
  subst hX; exact reg41_10 hv hw hx hp hlen h0 h6 h8 h10

/-- what stands while the pages but one are copied -/
structure CopyInv (G1 : AH) (v w : AV) (f c i : Nat) (tm : List AV) (G : AH) (left : List Int) (k b : Nat) : Prop where
  len : tm.length = 61
  t0 : tm.getD 0 undefA = v
  t1 : tm.getD 1 undefA = I f
  t6 : tm.getD 6 undefA = w
  t7 : tm.getD 7 undefA = I c
  t8 : tm.getD 8 undefA = I i
  t9 : tm.getD 9 undefA = hV left b
  t10 : tm.getD 10 undefA = I k
  hs : HS G1.length G left b
  keep : ∀ j, j < G1.length → G[j]? = G1[j]?
  big : G1.length ≤ G.length
theorem copy_round {G1 : AH} {v w : AV} {t h : List Int} {f c i k b : Nat} {x p : Int} {tm : List AV} {G : AH} {left : List Int} (hv : IntS G1 v t) (hw : IntS G1 w h) (hh : h.length < 2 ^ 38) (hx : h[k]? = some x) (hp : t[i]? = some p) (hll : left.length ≤ k) (hI : CopyInv G1 v w f c i tm G left k b) :
    ∀ X, EvC Try.prog C0 l41_0 (tm, G) = X → ∃ tm' G' b', EvC Try.prog C0 l41_0 (tm', G') = X ∧ CopyInv G1 v w f c i tm' G' (if x != p then left ++ [x] else left) (k + 1) b' := by
  intro X hX
  have hkl := lt_of_get hx
  have hlen := hI.len
  have h0 := hI.t0
  have h1 := hI.t1
  have h6 := hI.t6
  have h7 := hI.t7
  have h8 := hI.t8
  have h9 := hI.t9
  have h10 := hI.t10
  have hwG := hw.same hI.keep
  have hvG := hv.same hI.keep
  have hla := hwG.len
  have hlt : decide ((k : Int) < (h.length : Int)) = true := by simp; omega
  have hinc := inc_i (j := k) (by omega)
  rw [el41_0] at hX
  simp -implicitDefEqProofs only [b41_0, atPath, Try.f41, Option.getD_some, hlen, h0, h1, h6, h7, h8, h9, h10, hla, hlt, ↓ld3, ↓st3, z3, boolOf_undef, nb, ↓aop_lookup, ↓aop_makeFunc, ↓aop_makeMap, ↓aop_mapUpdate, ↓aop_buildSlice, ↓aop_extract, ↓EvC_seq, ↓EvC_skip, ↓EvC_exit, ↓EvC_ret, ↓EvC_block, ↓EvC_cond, ↓ev_region, ↓runL_cons, ↓runL_nil, ↓stepO_none, ↓stepO_guard, ↓aop_move, ↓aop_assign, ↓aop_load, ↓aop_store, ↓aop_alloc, ↓aop_box, ↓aop_nilCheck, ↓aop_fieldAddr, ↓aop_field, ↓aop_indexAddr, ↓aop_binOp, ↓aop_pick, ↓aop_extract, ↓aop_buildSlice, ↓aop_slice, ↓aop_not, ↓aop_call, ↓callA_len, ↓callA_append, ev_tmp, ev_const, ofV_int, ofV_bool, ofV_str, ofV_nilSlice, ofV_nilPtr, putA_some, putA_none, gs_self, gs_ne, List.length_set, Option.bind_some, Option.map_some, intBinA, evL, evO, evP, ne_eq, not_false_eq_true, if_true, if_false, reduceCtorEq, ite_true, ite_false, reduceIte, put_app, AV.cells, and_true, true_and, and_self, decide_true, decide_false, ↓yielded_eq, yv_some, boolOf_bool, List.getElem?_toArray, List.getElem?_cons_zero, List.getElem?_cons_succ, Nat.reduceLT, Nat.reduceEqDiff, beq_self_eq_true, Option.some_beq_some, wr_app, wr_app0, rd_app, rd_app0, rdL_here, rdL_next, wrL_here, wrL_next, spl, List.all_cons, List.all_nil, AV.one, Bool.and_self, Bool.true_and, List.drop_zero, List.take_succ_cons, List.take_zero, List.drop_succ_cons, List.head?_cons, Nat.reduceAdd, Nat.reduceLeDiff, List.length_cons, List.length_nil, List.nil_append, List.cons_append, List.set_cons_zero, List.set_cons_succ, Int.toNat_natCast, Nat.add_zero, b_ft, b_tf, Bool.false_eq_true] at hX
  generalize hY : EvC Try.prog C0 (Code.region 10 _ true) _ = Y at hX
  obtain ⟨tm1, he, hl1, k31, hk⟩ := reg41_10' hY hvG hwG hx hp (by simp only [List.length_set, hlen]) (by simp only [hlen, h0, gs_self, gs_ne, List.length_set, ne_eq, Nat.reduceEqDiff, Nat.reduceLT, not_false_eq_true]) (by simp only [hlen, h6, gs_self, gs_ne, List.length_set, ne_eq, Nat.reduceEqDiff, Nat.reduceLT, not_false_eq_true]) (by simp only [hlen, h8, gs_self, gs_ne, List.length_set, ne_eq, Nat.reduceEqDiff, Nat.reduceLT, not_false_eq_true]) (by simp only [hlen, h10, gs_self, gs_ne, List.length_set, ne_eq, Nat.reduceEqDiff, Nat.reduceLT, not_false_eq_true])
  subst he
  have k0 := hk 0 (by simp)
  have k1 := hk 1 (by simp)
  have k6 := hk 6 (by simp)
  have k7 := hk 7 (by simp)
  have k8 := hk 8 (by simp)
  have k9 := hk 9 (by simp)
  have k10 := hk 10 (by simp)
  simp only [hlen, h0, h1, h6, h7, h8, h9, h10, gs_self, gs_ne, List.length_set, ne_eq, Nat.reduceEqDiff, Nat.reduceLT, not_false_eq_true] at k0 k1 k6 k7 k8 k9 k10
  by_cases hxp : x = p
  · have e : (x != p) = false := by simpa using hxp
    rw [e] at k31
    rw [e]
    simp only [Bool.false_eq_true, if_false]
    simp -implicitDefEqProofs only [hl1, k0, k1, k6, k7, k8, k9, k10, k31, hinc, ↓ld3, ↓st3, z3, boolOf_undef, nb, ↓aop_lookup, ↓aop_makeFunc, ↓aop_makeMap, ↓aop_mapUpdate, ↓aop_buildSlice, ↓aop_extract, ↓EvC_seq, ↓EvC_skip, ↓EvC_exit, ↓EvC_ret, ↓EvC_block, ↓EvC_cond, ↓ev_region, ↓runL_cons, ↓runL_nil, ↓stepO_none, ↓stepO_guard, ↓aop_move, ↓aop_assign, ↓aop_load, ↓aop_store, ↓aop_alloc, ↓aop_box, ↓aop_nilCheck, ↓aop_fieldAddr, ↓aop_field, ↓aop_indexAddr, ↓aop_binOp, ↓aop_pick, ↓aop_extract, ↓aop_buildSlice, ↓aop_slice, ↓aop_not, ↓aop_call, ↓callA_len, ↓callA_append, ev_tmp, ev_const, ofV_int, ofV_bool, ofV_str, ofV_nilSlice, ofV_nilPtr, putA_some, putA_none, gs_self, gs_ne, List.length_set, Option.bind_some, Option.map_some, intBinA, evL, evO, evP, ne_eq, not_false_eq_true, if_true, if_false, reduceCtorEq, ite_true, ite_false, reduceIte, put_app, AV.cells, and_true, true_and, and_self, decide_true, decide_false, ↓yielded_eq, yv_some, boolOf_bool, List.getElem?_toArray, List.getElem?_cons_zero, List.getElem?_cons_succ, Nat.reduceLT, Nat.reduceEqDiff, beq_self_eq_true, Option.some_beq_some, wr_app, wr_app0, rd_app, rd_app0, rdL_here, rdL_next, wrL_here, wrL_next, spl, List.all_cons, List.all_nil, AV.one, Bool.and_self, Bool.true_and, List.drop_zero, List.take_succ_cons, List.take_zero, List.drop_succ_cons, List.head?_cons, Nat.reduceAdd, Nat.reduceLeDiff, List.length_cons, List.length_nil, List.nil_append, List.cons_append, List.set_cons_zero, List.set_cons_succ, Int.toNat_natCast, Nat.add_zero, b_ft, b_tf, Bool.false_eq_true] at hX
    refine ⟨_, G, b, hX, ?_, ?_, ?_, ?_, ?_, ?_, ?_, ?_, hI.hs, hI.keep, hI.big⟩
    all_goals simp only [hl1, k0, k1, k6, k7, k8, k9, k10, gs_self, gs_ne, List.length_set, ne_eq, Nat.reduceEqDiff, Nat.reduceLT, not_false_eq_true]
  · have e : (x != p) = true := by simpa using hxp
    rw [e] at k31
    rw [e]
    simp only [if_true]
    obtain ⟨G', ea, hlG, hkG⟩ := app_more x hI.big hI.hs (by omega)
    have hu := app_to (h := left ++ [x]) hI.big hlG hkG
    obtain ⟨i1, j1, hi1, hr1⟩ := hwG.ix k x hx
    have eb := bs46 G x
    simp -implicitDefEqProofs only [hl1, k0, k1, k6, k7, k8, k9, k10, k31, hinc, hi1, hr1, ea, eb, ↓ld3, ↓st3, z3, boolOf_undef, nb, ↓aop_lookup, ↓aop_makeFunc, ↓aop_makeMap, ↓aop_mapUpdate, ↓aop_buildSlice, ↓aop_extract, ↓EvC_seq, ↓EvC_skip, ↓EvC_exit, ↓EvC_ret, ↓EvC_block, ↓EvC_cond, ↓ev_region, ↓runL_cons, ↓runL_nil, ↓stepO_none, ↓stepO_guard, ↓aop_move, ↓aop_assign, ↓aop_load, ↓aop_store, ↓aop_alloc, ↓aop_box, ↓aop_nilCheck, ↓aop_fieldAddr, ↓aop_field, ↓aop_indexAddr, ↓aop_binOp, ↓aop_pick, ↓aop_extract, ↓aop_buildSlice, ↓aop_slice, ↓aop_not, ↓aop_call, ↓callA_len, ↓callA_append, ev_tmp, ev_const, ofV_int, ofV_bool, ofV_str, ofV_nilSlice, ofV_nilPtr, putA_some, putA_none, gs_self, gs_ne, List.length_set, Option.bind_some, Option.map_some, intBinA, evL, evO, evP, ne_eq, not_false_eq_true, if_true, if_false, reduceCtorEq, ite_true, ite_false, reduceIte, put_app, AV.cells, and_true, true_and, and_self, decide_true, decide_false, ↓yielded_eq, yv_some, boolOf_bool, List.getElem?_toArray, List.getElem?_cons_zero, List.getElem?_cons_succ, Nat.reduceLT, Nat.reduceEqDiff, beq_self_eq_true, Option.some_beq_some, wr_app, wr_app0, rd_app, rd_app0, rdL_here, rdL_next, wrL_here, wrL_next, spl, List.all_cons, List.all_nil, AV.one, Bool.and_self, Bool.true_and, List.drop_zero, List.take_succ_cons, List.take_zero, List.drop_succ_cons, List.head?_cons, Nat.reduceAdd, Nat.reduceLeDiff, List.length_cons, List.length_nil, List.nil_append, List.cons_append, List.set_cons_zero, List.set_cons_succ, Int.toNat_natCast, Nat.add_zero, b_ft, b_tf, Bool.false_eq_true] at hX
    refine ⟨_, _, G.length + 1, hX, ?_, ?_, ?_, ?_, ?_, ?_, ?_, ?_, hu.1, fun j hj => (hu.2.1 j hj).trans (hI.keep j hj), Nat.le_trans hI.big hu.2.2⟩
    rotate_left 6
    · rw [hV_cons (h := left ++ [x]) (by simp), show (left ++ [x]).length = left.length + 1 by simp]
      simp only [hl1, gs_self, gs_ne, List.length_set, ne_eq, Nat.reduceEqDiff, Nat.reduceLT, not_false_eq_true]
    all_goals simp only [hl1, k0, k1, k6, k7, k8, k9, k10, gs_self, gs_ne, List.length_set, ne_eq, Nat.reduceEqDiff, Nat.reduceLT, not_false_eq_true]
def copyS (p : Int) (l : List Int) (left : List Int) : List Int := l.foldl (fun left x => if x != p then left ++ [x] else left) left
theorem copyS_eq (p : Int) : ∀ (l left : List Int), copyS p l left = left ++ l.filter (fun x => x != p)
  | [], left => by simp [copyS]
  | x :: l, left => by
    have ih := copyS_eq p l (if x != p then left ++ [x] else left)
    show copyS p l _ = _
    rw [ih, List.filter_cons]
    by_cases h : (x != p) = true
    · simp [h]
    · simp [h]
theorem copy_end {G1 : AH} {v w : AV} {h : List Int} {f c i b : Nat} {tm : List AV} {G : AH} {left : List Int} (hw : IntS G1 w h) (hI : CopyInv G1 v w f c i tm G left h.length b) :
    ∃ tm', EvC Try.prog C0 l41_0 (tm, G) = some (.exit 2, (tm', G)) ∧ CopyInv G1 v w f c i tm' G left h.length b := by
  have hlen := hI.len
  have h0 := hI.t0
  have h1 := hI.t1
  have h6 := hI.t6
  have h7 := hI.t7
  have h8 := hI.t8
  have h9 := hI.t9
  have h10 := hI.t10
  have hla := hw.len
  have hlt : decide ((h.length : Int) < (h.length : Int)) = false := by simp
  rw [el41_0]
  simp -implicitDefEqProofs only [b41_0, atPath, Try.f41, Option.getD_some, hlen, h0, h1, h6, h7, h8, h9, h10, hla, hlt, ↓ld3, ↓st3, z3, boolOf_undef, nb, ↓aop_lookup, ↓aop_makeFunc, ↓aop_makeMap, ↓aop_mapUpdate, ↓aop_buildSlice, ↓aop_extract, ↓EvC_seq, ↓EvC_skip, ↓EvC_exit, ↓EvC_ret, ↓EvC_block, ↓EvC_cond, ↓ev_region, ↓runL_cons, ↓runL_nil, ↓stepO_none, ↓stepO_guard, ↓aop_move, ↓aop_assign, ↓aop_load, ↓aop_store, ↓aop_alloc, ↓aop_box, ↓aop_nilCheck, ↓aop_fieldAddr, ↓aop_field, ↓aop_indexAddr, ↓aop_binOp, ↓aop_pick, ↓aop_extract, ↓aop_buildSlice, ↓aop_slice, ↓aop_not, ↓aop_call, ↓callA_len, ↓callA_append, ev_tmp, ev_const, ofV_int, ofV_bool, ofV_str, ofV_nilSlice, ofV_nilPtr, putA_some, putA_none, gs_self, gs_ne, List.length_set, Option.bind_some, Option.map_some, intBinA, evL, evO, evP, ne_eq, not_false_eq_true, if_true, if_false, reduceCtorEq, ite_true, ite_false, reduceIte, put_app, AV.cells, and_true, true_and, and_self, decide_true, decide_false, ↓yielded_eq, yv_some, boolOf_bool, List.getElem?_toArray, List.getElem?_cons_zero, List.getElem?_cons_succ, Nat.reduceLT, Nat.reduceEqDiff, beq_self_eq_true, Option.some_beq_some, wr_app, wr_app0, rd_app, rd_app0, rdL_here, rdL_next, wrL_here, wrL_next, spl, List.all_cons, List.all_nil, AV.one, Bool.and_self, Bool.true_and, List.drop_zero, List.take_succ_cons, List.take_zero, List.drop_succ_cons, List.head?_cons, Nat.reduceAdd, Nat.reduceLeDiff, List.length_cons, List.length_nil, List.nil_append, List.cons_append, List.set_cons_zero, List.set_cons_succ, Int.toNat_natCast, Nat.add_zero, b_ft, b_tf, Bool.false_eq_true]
  refine ⟨_, rfl, ?_, ?_, ?_, ?_, ?_, ?_, ?_, ?_, hI.hs, hI.keep, hI.big⟩
  all_goals simp only [hlen, h0, h1, h6, h7, h8, h9, h10, gs_self, gs_ne, List.length_set, ne_eq, Nat.reduceEqDiff, Nat.reduceLT, not_false_eq_true]
theorem copy_loop {G1 : AH} {v w : AV} {t h : List Int} {f c i : Nat} {p : Int} (hv : IntS G1 v t) (hw : IntS G1 w h) (hh : h.length < 2 ^ 38) (hp : t[i]? = some p) : ∀ (d k : Nat) (tm : List AV) (G : AH) (left : List Int) (b : Nat), h.length - k = d → k ≤ h.length → left.length ≤ k → CopyInv G1 v w f c i tm G left k b →
    ∃ tm' G' b', EvC Try.prog C0 l41_0 (tm, G) = some (.exit 2, (tm', G')) ∧ CopyInv G1 v w f c i tm' G' (copyS p (h.drop k) left) h.length b' := by
  intro d
  induction d with
  | zero =>
    intro k tm G left b hd hk hll hI
    obtain rfl : k = h.length := by omega
    obtain ⟨tm', he, hI'⟩ := copy_end hw hI
    rw [List.drop_length]
    exact ⟨tm', G, b, he, hI'⟩
  | succ d ih =>
    intro k tm G left b hd hk hll hI
    obtain ⟨x, hx⟩ := get_of (xs := h) (j := k) (by omega)
    obtain ⟨tm1, G2, b1, he, hI1⟩ := copy_round hv hw hh hx hp hll hI _ rfl
    obtain ⟨tm', G', b', he2, r⟩ := ih (k + 1) tm1 G2 _ b1 (by omega) (by omega) (by split; (simp; omega); omega) hI1
    rw [drop_at hx]
    exact ⟨tm', G', b', he.symm.trans he2, r⟩
theorem copy_loop' {G1 G : AH} {v w : AV} {t h : List Int} {f c i b : Nat} {p : Int} {tm : List AV} {X : Option (AExit × St)} (hX : EvC Try.prog C0 l41_0 (tm, G) = X) (hv : IntS G1 v t) (hw : IntS G1 w h) (hh : h.length < 2 ^ 38) (hp : t[i]? = some p) (hI : CopyInv G1 v w f c i tm G [] 0 b) :
    ∃ tm' G' b', X = some (.exit 2, (tm', G')) ∧ CopyInv G1 v w f c i tm' G' (h.filter (fun x => x != p)) h.length b' := by
  subst hX
  have := copy_loop hv hw hh hp h.length 0 tm G [] b (by omega) (by omega) (by simp) hI
  rwa [List.drop_zero, copyS_eq, List.nil_append] at this

/-- what stands while the reference needs the pages -/
structure HeldInv (G0 : AH) (v : AV) (f : Nat) (tm : List AV) (G : AH) (h : List Int) (c i b : Nat) : Prop where
  len : tm.length = 61
  t0 : tm.getD 0 undefA = v
  t1 : tm.getD 1 undefA = I f
  t6 : tm.getD 6 undefA = hV h b
  t7 : tm.getD 7 undefA = I c
  t8 : tm.getD 8 undefA = I i
  hs : HS G0.length G h b
  keep : ∀ j, j < G0.length → G[j]? = G0[j]?
  big : G0.length ≤ G.length
  hl : h.length ≤ f
  hc : c ≤ i
theorem filter_len (h : List Int) (p : Int) : (h.filter (fun x => x != p)).length ≤ h.length := List.length_filter_le _ _
set_option maxHeartbeats 1000000 in
theorem held_round {G0 : AH} {v : AV} {t : List Int} {f : Nat} {tm : List AV} {G : AH} {h : List Int} {c i b : Nat} {p : Int} (hv : IntS G0 v t) (ht : t.length < 2 ^ 38) (hf0 : 0 < f) (hf : f ≤ 64) (hp : t[i]? = some p) (hI : HeldInv G0 v f tm G h c i b) :
    ∀ X, EvC Try.prog C0 l41_1 (tm, G) = X → ∃ tm' G' b', EvC Try.prog C0 l41_1 (tm', G') = X ∧ HeldInv G0 v f tm' G' (refS f h p).1 (if (refS f h p).2 then c + 1 else c) (i + 1) b' := by
  intro X hX
  have hil := lt_of_get hp
  have hlen := hI.len
  have h0 := hI.t0
  have h1 := hI.t1
  have h6 := hI.t6
  have h7 := hI.t7
  have h8 := hI.t8
  have hfl := filter_len h p
  have hl := hI.hl
  have hcc := hI.hc
  have hvG := hv.same hI.keep
  have hwG := hI.hs.ints
  have hla := hv.len
  have hlt : decide ((i : Int) < (t.length : Int)) = true := by simp; omega
  have hinc := inc_i (j := i) (by omega)
  have hinc2 := inc_i (j := c) (by omega)
  rw [el41_1] at hX
  simp -implicitDefEqProofs only [b41_1, atPath, Try.f41, Option.getD_some, hlen, h0, h1, h6, h7, h8, hla, hlt, ↓ld3, ↓st3, z3, boolOf_undef, nb, ↓aop_lookup, ↓aop_makeFunc, ↓aop_makeMap, ↓aop_mapUpdate, ↓aop_buildSlice, ↓aop_extract, ↓EvC_seq, ↓EvC_skip, ↓EvC_exit, ↓EvC_ret, ↓EvC_block, ↓EvC_cond, ↓ev_region, ↓runL_cons, ↓runL_nil, ↓stepO_none, ↓stepO_guard, ↓aop_move, ↓aop_assign, ↓aop_load, ↓aop_store, ↓aop_alloc, ↓aop_box, ↓aop_nilCheck, ↓aop_fieldAddr, ↓aop_field, ↓aop_indexAddr, ↓aop_binOp, ↓aop_pick, ↓aop_extract, ↓aop_buildSlice, ↓aop_slice, ↓aop_not, ↓aop_call, ↓callA_len, ↓callA_append, ev_tmp, ev_const, ofV_int, ofV_bool, ofV_str, ofV_nilSlice, ofV_nilPtr, putA_some, putA_none, gs_self, gs_ne, List.length_set, Option.bind_some, Option.map_some, intBinA, evL, evO, evP, ne_eq, not_false_eq_true, if_true, if_false, reduceCtorEq, ite_true, ite_false, reduceIte, put_app, AV.cells, and_true, true_and, and_self, decide_true, decide_false, ↓yielded_eq, yv_some, boolOf_bool, List.getElem?_toArray, List.getElem?_cons_zero, List.getElem?_cons_succ, Nat.reduceLT, Nat.reduceEqDiff, beq_self_eq_true, Option.some_beq_some, wr_app, wr_app0, rd_app, rd_app0, rdL_here, rdL_next, wrL_here, wrL_next, spl, List.all_cons, List.all_nil, AV.one, Bool.and_self, Bool.true_and, List.drop_zero, List.take_succ_cons, List.take_zero, List.drop_succ_cons, List.head?_cons, Nat.reduceAdd, Nat.reduceLeDiff, List.length_cons, List.length_nil, List.nil_append, List.cons_append, List.set_cons_zero, List.set_cons_succ, Int.toNat_natCast, Nat.add_zero, b_ft, b_tf, Bool.false_eq_true] at hX
  generalize hY : EvC Try.prog C0 (Code.loop _) _ = Y at hX
  obtain ⟨tm1, G1, b1, he, hC⟩ := copy_loop' (f := f) (c := c) (b := 0) hY hvG hwG (by omega) hp ⟨by simp only [List.length_set, hlen], by simp only [hlen, h0, gs_self, gs_ne, List.length_set, ne_eq, Nat.reduceEqDiff, Nat.reduceLT, not_false_eq_true], by simp only [hlen, h1, gs_self, gs_ne, List.length_set, ne_eq, Nat.reduceEqDiff, Nat.reduceLT, not_false_eq_true], by simp only [hlen, h6, gs_self, gs_ne, List.length_set, ne_eq, Nat.reduceEqDiff, Nat.reduceLT, not_false_eq_true], by simp only [hlen, h7, gs_self, gs_ne, List.length_set, ne_eq, Nat.reduceEqDiff, Nat.reduceLT, not_false_eq_true], by simp only [hlen, h8, gs_self, gs_ne, List.length_set, ne_eq, Nat.reduceEqDiff, Nat.reduceLT, not_false_eq_true], by simp only [hlen, gs_self, gs_ne, List.length_set, ne_eq, Nat.reduceEqDiff, Nat.reduceLT, not_false_eq_true, hV_nil], by simp only [hlen, gs_self, gs_ne, List.length_set, ne_eq, Nat.reduceEqDiff, Nat.reduceLT, not_false_eq_true]; rfl, HS.nil _ _ _, fun _ _ => rfl, Nat.le_refl _⟩
  subst he
  have hl1 := hC.len
  have k0 := hC.t0
  have k1 := hC.t1
  have k6 := hC.t6
  have k7 := hC.t7
  have k8 := hC.t8
  have k9 := hC.t9
  have hvG1 := hvG.same hC.keep
  have hbG : G0.length ≤ G1.length := Nat.le_trans hI.big hC.big
  have hsL : HS G0.length G1 (h.filter (fun x => x != p)) b1 := hC.hs.mono hI.big
  have hkG : ∀ j, j < G0.length → G1[j]? = G0[j]? := fun j hj => (hC.keep j (by have := hI.big; omega)).trans (hI.keep j hj)
  have hll := hC.hs.ints.len G1
  have hlh := hwG.len G1
  obtain ⟨i2, k2, hi2, hr2⟩ := hvG1.ix i p hp
  have eb := bs46 G1 p
  have mk : ∀ (tm' : List AV) (G' : AH) (h' : List Int) (c' b' : Nat), tm'.length = 61 → tm'.getD 0 undefA = v → tm'.getD 1 undefA = I f → tm'.getD 6 undefA = hV h' b' → tm'.getD 7 undefA = I c' → tm'.getD 8 undefA = I ((i + 1 : Nat) : Int) → UseTo G0.length G1 h' G' b' → h'.length ≤ f → c' ≤ i + 1 → HeldInv G0 v f tm' G' h' c' (i + 1) b' := by
    intro tm' G' h' c' b' a1 a2 a3 a4 a5 a6 a7 a8 a9
    exact ⟨a1, a2, a3, a4, a5, a6, a7.1, fun j hj => (a7.2.1 j hj).trans (hkG j hj), Nat.le_trans hbG a7.2.2, a8, a9⟩
  unfold refS
  generalize hL : h.filter (fun x => x != p) = L at *
  by_cases hq : L.length = h.length
  · have q0 : ((L.length : Int) == (h.length : Int)) = true := by simp [hq]
    rw [if_pos hq]
    by_cases hff : h.length = f
    · have q1 : ((L.length : Int) == (f : Int)) = true := by simp; omega
      rw [if_pos hff]
      simp only [if_true]
      have hLne : L ≠ [] := by intro e; subst e; simp at hq; omega
      obtain ⟨G', ea, hlG, hk⟩ := app_cut p hbG hsL hLne (by omega)
      have hu := app_to (h := L.drop 1 ++ [p]) hbG hlG hk
      have e6 : ∀ H, sliceA Try.prog 46 H (ov b1 L.length) (some (I 1)) none none = some (.slice b1 1 1 (L.length - 1) (L.length - 1) false) := fun H => by
        have hpos := List.length_pos_iff.2 hLne
        have := sl46l H b1 0 L.length L.length false 1 (by omega) (by omega)
        rwa [Nat.zero_add] at this
      rw [hV_cons hLne] at k9 hll
      simp -implicitDefEqProofs only [hl1, k0, k1, k6, k7, k8, k9, hll, hlh, q0, q1, hinc, hinc2, hi2, hr2, e6, ea, eb, ↓ld3, ↓st3, z3, boolOf_undef, nb, ↓aop_lookup, ↓aop_makeFunc, ↓aop_makeMap, ↓aop_mapUpdate, ↓aop_buildSlice, ↓aop_extract, ↓EvC_seq, ↓EvC_skip, ↓EvC_exit, ↓EvC_ret, ↓EvC_block, ↓EvC_cond, ↓ev_region, ↓runL_cons, ↓runL_nil, ↓stepO_none, ↓stepO_guard, ↓aop_move, ↓aop_assign, ↓aop_load, ↓aop_store, ↓aop_alloc, ↓aop_box, ↓aop_nilCheck, ↓aop_fieldAddr, ↓aop_field, ↓aop_indexAddr, ↓aop_binOp, ↓aop_pick, ↓aop_extract, ↓aop_buildSlice, ↓aop_slice, ↓aop_not, ↓aop_call, ↓callA_len, ↓callA_append, ev_tmp, ev_const, ofV_int, ofV_bool, ofV_str, ofV_nilSlice, ofV_nilPtr, putA_some, putA_none, gs_self, gs_ne, List.length_set, Option.bind_some, Option.map_some, intBinA, evL, evO, evP, ne_eq, not_false_eq_true, if_true, if_false, reduceCtorEq, ite_true, ite_false, reduceIte, put_app, AV.cells, and_true, true_and, and_self, decide_true, decide_false, ↓yielded_eq, yv_some, boolOf_bool, List.getElem?_toArray, List.getElem?_cons_zero, List.getElem?_cons_succ, Nat.reduceLT, Nat.reduceEqDiff, beq_self_eq_true, Option.some_beq_some, wr_app, wr_app0, rd_app, rd_app0, rdL_here, rdL_next, wrL_here, wrL_next, spl, List.all_cons, List.all_nil, AV.one, Bool.and_self, Bool.true_and, List.drop_zero, List.take_succ_cons, List.take_zero, List.drop_succ_cons, List.head?_cons, Nat.reduceAdd, Nat.reduceLeDiff, List.length_cons, List.length_nil, List.nil_append, List.cons_append, List.set_cons_zero, List.set_cons_succ, Int.toNat_natCast, Nat.add_zero, b_ft, b_tf, Bool.false_eq_true] at hX
      have hlen2 : (L.drop 1 ++ [p]).length = L.length := by have := List.length_pos_iff.2 hLne; simp; omega
      refine ⟨_, _, G1.length + 1, hX, mk _ _ _ _ _ ?_ ?_ ?_ ?_ ?_ ?_ hu (by omega) (by omega)⟩
      rotate_left 3
      · rw [hV_cons (h := L.drop 1 ++ [p]) (by simp), hlen2]
        simp only [hl1, gs_self, gs_ne, List.length_set, ne_eq, Nat.reduceEqDiff, Nat.reduceLT, not_false_eq_true]
      all_goals simp only [hl1, k0, k1, k6, k7, k8, gs_self, gs_ne, List.length_set, ne_eq, Nat.reduceEqDiff, Nat.reduceLT, not_false_eq_true]
    · have q1 : ((L.length : Int) == (f : Int)) = false := by simp; omega
      rw [if_neg hff]
      simp only [if_true]
      obtain ⟨G', ea, hlG, hk⟩ := app_more p hbG hsL (by omega)
      have hu := app_to (h := L ++ [p]) hbG hlG hk
      simp -implicitDefEqProofs only [hl1, k0, k1, k6, k7, k8, k9, hll, hlh, q0, q1, hinc, hinc2, hi2, hr2, ea, eb, ↓ld3, ↓st3, z3, boolOf_undef, nb, ↓aop_lookup, ↓aop_makeFunc, ↓aop_makeMap, ↓aop_mapUpdate, ↓aop_buildSlice, ↓aop_extract, ↓EvC_seq, ↓EvC_skip, ↓EvC_exit, ↓EvC_ret, ↓EvC_block, ↓EvC_cond, ↓ev_region, ↓runL_cons, ↓runL_nil, ↓stepO_none, ↓stepO_guard, ↓aop_move, ↓aop_assign, ↓aop_load, ↓aop_store, ↓aop_alloc, ↓aop_box, ↓aop_nilCheck, ↓aop_fieldAddr, ↓aop_field, ↓aop_indexAddr, ↓aop_binOp, ↓aop_pick, ↓aop_extract, ↓aop_buildSlice, ↓aop_slice, ↓aop_not, ↓aop_call, ↓callA_len, ↓callA_append, ev_tmp, ev_const, ofV_int, ofV_bool, ofV_str, ofV_nilSlice, ofV_nilPtr, putA_some, putA_none, gs_self, gs_ne, List.length_set, Option.bind_some, Option.map_some, intBinA, evL, evO, evP, ne_eq, not_false_eq_true, if_true, if_false, reduceCtorEq, ite_true, ite_false, reduceIte, put_app, AV.cells, and_true, true_and, and_self, decide_true, decide_false, ↓yielded_eq, yv_some, boolOf_bool, List.getElem?_toArray, List.getElem?_cons_zero, List.getElem?_cons_succ, Nat.reduceLT, Nat.reduceEqDiff, beq_self_eq_true, Option.some_beq_some, wr_app, wr_app0, rd_app, rd_app0, rdL_here, rdL_next, wrL_here, wrL_next, spl, List.all_cons, List.all_nil, AV.one, Bool.and_self, Bool.true_and, List.drop_zero, List.take_succ_cons, List.take_zero, List.drop_succ_cons, List.head?_cons, Nat.reduceAdd, Nat.reduceLeDiff, List.length_cons, List.length_nil, List.nil_append, List.cons_append, List.set_cons_zero, List.set_cons_succ, Int.toNat_natCast, Nat.add_zero, b_ft, b_tf, Bool.false_eq_true] at hX
      refine ⟨_, _, G1.length + 1, hX, mk _ _ _ _ _ ?_ ?_ ?_ ?_ ?_ ?_ hu (by simp; omega) (by omega)⟩
      rotate_left 3
      · rw [hV_cons (h := L ++ [p]) (by simp), show (L ++ [p]).length = L.length + 1 by simp]
        simp only [hl1, gs_self, gs_ne, List.length_set, ne_eq, Nat.reduceEqDiff, Nat.reduceLT, not_false_eq_true]
      all_goals simp only [hl1, k0, k1, k6, k7, k8, gs_self, gs_ne, List.length_set, ne_eq, Nat.reduceEqDiff, Nat.reduceLT, not_false_eq_true]
  · have q0 : ((L.length : Int) == (h.length : Int)) = false := by simp; omega
    rw [if_neg hq]
    simp only [Bool.false_eq_true, if_false]
    obtain ⟨G', ea, hlG, hk⟩ := app_more p hbG hsL (by omega)
    have hu := app_to (h := L ++ [p]) hbG hlG hk
    simp -implicitDefEqProofs only [hl1, k0, k1, k6, k7, k8, k9, hll, hlh, q0, hinc, hinc2, hi2, hr2, ea, eb, ↓ld3, ↓st3, z3, boolOf_undef, nb, ↓aop_lookup, ↓aop_makeFunc, ↓aop_makeMap, ↓aop_mapUpdate, ↓aop_buildSlice, ↓aop_extract, ↓EvC_seq, ↓EvC_skip, ↓EvC_exit, ↓EvC_ret, ↓EvC_block, ↓EvC_cond, ↓ev_region, ↓runL_cons, ↓runL_nil, ↓stepO_none, ↓stepO_guard, ↓aop_move, ↓aop_assign, ↓aop_load, ↓aop_store, ↓aop_alloc, ↓aop_box, ↓aop_nilCheck, ↓aop_fieldAddr, ↓aop_field, ↓aop_indexAddr, ↓aop_binOp, ↓aop_pick, ↓aop_extract, ↓aop_buildSlice, ↓aop_slice, ↓aop_not, ↓aop_call, ↓callA_len, ↓callA_append, ev_tmp, ev_const, ofV_int, ofV_bool, ofV_str, ofV_nilSlice, ofV_nilPtr, putA_some, putA_none, gs_self, gs_ne, List.length_set, Option.bind_some, Option.map_some, intBinA, evL, evO, evP, ne_eq, not_false_eq_true, if_true, if_false, reduceCtorEq, ite_true, ite_false, reduceIte, put_app, AV.cells, and_true, true_and, and_self, decide_true, decide_false, ↓yielded_eq, yv_some, boolOf_bool, List.getElem?_toArray, List.getElem?_cons_zero, List.getElem?_cons_succ, Nat.reduceLT, Nat.reduceEqDiff, beq_self_eq_true, Option.some_beq_some, wr_app, wr_app0, rd_app, rd_app0, rdL_here, rdL_next, wrL_here, wrL_next, spl, List.all_cons, List.all_nil, AV.one, Bool.and_self, Bool.true_and, List.drop_zero, List.take_succ_cons, List.take_zero, List.drop_succ_cons, List.head?_cons, Nat.reduceAdd, Nat.reduceLeDiff, List.length_cons, List.length_nil, List.nil_append, List.cons_append, List.set_cons_zero, List.set_cons_succ, Int.toNat_natCast, Nat.add_zero, b_ft, b_tf, Bool.false_eq_true] at hX
    refine ⟨_, _, G1.length + 1, hX, mk _ _ _ _ _ ?_ ?_ ?_ ?_ ?_ ?_ hu (by simp; omega) (by omega)⟩
    rotate_left 3
    · rw [hV_cons (h := L ++ [p]) (by simp), show (L ++ [p]).length = L.length + 1 by simp]
      simp only [hl1, gs_self, gs_ne, List.length_set, ne_eq, Nat.reduceEqDiff, Nat.reduceLT, not_false_eq_true]
    all_goals simp only [hl1, k0, k1, k6, k7, k8, gs_self, gs_ne, List.length_set, ne_eq, Nat.reduceEqDiff, Nat.reduceLT, not_false_eq_true]
theorem held_end {G0 : AH} {v : AV} {t : List Int} {f : Nat} {tm : List AV} {G : AH} {h : List Int} {c b : Nat} (hv : IntS G0 v t) (hI : HeldInv G0 v f tm G h c t.length b) :
    ∃ tm', EvC Try.prog C0 l41_1 (tm, G) = some (.exit 0, (tm', G)) ∧ tm'.length = 61 ∧ tm'.getD 6 undefA = hV h b ∧ tm'.getD 7 undefA = I c := by
  have hlen := hI.len
  have h0 := hI.t0
  have h6 := hI.t6
  have h7 := hI.t7
  have h8 := hI.t8
  have hla := hv.len
  have hlt : decide ((t.length : Int) < (t.length : Int)) = false := by simp
  rw [el41_1]
  simp -implicitDefEqProofs only [b41_1, atPath, Try.f41, Option.getD_some, hlen, h0, h6, h7, h8, hla, hlt, ↓ld3, ↓st3, z3, boolOf_undef, nb, ↓aop_lookup, ↓aop_makeFunc, ↓aop_makeMap, ↓aop_mapUpdate, ↓aop_buildSlice, ↓aop_extract, ↓EvC_seq, ↓EvC_skip, ↓EvC_exit, ↓EvC_ret, ↓EvC_block, ↓EvC_cond, ↓ev_region, ↓runL_cons, ↓runL_nil, ↓stepO_none, ↓stepO_guard, ↓aop_move, ↓aop_assign, ↓aop_load, ↓aop_store, ↓aop_alloc, ↓aop_box, ↓aop_nilCheck, ↓aop_fieldAddr, ↓aop_field, ↓aop_indexAddr, ↓aop_binOp, ↓aop_pick, ↓aop_extract, ↓aop_buildSlice, ↓aop_slice, ↓aop_not, ↓aop_call, ↓callA_len, ↓callA_append, ev_tmp, ev_const, ofV_int, ofV_bool, ofV_str, ofV_nilSlice, ofV_nilPtr, putA_some, putA_none, gs_self, gs_ne, List.length_set, Option.bind_some, Option.map_some, intBinA, evL, evO, evP, ne_eq, not_false_eq_true, if_true, if_false, reduceCtorEq, ite_true, ite_false, reduceIte, put_app, AV.cells, and_true, true_and, and_self, decide_true, decide_false, ↓yielded_eq, yv_some, boolOf_bool, List.getElem?_toArray, List.getElem?_cons_zero, List.getElem?_cons_succ, Nat.reduceLT, Nat.reduceEqDiff, beq_self_eq_true, Option.some_beq_some, wr_app, wr_app0, rd_app, rd_app0, rdL_here, rdL_next, wrL_here, wrL_next, spl, List.all_cons, List.all_nil, AV.one, Bool.and_self, Bool.true_and, List.drop_zero, List.take_succ_cons, List.take_zero, List.drop_succ_cons, List.head?_cons, Nat.reduceAdd, Nat.reduceLeDiff, List.length_cons, List.length_nil, List.nil_append, List.cons_append, List.set_cons_zero, List.set_cons_succ, Int.toNat_natCast, Nat.add_zero, b_ft, b_tf, Bool.false_eq_true]
  refine ⟨_, rfl, by simp only [List.length_set, hlen], ?_, ?_⟩
  all_goals simp only [hlen, h6, h7, gs_self, gs_ne, List.length_set, ne_eq, Nat.reduceEqDiff, Nat.reduceLT, not_false_eq_true]
def refR (f : Nat) : List Int → List Int → Nat → List Int × Nat
  | [], h, n => (h, n)
  | p :: t, h, n => refR f t (refS f h p).1 (if (refS f h p).2 then n + 1 else n)
theorem refR_run {f : Nat} : ∀ (t h : List Int) (n : Nat), h.Nodup → refR f t h n = runS f t h n
  | [], _, _, _ => rfl
  | p :: t, h, n, hn => by
    simp only [refR, runS, ref_use hn]
    exact refR_run t _ _ (use_nodup hn)
theorem held_loop {G0 : AH} {v : AV} {t : List Int} {f : Nat} (hv : IntS G0 v t) (ht : t.length < 2 ^ 38) (hf0 : 0 < f) (hf : f ≤ 64) : ∀ (d i : Nat) (tm : List AV) (G : AH) (h : List Int) (c b : Nat), t.length - i = d → i ≤ t.length → HeldInv G0 v f tm G h c i b →
    ∃ tm' G' b', EvC Try.prog C0 l41_1 (tm, G) = some (.exit 0, (tm', G')) ∧ tm'.length = 61 ∧ tm'.getD 6 undefA = hV (refR f (t.drop i) h c).1 b' ∧ tm'.getD 7 undefA = I (refR f (t.drop i) h c).2 ∧ HS G0.length G' (refR f (t.drop i) h c).1 b' ∧ (∀ j, j < G0.length → G'[j]? = G0[j]?) ∧ G0.length ≤ G'.length := by
  intro d
  induction d with
  | zero =>
    intro i tm G h c b hd hi hI
    obtain rfl : i = t.length := by omega
    obtain ⟨tm', he, hl', h6, h7⟩ := held_end hv hI
    rw [List.drop_length]
    exact ⟨tm', G, b, he, hl', h6, h7, hI.hs, hI.keep, hI.big⟩
  | succ d ih =>
    intro i tm G h c b hd hi hI
    obtain ⟨p, hp⟩ := get_of (xs := t) (j := i) (by omega)
    obtain ⟨tm1, G1, b1, he, hI1⟩ := held_round hv ht hf0 hf hp hI _ rfl
    obtain ⟨tm', G', b', he2, r⟩ := ih (i + 1) tm1 G1 _ _ b1 (by omega) (by omega) hI1
    rw [drop_at hp]
    exact ⟨tm', G', b', he.symm.trans he2, r⟩
theorem held_loop' {G0 G : AH} {v : AV} {t : List Int} {f : Nat} {tm : List AV} {X : Option (AExit × St)} (hX : EvC Try.prog C0 l41_1 (tm, G) = X) (hv : IntS G0 v t) (ht : t.length < 2 ^ 38) (hf0 : 0 < f) (hf : f ≤ 64) (hI : HeldInv G0 v f tm G [] 0 0 0) :
    ∃ tm' G' b', X = some (.exit 0, (tm', G')) ∧ tm'.length = 61 ∧ tm'.getD 6 undefA = hV (runS f t [] 0).1 b' ∧ tm'.getD 7 undefA = I (runS f t [] 0).2 ∧ HS G0.length G' (runS f t [] 0).1 b' ∧ (∀ j, j < G0.length → G'[j]? = G0[j]?) ∧ G0.length ≤ G'.length := by
  subst hX
  have := held_loop hv ht hf0 hf t.length 0 tm G [] 0 0 (by omega) (by omega) hI
  rwa [List.drop_zero, refR_run t [] 0 List.nodup_nil] at this
/-- the reference's Held is image.run's law -/
theorem held_ev {G : AH} {v : AV} {t : List Int} {f : Nat} (hv : IntS G v t) (ht : t.length < 2 ^ 38) (hf0 : 0 < f) (hf : f ≤ 64) :
    ∃ G' b', Ev Try.prog C0 41 [v, I f] G = some (.tuple [hV (runS f t [] 0).1 b', I (runS f t [] 0).2], G') ∧ HS G.length G' (runS f t [] 0).1 b' ∧ (∀ j, j < G.length → G'[j]? = G[j]?) ∧ G.length ≤ G'.length := by
  have g0 : ([v, I f] ++ List.replicate (61 - [v, I f].length) undefA).length = 61 := by simp
  have g1 : ([v, I f] ++ List.replicate (61 - [v, I f].length) undefA).getD 0 undefA = v := rfl
  have g2 : ([v, I f] ++ List.replicate (61 - [v, I f].length) undefA).getD 1 undefA = I f := rfl
  rw [fe41]
  generalize [v, I f] ++ List.replicate (61 - [v, I f].length) undefA = tm at *
  simp -implicitDefEqProofs only [c41, Try.f41, Option.getD_some, g0, g1, g2, ↓ld3, ↓st3, z3, boolOf_undef, nb, ↓aop_lookup, ↓aop_makeFunc, ↓aop_makeMap, ↓aop_mapUpdate, ↓aop_buildSlice, ↓aop_extract, ↓EvC_seq, ↓EvC_skip, ↓EvC_exit, ↓EvC_ret, ↓EvC_block, ↓EvC_cond, ↓ev_region, ↓runL_cons, ↓runL_nil, ↓stepO_none, ↓stepO_guard, ↓aop_move, ↓aop_assign, ↓aop_load, ↓aop_store, ↓aop_alloc, ↓aop_box, ↓aop_nilCheck, ↓aop_fieldAddr, ↓aop_field, ↓aop_indexAddr, ↓aop_binOp, ↓aop_pick, ↓aop_extract, ↓aop_buildSlice, ↓aop_slice, ↓aop_not, ↓aop_call, ↓callA_len, ↓callA_append, ev_tmp, ev_const, ofV_int, ofV_bool, ofV_str, ofV_nilSlice, ofV_nilPtr, putA_some, putA_none, gs_self, gs_ne, List.length_set, Option.bind_some, Option.map_some, intBinA, evL, evO, evP, ne_eq, not_false_eq_true, if_true, if_false, reduceCtorEq, ite_true, ite_false, reduceIte, put_app, AV.cells, and_true, true_and, and_self, decide_true, decide_false, ↓yielded_eq, yv_some, boolOf_bool, List.getElem?_toArray, List.getElem?_cons_zero, List.getElem?_cons_succ, Nat.reduceLT, Nat.reduceEqDiff, beq_self_eq_true, Option.some_beq_some, wr_app, wr_app0, rd_app, rd_app0, rdL_here, rdL_next, wrL_here, wrL_next, spl, List.all_cons, List.all_nil, AV.one, Bool.and_self, Bool.true_and, List.drop_zero, List.take_succ_cons, List.take_zero, List.drop_succ_cons, List.head?_cons, Nat.reduceAdd, Nat.reduceLeDiff, List.length_cons, List.length_nil, List.nil_append, List.cons_append, List.set_cons_zero, List.set_cons_succ, Int.toNat_natCast, Nat.add_zero, b_ft, b_tf, Bool.false_eq_true]
  generalize hX : EvC Try.prog C0 (Code.loop _) _ = X
  obtain ⟨tm', G', b', he, hl', h6, h7, hs, hk, hb⟩ := held_loop' hX hv ht hf0 hf ⟨by simp only [List.length_set, g0], by simp only [g0, g1, gs_self, gs_ne, List.length_set, ne_eq, Nat.reduceEqDiff, Nat.reduceLT, not_false_eq_true], by simp only [g0, g2, gs_self, gs_ne, List.length_set, ne_eq, Nat.reduceEqDiff, Nat.reduceLT, not_false_eq_true], by simp only [g0, gs_self, gs_ne, List.length_set, ne_eq, Nat.reduceEqDiff, Nat.reduceLT, not_false_eq_true, hV_nil], by simp only [g0, gs_self, gs_ne, List.length_set, ne_eq, Nat.reduceEqDiff, Nat.reduceLT, not_false_eq_true]; rfl, by simp only [g0, gs_self, gs_ne, List.length_set, ne_eq, Nat.reduceEqDiff, Nat.reduceLT, not_false_eq_true]; rfl, HS.nil _ _ _, fun _ _ => rfl, Nat.le_refl _, by simp, Nat.le_refl _⟩
  subst he
  refine ⟨G', b', ?_, hs, hk, hb⟩
  simp -implicitDefEqProofs only [hl', h6, h7, ↓ld3, ↓st3, z3, boolOf_undef, nb, ↓aop_lookup, ↓aop_makeFunc, ↓aop_makeMap, ↓aop_mapUpdate, ↓aop_buildSlice, ↓aop_extract, ↓EvC_seq, ↓EvC_skip, ↓EvC_exit, ↓EvC_ret, ↓EvC_block, ↓EvC_cond, ↓ev_region, ↓runL_cons, ↓runL_nil, ↓stepO_none, ↓stepO_guard, ↓aop_move, ↓aop_assign, ↓aop_load, ↓aop_store, ↓aop_alloc, ↓aop_box, ↓aop_nilCheck, ↓aop_fieldAddr, ↓aop_field, ↓aop_indexAddr, ↓aop_binOp, ↓aop_pick, ↓aop_extract, ↓aop_buildSlice, ↓aop_slice, ↓aop_not, ↓aop_call, ↓callA_len, ↓callA_append, ev_tmp, ev_const, ofV_int, ofV_bool, ofV_str, ofV_nilSlice, ofV_nilPtr, putA_some, putA_none, gs_self, gs_ne, List.length_set, Option.bind_some, Option.map_some, intBinA, evL, evO, evP, ne_eq, not_false_eq_true, if_true, if_false, reduceCtorEq, ite_true, ite_false, reduceIte, put_app, AV.cells, and_true, true_and, and_self, decide_true, decide_false, ↓yielded_eq, yv_some, boolOf_bool, List.getElem?_toArray, List.getElem?_cons_zero, List.getElem?_cons_succ, Nat.reduceLT, Nat.reduceEqDiff, beq_self_eq_true, Option.some_beq_some, wr_app, wr_app0, rd_app, rd_app0, rdL_here, rdL_next, wrL_here, wrL_next, spl, List.all_cons, List.all_nil, AV.one, Bool.and_self, Bool.true_and, List.drop_zero, List.take_succ_cons, List.take_zero, List.drop_succ_cons, List.head?_cons, Nat.reduceAdd, Nat.reduceLeDiff, List.length_cons, List.length_nil, List.nil_append, List.cons_append, List.set_cons_zero, List.set_cons_succ, Int.toNat_natCast, Nat.add_zero, b_ft, b_tf, Bool.false_eq_true]
end Go.Dv

/- ref22.Rising (printed by a program of mine, own work). -/
namespace Go.Dv
open Go.Proofs
set_option maxRecDepth 100000
set_option linter.unusedSimpArgs false
set_option linter.unusedVariables false
attribute [local congr] bind_congr_first


theorem sub_i {j : Nat} (h0 : 0 < j) (h : j < 2 ^ 60) : IntKind.i64.wrap ((j : Int) - 1) = ((j - 1 : Nat) : Int) := by rw [IntWalk.i64_in _ (by omega)]; omega
theorem reg42_6 {H : AH} {v w : AV} {l o : List Int} {i k : Nat} {x : Int} {tm : List AV} (hv : IntS H v l) (hw : IntS H w o) (hk : k ≤ o.length) (hol : o.length < 2 ^ 38) (hx : l[i]? = some x) (hlen : tm.length = 44) (h0 : tm.getD 0 undefA = v) (h3 : tm.getD 3 undefA = w) (h4 : tm.getD 4 undefA = I i) (h5 : tm.getD 5 undefA = I k) :
    ∃ tm', EvC Try.prog C0 d42_6 (tm, H) = some (.normal, (tm', H)) ∧ tm'.length = 44 ∧ tm'.getD 27 undefA = .bool (decide (0 < k) && decide (o.getD (k - 1) 0 > x)) ∧ (∀ t ∈ [0, 3, 4, 5], tm'.getD t undefA = tm.getD t undefA) := by
  have dd := ed42_6
  simp only [d42_6, opsAt, atPath, Try.f42, Option.getD_some] at dd
  simp only [d42_6, opsAt, atPath, Try.f42, Option.getD_some]
  rw [dd]
  by_cases hk0 : k = 0
  · have q0 : decide ((k : Int) > 0) = false := by simp; omega
    have q1 : decide (0 < k) = false := by simp; omega
    rw [q1]
    simp -implicitDefEqProofs only [hlen, h0, h3, h4, h5, q0, Bool.not_true, Bool.not_false, Bool.true_and, Bool.and_true, Bool.false_and, Bool.and_false, Bool.true_or, Bool.or_true, Bool.false_or, Bool.or_false, cond_true, cond_false, boolOf_undef, nb, beq_self_eq_true, Bool.and_self, ↓ld3, ↓st3, z3, boolOf_undef, nb, ↓aop_lookup, ↓aop_makeFunc, ↓aop_makeMap, ↓aop_mapUpdate, ↓aop_buildSlice, ↓aop_extract, ↓EvC_seq, ↓EvC_skip, ↓EvC_exit, ↓EvC_ret, ↓EvC_block, ↓EvC_cond, ↓ev_region, ↓runL_cons, ↓runL_nil, ↓stepO_none, ↓stepO_guard, ↓aop_move, ↓aop_assign, ↓aop_load, ↓aop_store, ↓aop_alloc, ↓aop_box, ↓aop_nilCheck, ↓aop_fieldAddr, ↓aop_field, ↓aop_indexAddr, ↓aop_binOp, ↓aop_pick, ↓aop_extract, ↓aop_buildSlice, ↓aop_slice, ↓aop_not, ↓aop_call, ↓callA_len, ↓callA_append, ev_tmp, ev_const, ofV_int, ofV_bool, ofV_str, ofV_nilSlice, ofV_nilPtr, putA_some, putA_none, gs_self, gs_ne, List.length_set, Option.bind_some, Option.map_some, intBinA, evL, evO, evP, ne_eq, not_false_eq_true, if_true, if_false, reduceCtorEq, ite_true, ite_false, reduceIte, put_app, AV.cells, and_true, true_and, and_self, decide_true, decide_false, ↓yielded_eq, yv_some, boolOf_bool, List.getElem?_toArray, List.getElem?_cons_zero, List.getElem?_cons_succ, Nat.reduceLT, Nat.reduceEqDiff, beq_self_eq_true, Option.some_beq_some, wr_app, wr_app0, rd_app, rd_app0, rdL_here, rdL_next, wrL_here, wrL_next, spl, List.all_cons, List.all_nil, AV.one, Bool.and_self, Bool.true_and, List.drop_zero, List.take_succ_cons, List.take_zero, List.drop_succ_cons, List.head?_cons, Nat.reduceAdd, Nat.reduceLeDiff, List.length_cons, List.length_nil, List.nil_append, List.cons_append, List.set_cons_zero, List.set_cons_succ, Int.toNat_natCast, Nat.add_zero, b_ft, b_tf, Bool.false_eq_true, ↓rp_done, ↓rp_take, ↓rp_all, ↓ra_nil, ↓ra_first, ↓ra_next, ↓quietO_none, ↓quietO_guard, ↓q_move, ↓q_assign, ↓q_pick, ↓q_binOp, ↓q_field, ↓q_fieldAddr, ↓q_indexAddr, ↓q_nilCheck, set_order, keepV_eq, stBeq_self, ↓rp_graft, put_slot, put_slot_app, List.length_append, List.append_assoc, Nat.add_assoc, ↓aop_build, evP, Bool.true_and, Bool.and_true, Bool.false_and, Bool.and_false, Bool.true_or, Bool.or_true, Bool.false_or, Bool.or_false, Bool.not_true, Bool.not_false]
    refine ⟨_, rfl, by simp only [List.length_set, hlen], by simp only [hlen, gs_self, gs_ne, List.length_set, ne_eq, Nat.reduceEqDiff, Nat.reduceLT, not_false_eq_true], fun t ht => ?_⟩
    simp only [List.mem_cons, List.not_mem_nil, or_false] at ht
    rcases ht with rfl | rfl | rfl | rfl <;> simp only [hlen, gs_self, gs_ne, List.length_set, ne_eq, Nat.reduceEqDiff, Nat.reduceLT, not_false_eq_true]

  · have q0 : decide ((k : Int) > 0) = true := by simp; omega
    have q1 : decide (0 < k) = true := by simp; omega
    obtain ⟨y, hy⟩ := get_of (xs := o) (j := k - 1) (by omega)
    have hg : o.getD (k - 1) 0 = y := by rw [List.getD_eq_getElem?_getD, hy]; rfl
    obtain ⟨i1, k1, hi1, hr1⟩ := hw.ix _ y hy
    obtain ⟨i2, k2, hi2, hr2⟩ := hv.ix i x hx
    have hs := sub_i (j := k) (by omega) (by omega)
    rw [q1, hg]
    simp -implicitDefEqProofs only [hlen, h0, h3, h4, h5, q0, hs, hi1, hr1, hi2, hr2, Bool.not_true, Bool.not_false, Bool.true_and, Bool.and_true, Bool.false_and, Bool.and_false, Bool.true_or, Bool.or_true, Bool.false_or, Bool.or_false, cond_true, cond_false, boolOf_undef, nb, beq_self_eq_true, Bool.and_self, ↓ld3, ↓st3, z3, boolOf_undef, nb, ↓aop_lookup, ↓aop_makeFunc, ↓aop_makeMap, ↓aop_mapUpdate, ↓aop_buildSlice, ↓aop_extract, ↓EvC_seq, ↓EvC_skip, ↓EvC_exit, ↓EvC_ret, ↓EvC_block, ↓EvC_cond, ↓ev_region, ↓runL_cons, ↓runL_nil, ↓stepO_none, ↓stepO_guard, ↓aop_move, ↓aop_assign, ↓aop_load, ↓aop_store, ↓aop_alloc, ↓aop_box, ↓aop_nilCheck, ↓aop_fieldAddr, ↓aop_field, ↓aop_indexAddr, ↓aop_binOp, ↓aop_pick, ↓aop_extract, ↓aop_buildSlice, ↓aop_slice, ↓aop_not, ↓aop_call, ↓callA_len, ↓callA_append, ev_tmp, ev_const, ofV_int, ofV_bool, ofV_str, ofV_nilSlice, ofV_nilPtr, putA_some, putA_none, gs_self, gs_ne, List.length_set, Option.bind_some, Option.map_some, intBinA, evL, evO, evP, ne_eq, not_false_eq_true, if_true, if_false, reduceCtorEq, ite_true, ite_false, reduceIte, put_app, AV.cells, and_true, true_and, and_self, decide_true, decide_false, ↓yielded_eq, yv_some, boolOf_bool, List.getElem?_toArray, List.getElem?_cons_zero, List.getElem?_cons_succ, Nat.reduceLT, Nat.reduceEqDiff, beq_self_eq_true, Option.some_beq_some, wr_app, wr_app0, rd_app, rd_app0, rdL_here, rdL_next, wrL_here, wrL_next, spl, List.all_cons, List.all_nil, AV.one, Bool.and_self, Bool.true_and, List.drop_zero, List.take_succ_cons, List.take_zero, List.drop_succ_cons, List.head?_cons, Nat.reduceAdd, Nat.reduceLeDiff, List.length_cons, List.length_nil, List.nil_append, List.cons_append, List.set_cons_zero, List.set_cons_succ, Int.toNat_natCast, Nat.add_zero, b_ft, b_tf, Bool.false_eq_true, ↓rp_done, ↓rp_take, ↓rp_all, ↓ra_nil, ↓ra_first, ↓ra_next, ↓quietO_none, ↓quietO_guard, ↓q_move, ↓q_assign, ↓q_pick, ↓q_binOp, ↓q_field, ↓q_fieldAddr, ↓q_indexAddr, ↓q_nilCheck, set_order, keepV_eq, stBeq_self, ↓rp_graft, put_slot, put_slot_app, List.length_append, List.append_assoc, Nat.add_assoc, ↓aop_build, evP, Bool.true_and, Bool.and_true, Bool.false_and, Bool.and_false, Bool.true_or, Bool.or_true, Bool.false_or, Bool.or_false, Bool.not_true, Bool.not_false]
    refine ⟨_, rfl, by simp only [List.length_set, hlen], by simp only [hlen, gs_self, gs_ne, List.length_set, ne_eq, Nat.reduceEqDiff, Nat.reduceLT, not_false_eq_true], fun t ht => ?_⟩
    simp only [List.mem_cons, List.not_mem_nil, or_false] at ht
    rcases ht with rfl | rfl | rfl | rfl <;> simp only [hlen, gs_self, gs_ne, List.length_set, ne_eq, Nat.reduceEqDiff, Nat.reduceLT, not_false_eq_true]

theorem reg42_6' {H : AH} {v w : AV} {l o : List Int} {i k : Nat} {x : Int} {tm : List AV} {X : Option (AExit × St)} (hX : EvC Try.prog C0 d42_6 (tm, H) = X) (hv : IntS H v l) (hw : IntS H w o) (hk : k ≤ o.length) (hol : o.length < 2 ^ 38) (hx : l[i]? = some x) (hlen : tm.length = 44) (h0 : tm.getD 0 undefA = v) (h3 : tm.getD 3 undefA = w) (h4 : tm.getD 4 undefA = I i) (h5 : tm.getD 5 undefA = I k) :
    ∃ tm', X = some (.normal, (tm', H)) ∧ tm'.length = 44 ∧ tm'.getD 27 undefA = .bool (decide (0 < k) && decide (o.getD (k - 1) 0 > x)) ∧ (∀ t ∈ [0, 3, 4, 5], tm'.getD t undefA = tm.getD t undefA) := by
  subst hX; exact reg42_6 hv hw hk hol hx hlen h0 h3 h4 h5
theorem ris_loop {H : AH} {v w : AV} {l o : List Int} {i : Nat} {x : Int} (hv : IntS H v l) (hw : IntS H w o) (hol : o.length < 2 ^ 38) (hx : l[i]? = some x) : ∀ (k : Nat) (tm : List AV), k ≤ o.length → tm.length = 44 → tm.getD 0 undefA = v → tm.getD 3 undefA = w → tm.getD 4 undefA = I i → tm.getD 5 undefA = I k →
    ∃ tm', EvC Try.prog C0 l42_0 (tm, H) = some (.exit 2, (tm', H)) ∧ tm'.length = 44 ∧ tm'.getD 5 undefA = I (risK o x k) ∧ (∀ t ∈ [0, 3, 4], tm'.getD t undefA = tm.getD t undefA) := by
  intro k
  induction k with
  | zero =>
    intro tm hk hlen h0 h3 h4 h5
    rw [el42_0]
    simp -implicitDefEqProofs only [b42_0, atPath, Try.f42, Option.getD_some, ↓ld3, ↓st3, z3, boolOf_undef, nb, ↓aop_lookup, ↓aop_makeFunc, ↓aop_makeMap, ↓aop_mapUpdate, ↓aop_buildSlice, ↓aop_extract, ↓EvC_seq, ↓EvC_skip, ↓EvC_exit, ↓EvC_ret, ↓EvC_block, ↓EvC_cond, ↓ev_region, ↓runL_cons, ↓runL_nil, ↓stepO_none, ↓stepO_guard, ↓aop_move, ↓aop_assign, ↓aop_load, ↓aop_store, ↓aop_alloc, ↓aop_box, ↓aop_nilCheck, ↓aop_fieldAddr, ↓aop_field, ↓aop_indexAddr, ↓aop_binOp, ↓aop_pick, ↓aop_extract, ↓aop_buildSlice, ↓aop_slice, ↓aop_not, ↓aop_call, ↓callA_len, ↓callA_append, ev_tmp, ev_const, ofV_int, ofV_bool, ofV_str, ofV_nilSlice, ofV_nilPtr, putA_some, putA_none, gs_self, gs_ne, List.length_set, Option.bind_some, Option.map_some, intBinA, evL, evO, evP, ne_eq, not_false_eq_true, if_true, if_false, reduceCtorEq, ite_true, ite_false, reduceIte, put_app, AV.cells, and_true, true_and, and_self, decide_true, decide_false, ↓yielded_eq, yv_some, boolOf_bool, List.getElem?_toArray, List.getElem?_cons_zero, List.getElem?_cons_succ, Nat.reduceLT, Nat.reduceEqDiff, beq_self_eq_true, Option.some_beq_some, wr_app, wr_app0, rd_app, rd_app0, rdL_here, rdL_next, wrL_here, wrL_next, spl, List.all_cons, List.all_nil, AV.one, Bool.and_self, Bool.true_and, List.drop_zero, List.take_succ_cons, List.take_zero, List.drop_succ_cons, List.head?_cons, Nat.reduceAdd, Nat.reduceLeDiff, List.length_cons, List.length_nil, List.nil_append, List.cons_append, List.set_cons_zero, List.set_cons_succ, Int.toNat_natCast, Nat.add_zero, b_ft, b_tf, Bool.false_eq_true]
    generalize hX : EvC Try.prog C0 (Code.region 6 _ true) _ = X
    obtain ⟨tm1, he, hl1, k27, hk1⟩ := reg42_6' hX hv hw hk hol hx hlen h0 h3 h4 h5
    subst he
    have k5 := hk1 5 (by simp)
    rw [show (decide (0 < 0) && decide (o.getD (0 - 1) 0 > x)) = false by simp] at k27
    simp -implicitDefEqProofs only [hl1, k27, ↓ld3, ↓st3, z3, boolOf_undef, nb, ↓aop_lookup, ↓aop_makeFunc, ↓aop_makeMap, ↓aop_mapUpdate, ↓aop_buildSlice, ↓aop_extract, ↓EvC_seq, ↓EvC_skip, ↓EvC_exit, ↓EvC_ret, ↓EvC_block, ↓EvC_cond, ↓ev_region, ↓runL_cons, ↓runL_nil, ↓stepO_none, ↓stepO_guard, ↓aop_move, ↓aop_assign, ↓aop_load, ↓aop_store, ↓aop_alloc, ↓aop_box, ↓aop_nilCheck, ↓aop_fieldAddr, ↓aop_field, ↓aop_indexAddr, ↓aop_binOp, ↓aop_pick, ↓aop_extract, ↓aop_buildSlice, ↓aop_slice, ↓aop_not, ↓aop_call, ↓callA_len, ↓callA_append, ev_tmp, ev_const, ofV_int, ofV_bool, ofV_str, ofV_nilSlice, ofV_nilPtr, putA_some, putA_none, gs_self, gs_ne, List.length_set, Option.bind_some, Option.map_some, intBinA, evL, evO, evP, ne_eq, not_false_eq_true, if_true, if_false, reduceCtorEq, ite_true, ite_false, reduceIte, put_app, AV.cells, and_true, true_and, and_self, decide_true, decide_false, ↓yielded_eq, yv_some, boolOf_bool, List.getElem?_toArray, List.getElem?_cons_zero, List.getElem?_cons_succ, Nat.reduceLT, Nat.reduceEqDiff, beq_self_eq_true, Option.some_beq_some, wr_app, wr_app0, rd_app, rd_app0, rdL_here, rdL_next, wrL_here, wrL_next, spl, List.all_cons, List.all_nil, AV.one, Bool.and_self, Bool.true_and, List.drop_zero, List.take_succ_cons, List.take_zero, List.drop_succ_cons, List.head?_cons, Nat.reduceAdd, Nat.reduceLeDiff, List.length_cons, List.length_nil, List.nil_append, List.cons_append, List.set_cons_zero, List.set_cons_succ, Int.toNat_natCast, Nat.add_zero, b_ft, b_tf, Bool.false_eq_true]
    refine ⟨_, rfl, hl1, by rw [k5, h5]; rfl, fun t ht => hk1 t ?_⟩
    simp only [List.mem_cons, List.not_mem_nil, or_false] at ht ⊢
    omega
  | succ k ih =>
    intro tm hk hlen h0 h3 h4 h5
    rw [el42_0]
    simp -implicitDefEqProofs only [b42_0, atPath, Try.f42, Option.getD_some, ↓ld3, ↓st3, z3, boolOf_undef, nb, ↓aop_lookup, ↓aop_makeFunc, ↓aop_makeMap, ↓aop_mapUpdate, ↓aop_buildSlice, ↓aop_extract, ↓EvC_seq, ↓EvC_skip, ↓EvC_exit, ↓EvC_ret, ↓EvC_block, ↓EvC_cond, ↓ev_region, ↓runL_cons, ↓runL_nil, ↓stepO_none, ↓stepO_guard, ↓aop_move, ↓aop_assign, ↓aop_load, ↓aop_store, ↓aop_alloc, ↓aop_box, ↓aop_nilCheck, ↓aop_fieldAddr, ↓aop_field, ↓aop_indexAddr, ↓aop_binOp, ↓aop_pick, ↓aop_extract, ↓aop_buildSlice, ↓aop_slice, ↓aop_not, ↓aop_call, ↓callA_len, ↓callA_append, ev_tmp, ev_const, ofV_int, ofV_bool, ofV_str, ofV_nilSlice, ofV_nilPtr, putA_some, putA_none, gs_self, gs_ne, List.length_set, Option.bind_some, Option.map_some, intBinA, evL, evO, evP, ne_eq, not_false_eq_true, if_true, if_false, reduceCtorEq, ite_true, ite_false, reduceIte, put_app, AV.cells, and_true, true_and, and_self, decide_true, decide_false, ↓yielded_eq, yv_some, boolOf_bool, List.getElem?_toArray, List.getElem?_cons_zero, List.getElem?_cons_succ, Nat.reduceLT, Nat.reduceEqDiff, beq_self_eq_true, Option.some_beq_some, wr_app, wr_app0, rd_app, rd_app0, rdL_here, rdL_next, wrL_here, wrL_next, spl, List.all_cons, List.all_nil, AV.one, Bool.and_self, Bool.true_and, List.drop_zero, List.take_succ_cons, List.take_zero, List.drop_succ_cons, List.head?_cons, Nat.reduceAdd, Nat.reduceLeDiff, List.length_cons, List.length_nil, List.nil_append, List.cons_append, List.set_cons_zero, List.set_cons_succ, Int.toNat_natCast, Nat.add_zero, b_ft, b_tf, Bool.false_eq_true]
    generalize hX : EvC Try.prog C0 (Code.region 6 _ true) _ = X
    obtain ⟨tm1, he, hl1, k27, hk1⟩ := reg42_6' hX hv hw hk hol hx hlen h0 h3 h4 h5
    subst he
    have k0 := hk1 0 (by simp)
    have k3 := hk1 3 (by simp)
    have k4 := hk1 4 (by simp)
    have k5 := hk1 5 (by simp)
    rw [h0] at k0
    rw [h3] at k3
    rw [h4] at k4
    rw [h5] at k5
    by_cases hg : o.getD k 0 > x
    · rw [show (decide (0 < k + 1) && decide (o.getD (k + 1 - 1) 0 > x)) = true by simpa using hg] at k27
      have hs := sub_i (j := k + 1) (by omega) (by omega)
      rw [Nat.add_sub_cancel] at hs
      simp -implicitDefEqProofs only [hl1, k0, k3, k4, k5, k27, hs, ↓ld3, ↓st3, z3, boolOf_undef, nb, ↓aop_lookup, ↓aop_makeFunc, ↓aop_makeMap, ↓aop_mapUpdate, ↓aop_buildSlice, ↓aop_extract, ↓EvC_seq, ↓EvC_skip, ↓EvC_exit, ↓EvC_ret, ↓EvC_block, ↓EvC_cond, ↓ev_region, ↓runL_cons, ↓runL_nil, ↓stepO_none, ↓stepO_guard, ↓aop_move, ↓aop_assign, ↓aop_load, ↓aop_store, ↓aop_alloc, ↓aop_box, ↓aop_nilCheck, ↓aop_fieldAddr, ↓aop_field, ↓aop_indexAddr, ↓aop_binOp, ↓aop_pick, ↓aop_extract, ↓aop_buildSlice, ↓aop_slice, ↓aop_not, ↓aop_call, ↓callA_len, ↓callA_append, ev_tmp, ev_const, ofV_int, ofV_bool, ofV_str, ofV_nilSlice, ofV_nilPtr, putA_some, putA_none, gs_self, gs_ne, List.length_set, Option.bind_some, Option.map_some, intBinA, evL, evO, evP, ne_eq, not_false_eq_true, if_true, if_false, reduceCtorEq, ite_true, ite_false, reduceIte, put_app, AV.cells, and_true, true_and, and_self, decide_true, decide_false, ↓yielded_eq, yv_some, boolOf_bool, List.getElem?_toArray, List.getElem?_cons_zero, List.getElem?_cons_succ, Nat.reduceLT, Nat.reduceEqDiff, beq_self_eq_true, Option.some_beq_some, wr_app, wr_app0, rd_app, rd_app0, rdL_here, rdL_next, wrL_here, wrL_next, spl, List.all_cons, List.all_nil, AV.one, Bool.and_self, Bool.true_and, List.drop_zero, List.take_succ_cons, List.take_zero, List.drop_succ_cons, List.head?_cons, Nat.reduceAdd, Nat.reduceLeDiff, List.length_cons, List.length_nil, List.nil_append, List.cons_append, List.set_cons_zero, List.set_cons_succ, Int.toNat_natCast, Nat.add_zero, b_ft, b_tf, Bool.false_eq_true]
      generalize hX : EvC Try.prog C0 _ _ = X
      have key : ∀ (tm2 : List AV), EvC Try.prog C0 l42_0 (tm2, H) = X → tm2.length = 44 → tm2.getD 0 undefA = v → tm2.getD 3 undefA = w → tm2.getD 4 undefA = I i → tm2.getD 5 undefA = I k →
          ∃ tm', X = some (.exit 2, (tm', H)) ∧ tm'.length = 44 ∧ tm'.getD 5 undefA = I (risK o x (k + 1)) ∧ (∀ t ∈ [0, 3, 4], tm'.getD t undefA = tm.getD t undefA) := by
        intro tm2 e q0 q1 q2 q3 q4
        obtain ⟨tm', he, hl', r5, rk⟩ := ih tm2 (by omega) q0 q1 q2 q3 q4
        refine ⟨tm', e.symm.trans he, hl', by rw [r5, risK, if_pos hg], fun t ht => ?_⟩
        rw [rk t ht]
        simp only [List.mem_cons, List.not_mem_nil, or_false] at ht
        rcases ht with rfl | rfl | rfl
        · rw [q1, h0]
        · rw [q2, h3]
        · rw [q3, h4]
      exact key _ hX (by simp only [List.length_set, hl1]) (by simp only [hl1, k0, gs_self, gs_ne, List.length_set, ne_eq, Nat.reduceEqDiff, Nat.reduceLT, not_false_eq_true]) (by simp only [hl1, k3, gs_self, gs_ne, List.length_set, ne_eq, Nat.reduceEqDiff, Nat.reduceLT, not_false_eq_true]) (by simp only [hl1, k4, gs_self, gs_ne, List.length_set, ne_eq, Nat.reduceEqDiff, Nat.reduceLT, not_false_eq_true]) (by simp only [hl1, gs_self, gs_ne, List.length_set, ne_eq, Nat.reduceEqDiff, Nat.reduceLT, not_false_eq_true])
    · rw [show (decide (0 < k + 1) && decide (o.getD (k + 1 - 1) 0 > x)) = false by simpa using hg] at k27
      simp -implicitDefEqProofs only [hl1, k27, ↓ld3, ↓st3, z3, boolOf_undef, nb, ↓aop_lookup, ↓aop_makeFunc, ↓aop_makeMap, ↓aop_mapUpdate, ↓aop_buildSlice, ↓aop_extract, ↓EvC_seq, ↓EvC_skip, ↓EvC_exit, ↓EvC_ret, ↓EvC_block, ↓EvC_cond, ↓ev_region, ↓runL_cons, ↓runL_nil, ↓stepO_none, ↓stepO_guard, ↓aop_move, ↓aop_assign, ↓aop_load, ↓aop_store, ↓aop_alloc, ↓aop_box, ↓aop_nilCheck, ↓aop_fieldAddr, ↓aop_field, ↓aop_indexAddr, ↓aop_binOp, ↓aop_pick, ↓aop_extract, ↓aop_buildSlice, ↓aop_slice, ↓aop_not, ↓aop_call, ↓callA_len, ↓callA_append, ev_tmp, ev_const, ofV_int, ofV_bool, ofV_str, ofV_nilSlice, ofV_nilPtr, putA_some, putA_none, gs_self, gs_ne, List.length_set, Option.bind_some, Option.map_some, intBinA, evL, evO, evP, ne_eq, not_false_eq_true, if_true, if_false, reduceCtorEq, ite_true, ite_false, reduceIte, put_app, AV.cells, and_true, true_and, and_self, decide_true, decide_false, ↓yielded_eq, yv_some, boolOf_bool, List.getElem?_toArray, List.getElem?_cons_zero, List.getElem?_cons_succ, Nat.reduceLT, Nat.reduceEqDiff, beq_self_eq_true, Option.some_beq_some, wr_app, wr_app0, rd_app, rd_app0, rdL_here, rdL_next, wrL_here, wrL_next, spl, List.all_cons, List.all_nil, AV.one, Bool.and_self, Bool.true_and, List.drop_zero, List.take_succ_cons, List.take_zero, List.drop_succ_cons, List.head?_cons, Nat.reduceAdd, Nat.reduceLeDiff, List.length_cons, List.length_nil, List.nil_append, List.cons_append, List.set_cons_zero, List.set_cons_succ, Int.toNat_natCast, Nat.add_zero, b_ft, b_tf, Bool.false_eq_true]
      refine ⟨_, rfl, hl1, by rw [k5, risK, if_neg hg], fun t ht => hk1 t ?_⟩
      simp only [List.mem_cons, List.not_mem_nil, or_false] at ht ⊢
      omega
theorem ris_loop' {H : AH} {v w : AV} {l o : List Int} {i k : Nat} {x : Int} {tm : List AV} {X : Option (AExit × St)} (hX : EvC Try.prog C0 l42_0 (tm, H) = X) (hv : IntS H v l) (hw : IntS H w o) (hol : o.length < 2 ^ 38) (hx : l[i]? = some x) (hk : k ≤ o.length) (hlen : tm.length = 44) (h0 : tm.getD 0 undefA = v) (h3 : tm.getD 3 undefA = w) (h4 : tm.getD 4 undefA = I i) (h5 : tm.getD 5 undefA = I k) :
    ∃ tm', X = some (.exit 2, (tm', H)) ∧ tm'.length = 44 ∧ tm'.getD 5 undefA = I (risK o x k) ∧ (∀ t ∈ [0, 3, 4], tm'.getD t undefA = tm.getD t undefA) := by
  subst hX; exact ris_loop hv hw hol hx k tm hk hlen h0 h3 h4 h5

/-! the row that takes the number in: two appends in a region of any order -/
theorem get_app {G L : AH} {n : Nat} {c : AObj} (h : L[n]? = some c) : (G ++ L)[G.length + n]? = some c := by
  rw [List.getElem?_append_right (by omega), Nat.add_sub_cancel_left]; exact h
theorem put_at {G L : AH} {n : Nat} {c : AObj} (h : L[n]? = some .fresh) : put (some (G.length + n)) (G ++ L) c = some (G.length + n, G ++ L.set n c) := by
  unfold put
  simp only [get_app h]
  rw [List.set_append_right _ _ (by omega), Nat.add_sub_cancel_left]
theorem bs_at {G L : AH} {n : Nat} (x : Int) (h : L[n]? = some .fresh) : buildSliceA Try.prog (some (G.length + n)) 46 1 [(0, I x)] (G ++ L) = some (.slice (G.length + n) 0 1 1 1 true, G ++ L.set n (.cells (ii [x]) 3)) := by
  simp only [buildSliceA, se46, z3, Option.bind_some, ce3]
  rw [if_pos ⟨by omega, by simp [AV.cells]⟩]
  have : fillA (fun i => some (i * 1, 1)) (zrow (I 0).cells (1 * 1)) [(0, I x)] = some [I x] := by rfl
  rw [this, Option.bind_some, put_at h]; rfl
theorem app_nosrc (H : AH) (slot : Option Nat) (b k n c : Nat) (e : Bool) : appendA Try.prog slot 46 (some 46) (.slice b k 1 n c e) .nilSlice H = some (.slice b k 1 n c e, H) := by
  unfold appendA
  rw [if_neg (by rw [zs46]; simp), se46, Option.bind_some, z3, Option.bind_some, ce3]
  simp only [srcA, Option.bind_some]
  rw [if_pos ⟨rfl, by simp [AV.cells]⟩]
  simp
/-- a full row of known capacity grows: it goes to a new block, the old one stays -/
theorem app_exat {G L : AH} {b n i k' m c' s : Nat} {e' : Bool} {xs ys : List Int} (hx : rdCells (G ++ L) i k' m = some (ii ys)) (hm : 0 < m) (ho : rdCells (G ++ L) b 0 n = some (ii xs)) (hn : n + m < 2 ^ 40) (hs : L[s]? = some .fresh) :
    appendA Try.prog (some (G.length + s)) 46 (some 46) (.slice b 0 1 n n true) (.slice i k' 1 m c' e') (G ++ L) = some (.slice (G.length + s) 0 1 (n + m) (n + m) false, G ++ L.set s (.cells (ii (xs ++ ys)) 3)) := by
  obtain ⟨f, hf, hfn⟩ := app_src (c := c') (e := e') hx
  unfold appendA
  rw [if_neg (by rw [zs46]; simp), se46, Option.bind_some, z3, Option.bind_some, ce3, hf, Option.bind_some]
  simp only [hfn, Option.bind_some]
  rw [if_pos ⟨rfl, by simp [AV.cells]⟩, if_pos trivial, if_neg (by omega), if_neg (by omega), if_pos trivial, by3, if_pos (gr3 hn), Nat.mul_one, ho, Option.bind_some, put_at hs, ← ii_append]
  simp
/-- a row with too little room grows: the old block is dead -/
theorem app_killat {G L : AH} {b n c i k' m c' s : Nat} {e' : Bool} {xs ys : List Int} {cs : List AV} (hx : rdCells (G ++ L) i k' m = some (ii ys)) (hm : 0 < m) (hc : c < n + m) (hb : G[b]? = some (.cells cs 3)) (ho : rdCells (G ++ L) b 0 n = some (ii xs)) (hn : n + m < 2 ^ 40) (hs : L[s]? = some .fresh) :
    appendA Try.prog (some (G.length + s)) 46 (some 46) (.slice b 0 1 n c false) (.slice i k' 1 m c' e') (G ++ L) = some (.slice (G.length + s) 0 1 (n + m) (n + m) false, G.set b .dead ++ L.set s (.cells (ii (xs ++ ys)) 3)) := by
  obtain ⟨f, hf, hfn⟩ := app_src (c := c') (e := e') hx
  have hbl := lt_of_get hb
  have hb' : (G ++ L)[b]? = some (.cells cs 3) := by rw [List.getElem?_append_left hbl]; exact hb
  unfold appendA
  rw [if_neg (by rw [zs46]; simp), se46, Option.bind_some, z3, Option.bind_some, ce3, hf, Option.bind_some]
  simp only [hfn, Option.bind_some]
  rw [if_pos ⟨rfl, by simp [AV.cells]⟩, if_pos trivial, if_neg (by omega), if_neg (by omega), if_neg (by simp)]
  simp only [hb']
  rw [if_pos ⟨trivial, ii_one _, by rw [by3]; exact gr3 hn⟩, Nat.mul_one, ho, Option.bind_some, List.set_append_left _ _ hbl]
  have e : G.length + s = (G.set b .dead).length + s := by simp
  rw [e, put_at hs, ← ii_append]
  simp
theorem app_nilat {G L : AH} {i k' m c' s : Nat} {e' : Bool} {ys : List Int} (hx : rdCells (G ++ L) i k' m = some (ii ys)) (hm : 0 < m) (hn : m < 2 ^ 40) (hs : L[s]? = some .fresh) :
    appendA Try.prog (some (G.length + s)) 46 (some 46) .nilSlice (.slice i k' 1 m c' e') (G ++ L) = some (.slice (G.length + s) 0 1 m m false, G ++ L.set s (.cells (ii ys) 3)) := by
  obtain ⟨f, hf, hfn⟩ := app_src (c := c') (e := e') hx
  unfold appendA
  rw [if_neg (by rw [zs46]; simp), se46, Option.bind_some, z3, Option.bind_some, ce3, hf, Option.bind_some]
  simp only [hfn, Option.bind_some]
  rw [if_pos ⟨rfl, by simp [AV.cells]⟩, if_neg (by omega), by3, if_pos (gr3 hn), put_at hs]
  simp
theorem sl46n (H : AH) (z : AV) (hz : z = I ((0 : Nat) : Int)) : sliceA Try.prog 46 H .nilSlice none (some z) none = some .nilSlice ∧ sliceA Try.prog 46 H .nilSlice (some z) none none = some .nilSlice := by
  subst hz
  have := in3
  cases hi : Try.prog.info? 3 with
  | none => rw [hi] at this; cases this
  | some d => simp [sliceA, un46, boundA, hi]
theorem rd_sp {G L : AH} {n m : Nat} {xs : List Int} (h : L[n]? = some (.cells (ii xs) 3)) (hm : m = xs.length) : rdCells (G ++ L) (G.length + n) 0 m = some (ii xs) := by
  subst hm
  rw [rd_ints (get_app h) (by omega), List.drop_zero, List.take_length]
theorem rd_ap {G : AH} {b k n : Nat} {xs : List Int} (h : G[b]? = some (.cells (ii xs) 3)) (hk : k + n ≤ xs.length) (L : AH) : rdCells (G ++ L) b k n = some (ii ((xs.drop k).take n)) :=
  rd_ints (by rw [List.getElem?_append_left (lt_of_get h)]; exact h) hk


set_option maxHeartbeats 8000000 in
theorem reg42_8a {G : AH} {v : AV} {l : List Int} {i : Nat} {x : Int} {kv : AV} {tm : List AV} (hv : IntS G v l) (hx : l[i]? = some x) (hz : kv = I ((0 : Nat) : Int)) (hlen : tm.length = 44) (h0 : tm.getD 0 undefA = v) (h3 : tm.getD 3 undefA = .nilSlice) (h4 : tm.getD 4 undefA = I i) (h5 : tm.getD 5 undefA = kv) :
    ∃ tm' L, EvC Try.prog C0 d42_8 (tm, G) = some (.normal, (tm', G ++ L)) ∧ tm'.length = 44 ∧ tm'.getD 3 undefA = ov (G.length + 12) 1 ∧ L[12]? = some (.cells (ii [x]) 3) ∧ (∀ t ∈ [0, 4], tm'.getD t undefA = tm.getD t undefA) := by
  obtain ⟨i2, k2, hi2, hr2'⟩ := hv.ix i x hx
  have hr2 : ∀ L, rdCells (G ++ L) i2 k2 1 = some [I x] := fun L => rd_old hr2' L
  have e1 : ∀ L : AH, L[7]? = some .fresh → buildSliceA Try.prog (some (G.length + 7)) 46 1 [(0, I x)] (G ++ L) = some (.slice (G.length + 7) 0 1 1 1 true, G ++ L.set 7 (.cells (ii [x]) 3)) := fun L h => bs_at x h
  have e2 := fun H => (sl46n H kv hz).1
  have e3 := fun H => (sl46n H kv hz).2
  have e4 := app_nosrc
  have e5 : ∀ L : AH, L[7]? = some (.cells (ii [x]) 3) → L[12]? = some .fresh → appendA Try.prog (some (G.length + 12)) 46 (some 46) .nilSlice (.slice (G.length + 7) 0 1 1 1 true) (G ++ L) = some (ov (G.length + 12) 1, G ++ L.set 12 (.cells (ii [x]) 3)) := fun L h h' => app_nilat (rd_sp h rfl) (by omega) (by omega) h'
  have dd := ed42_8
  simp only [d42_8, opsAt, atPath, Try.f42, Option.getD_some] at dd
  simp only [d42_8, opsAt, atPath, Try.f42, Option.getD_some]
  rw [dd]
  simp -implicitDefEqProofs only [hlen, h0, h3, h4, h5, hi2, hr2, e1, e2, e3, e4, e5, List.replicate, Bool.not_true, Bool.not_false, Bool.true_and, Bool.and_true, Bool.false_and, Bool.and_false, Bool.true_or, Bool.or_true, Bool.false_or, Bool.or_false, cond_true, cond_false, boolOf_undef, nb, beq_self_eq_true, Bool.and_self, ↓ld3, ↓st3, z3, boolOf_undef, nb, ↓aop_lookup, ↓aop_makeFunc, ↓aop_makeMap, ↓aop_mapUpdate, ↓aop_buildSlice, ↓aop_extract, ↓EvC_seq, ↓EvC_skip, ↓EvC_exit, ↓EvC_ret, ↓EvC_block, ↓EvC_cond, ↓ev_region, ↓runL_cons, ↓runL_nil, ↓stepO_none, ↓stepO_guard, ↓aop_move, ↓aop_assign, ↓aop_load, ↓aop_store, ↓aop_alloc, ↓aop_box, ↓aop_nilCheck, ↓aop_fieldAddr, ↓aop_field, ↓aop_indexAddr, ↓aop_binOp, ↓aop_pick, ↓aop_extract, ↓aop_buildSlice, ↓aop_slice, ↓aop_not, ↓aop_call, ↓callA_len, ↓callA_append, ev_tmp, ev_const, ofV_int, ofV_bool, ofV_str, ofV_nilSlice, ofV_nilPtr, putA_some, putA_none, gs_self, gs_ne, List.length_set, Option.bind_some, Option.map_some, intBinA, evL, evO, evP, ne_eq, not_false_eq_true, if_true, if_false, reduceCtorEq, ite_true, ite_false, reduceIte, put_app, AV.cells, and_true, true_and, and_self, decide_true, decide_false, ↓yielded_eq, yv_some, boolOf_bool, List.getElem?_toArray, List.getElem?_cons_zero, List.getElem?_cons_succ, Nat.reduceLT, Nat.reduceEqDiff, beq_self_eq_true, Option.some_beq_some, wr_app, wr_app0, rd_app, rd_app0, rdL_here, rdL_next, wrL_here, wrL_next, spl, List.all_cons, List.all_nil, AV.one, Bool.and_self, Bool.true_and, List.drop_zero, List.take_succ_cons, List.take_zero, List.drop_succ_cons, List.head?_cons, Nat.reduceAdd, Nat.reduceLeDiff, List.length_cons, List.length_nil, List.nil_append, List.cons_append, List.set_cons_zero, List.set_cons_succ, Int.toNat_natCast, Nat.add_zero, b_ft, b_tf, Bool.false_eq_true, ↓rp_done, ↓rp_take, ↓rp_all, ↓ra_nil, ↓ra_first, ↓ra_next, ↓quietO_none, ↓quietO_guard, ↓q_move, ↓q_assign, ↓q_pick, ↓q_binOp, ↓q_field, ↓q_fieldAddr, ↓q_indexAddr, ↓q_nilCheck, set_order, keepV_eq, stBeq_self, ↓rp_graft, put_slot, put_slot_app, List.length_append, List.append_assoc, Nat.add_assoc, ↓aop_build, evP, Bool.true_and, Bool.and_true, Bool.false_and, Bool.and_false, Bool.true_or, Bool.or_true, Bool.false_or, Bool.or_false, Bool.not_true, Bool.not_false]
  refine ⟨_, _, rfl, by simp only [List.length_set, hlen], by simp only [hlen, gs_self, gs_ne, List.length_set, ne_eq, Nat.reduceEqDiff, Nat.reduceLT, not_false_eq_true], rfl, fun t ht => ?_⟩
  simp only [List.mem_cons, List.not_mem_nil, or_false] at ht
  rcases ht with rfl | rfl <;> simp only [hlen, gs_self, gs_ne, List.length_set, ne_eq, Nat.reduceEqDiff, Nat.reduceLT, not_false_eq_true]



set_option maxHeartbeats 8000000 in
theorem reg42_8b {G : AH} {v : AV} {l o : List Int} {i b : Nat} {x : Int} {tm : List AV} (hv : IntS G v l) (hx : l[i]? = some x) (hne : o ≠ []) (hol : o.length < 2 ^ 38) (hb : G[b]? = some (.cells (ii o) 3)) (hlen : tm.length = 44) (h0 : tm.getD 0 undefA = v) (h3 : tm.getD 3 undefA = ov b o.length) (h4 : tm.getD 4 undefA = I i) (h5 : tm.getD 5 undefA = I o.length) :
    ∃ tm' L, EvC Try.prog C0 d42_8 (tm, G) = some (.normal, (tm', G.set b .dead ++ L)) ∧ tm'.length = 44 ∧ tm'.getD 3 undefA = ov (G.length + 12) (o.length + 1) ∧ L[12]? = some (.cells (ii (o ++ [x])) 3) ∧ (∀ t ∈ [0, 4], tm'.getD t undefA = tm.getD t undefA) := by
  obtain ⟨i2, k2, hi2, hr2'⟩ := hv.ix i x hx
  have hr2 : ∀ L, rdCells (G ++ L) i2 k2 1 = some [I x] := fun L => rd_old hr2' L
  have e1 : ∀ L : AH, L[7]? = some .fresh → buildSliceA Try.prog (some (G.length + 7)) 46 1 [(0, I x)] (G ++ L) = some (.slice (G.length + 7) 0 1 1 1 true, G ++ L.set 7 (.cells (ii [x]) 3)) := fun L h => bs_at x h
  have e2 : ∀ H, sliceA Try.prog 46 H (ov b o.length) none (some (I o.length)) none = some (ov b o.length) := fun H => sl46h H b 0 o.length o.length false o.length (Nat.le_refl _)
  have e3 : ∀ H, sliceA Try.prog 46 H (ov b o.length) (some (I o.length)) none none = some (.slice b o.length 1 0 0 false) := fun H => by
    have := sl46l H b 0 o.length o.length false o.length (Nat.le_refl _) (Nat.le_refl _)
    rwa [Nat.zero_add, Nat.sub_self] at this
  have e4 : ∀ (slot : Option Nat) (L : AH), appendA Try.prog slot 46 (some 46) (.slice (G.length + 7) 0 1 1 1 true) (.slice b o.length 1 0 0 false) (G ++ L) = some (.slice (G.length + 7) 0 1 1 1 true, G ++ L) := fun slot L => app_none (rd_ap hb (by omega) L)
  have e5 : ∀ L : AH, L[7]? = some (.cells (ii [x]) 3) → L[12]? = some .fresh → appendA Try.prog (some (G.length + 12)) 46 (some 46) (ov b o.length) (.slice (G.length + 7) 0 1 1 1 true) (G ++ L) = some (ov (G.length + 12) (o.length + 1), G.set b .dead ++ L.set 12 (.cells (ii (o ++ [x])) 3)) := fun L h h' => by
    have ho := rd_ap (k := 0) (n := o.length) hb (by omega) L
    rw [List.drop_zero, List.take_length] at ho
    exact app_killat (rd_sp h rfl) (by omega) (by omega) hb ho (by omega) h'
  have dd := ed42_8
  simp only [d42_8, opsAt, atPath, Try.f42, Option.getD_some] at dd
  simp only [d42_8, opsAt, atPath, Try.f42, Option.getD_some]
  rw [dd]
  simp -implicitDefEqProofs only [hlen, h0, h3, h4, h5, hi2, hr2, e1, e2, e3, e4, e5, List.replicate, Bool.not_true, Bool.not_false, Bool.true_and, Bool.and_true, Bool.false_and, Bool.and_false, Bool.true_or, Bool.or_true, Bool.false_or, Bool.or_false, cond_true, cond_false, boolOf_undef, nb, beq_self_eq_true, Bool.and_self, ↓ld3, ↓st3, z3, boolOf_undef, nb, ↓aop_lookup, ↓aop_makeFunc, ↓aop_makeMap, ↓aop_mapUpdate, ↓aop_buildSlice, ↓aop_extract, ↓EvC_seq, ↓EvC_skip, ↓EvC_exit, ↓EvC_ret, ↓EvC_block, ↓EvC_cond, ↓ev_region, ↓runL_cons, ↓runL_nil, ↓stepO_none, ↓stepO_guard, ↓aop_move, ↓aop_assign, ↓aop_load, ↓aop_store, ↓aop_alloc, ↓aop_box, ↓aop_nilCheck, ↓aop_fieldAddr, ↓aop_field, ↓aop_indexAddr, ↓aop_binOp, ↓aop_pick, ↓aop_extract, ↓aop_buildSlice, ↓aop_slice, ↓aop_not, ↓aop_call, ↓callA_len, ↓callA_append, ev_tmp, ev_const, ofV_int, ofV_bool, ofV_str, ofV_nilSlice, ofV_nilPtr, putA_some, putA_none, gs_self, gs_ne, List.length_set, Option.bind_some, Option.map_some, intBinA, evL, evO, evP, ne_eq, not_false_eq_true, if_true, if_false, reduceCtorEq, ite_true, ite_false, reduceIte, put_app, AV.cells, and_true, true_and, and_self, decide_true, decide_false, ↓yielded_eq, yv_some, boolOf_bool, List.getElem?_toArray, List.getElem?_cons_zero, List.getElem?_cons_succ, Nat.reduceLT, Nat.reduceEqDiff, beq_self_eq_true, Option.some_beq_some, wr_app, wr_app0, rd_app, rd_app0, rdL_here, rdL_next, wrL_here, wrL_next, spl, List.all_cons, List.all_nil, AV.one, Bool.and_self, Bool.true_and, List.drop_zero, List.take_succ_cons, List.take_zero, List.drop_succ_cons, List.head?_cons, Nat.reduceAdd, Nat.reduceLeDiff, List.length_cons, List.length_nil, List.nil_append, List.cons_append, List.set_cons_zero, List.set_cons_succ, Int.toNat_natCast, Nat.add_zero, b_ft, b_tf, Bool.false_eq_true, ↓rp_done, ↓rp_take, ↓rp_all, ↓ra_nil, ↓ra_first, ↓ra_next, ↓quietO_none, ↓quietO_guard, ↓q_move, ↓q_assign, ↓q_pick, ↓q_binOp, ↓q_field, ↓q_fieldAddr, ↓q_indexAddr, ↓q_nilCheck, set_order, keepV_eq, stBeq_self, ↓rp_graft, put_slot, put_slot_app, List.length_append, List.append_assoc, Nat.add_assoc, ↓aop_build, evP, Bool.true_and, Bool.and_true, Bool.false_and, Bool.and_false, Bool.true_or, Bool.or_true, Bool.false_or, Bool.or_false, Bool.not_true, Bool.not_false]
  refine ⟨_, _, rfl, by simp only [List.length_set, hlen], by simp only [hlen, gs_self, gs_ne, List.length_set, ne_eq, Nat.reduceEqDiff, Nat.reduceLT, not_false_eq_true], rfl, fun t ht => ?_⟩
  simp only [List.mem_cons, List.not_mem_nil, or_false] at ht
  rcases ht with rfl | rfl <;> simp only [hlen, gs_self, gs_ne, List.length_set, ne_eq, Nat.reduceEqDiff, Nat.reduceLT, not_false_eq_true]

set_option maxHeartbeats 8000000 in
theorem reg42_8c {G : AH} {v : AV} {l o : List Int} {i b k : Nat} {x : Int} {tm : List AV} (hv : IntS G v l) (hx : l[i]? = some x) (hk : k < o.length) (hol : o.length < 2 ^ 38) (hb : G[b]? = some (.cells (ii o) 3)) (hlen : tm.length = 44) (h0 : tm.getD 0 undefA = v) (h3 : tm.getD 3 undefA = ov b o.length) (h4 : tm.getD 4 undefA = I i) (h5 : tm.getD 5 undefA = I k) :
    ∃ tm' L, EvC Try.prog C0 d42_8 (tm, G) = some (.normal, (tm', G.set b .dead ++ L)) ∧ tm'.length = 44 ∧ tm'.getD 3 undefA = ov (G.length + 12) (o.length + 1) ∧ L[12]? = some (.cells (ii (o.take k ++ x :: o.drop k)) 3) ∧ (∀ t ∈ [0, 4], tm'.getD t undefA = tm.getD t undefA) := by
  obtain ⟨i2, k2, hi2, hr2'⟩ := hv.ix i x hx
  have hr2 : ∀ L, rdCells (G ++ L) i2 k2 1 = some [I x] := fun L => rd_old hr2' L
  have e1 : ∀ L : AH, L[7]? = some .fresh → buildSliceA Try.prog (some (G.length + 7)) 46 1 [(0, I x)] (G ++ L) = some (.slice (G.length + 7) 0 1 1 1 true, G ++ L.set 7 (.cells (ii [x]) 3)) := fun L h => bs_at x h
  have e2 : ∀ H, sliceA Try.prog 46 H (ov b o.length) none (some (I k)) none = some (.slice b 0 1 k o.length false) := fun H => sl46h H b 0 o.length o.length false k (by omega)
  have e3 : ∀ H, sliceA Try.prog 46 H (ov b o.length) (some (I k)) none none = some (.slice b k 1 (o.length - k) (o.length - k) false) := fun H => by
    have := sl46l H b 0 o.length o.length false k (by omega) (Nat.le_refl _)
    rwa [Nat.zero_add] at this
  have e4 : ∀ L : AH, L[7]? = some (.cells (ii [x]) 3) → L[11]? = some .fresh → appendA Try.prog (some (G.length + 11)) 46 (some 46) (.slice (G.length + 7) 0 1 1 1 true) (.slice b k 1 (o.length - k) (o.length - k) false) (G ++ L) = some (.slice (G.length + 11) 0 1 (1 + (o.length - k)) (1 + (o.length - k)) false, G ++ L.set 11 (.cells (ii ([x] ++ o.drop k)) 3)) := fun L h h' => by
    have ho := rd_ap (k := k) (n := o.length - k) hb (by omega) L
    rw [List.take_of_length_le (by simp)] at ho
    exact app_exat ho (by omega) (rd_sp h rfl) (by omega) h'
  have e5 : ∀ L : AH, L[11]? = some (.cells (ii ([x] ++ o.drop k)) 3) → L[12]? = some .fresh → appendA Try.prog (some (G.length + 12)) 46 (some 46) (.slice b 0 1 k o.length false) (.slice (G.length + 11) 0 1 (1 + (o.length - k)) (1 + (o.length - k)) false) (G ++ L) = some (ov (G.length + 12) (o.length + 1), G.set b .dead ++ L.set 12 (.cells (ii (o.take k ++ x :: o.drop k)) 3)) := fun L h h' => by
    have ho := rd_ap (k := 0) (n := k) hb (by omega) L
    rw [List.drop_zero] at ho
    have := app_killat (c := o.length) (c' := 1 + (o.length - k)) (e' := false) (rd_sp (m := 1 + (o.length - k)) h (by simp; omega)) (by omega) (by omega) hb ho (by omega) h'
    rwa [show k + (1 + (o.length - k)) = o.length + 1 by omega] at this
  have dd := ed42_8
  simp only [d42_8, opsAt, atPath, Try.f42, Option.getD_some] at dd
  simp only [d42_8, opsAt, atPath, Try.f42, Option.getD_some]
  rw [dd]
  simp -implicitDefEqProofs only [hlen, h0, h3, h4, h5, hi2, hr2, e1, e2, e3, e4, e5, List.replicate, Bool.not_true, Bool.not_false, Bool.true_and, Bool.and_true, Bool.false_and, Bool.and_false, Bool.true_or, Bool.or_true, Bool.false_or, Bool.or_false, cond_true, cond_false, boolOf_undef, nb, beq_self_eq_true, Bool.and_self, ↓ld3, ↓st3, z3, boolOf_undef, nb, ↓aop_lookup, ↓aop_makeFunc, ↓aop_makeMap, ↓aop_mapUpdate, ↓aop_buildSlice, ↓aop_extract, ↓EvC_seq, ↓EvC_skip, ↓EvC_exit, ↓EvC_ret, ↓EvC_block, ↓EvC_cond, ↓ev_region, ↓runL_cons, ↓runL_nil, ↓stepO_none, ↓stepO_guard, ↓aop_move, ↓aop_assign, ↓aop_load, ↓aop_store, ↓aop_alloc, ↓aop_box, ↓aop_nilCheck, ↓aop_fieldAddr, ↓aop_field, ↓aop_indexAddr, ↓aop_binOp, ↓aop_pick, ↓aop_extract, ↓aop_buildSlice, ↓aop_slice, ↓aop_not, ↓aop_call, ↓callA_len, ↓callA_append, ev_tmp, ev_const, ofV_int, ofV_bool, ofV_str, ofV_nilSlice, ofV_nilPtr, putA_some, putA_none, gs_self, gs_ne, List.length_set, Option.bind_some, Option.map_some, intBinA, evL, evO, evP, ne_eq, not_false_eq_true, if_true, if_false, reduceCtorEq, ite_true, ite_false, reduceIte, put_app, AV.cells, and_true, true_and, and_self, decide_true, decide_false, ↓yielded_eq, yv_some, boolOf_bool, List.getElem?_toArray, List.getElem?_cons_zero, List.getElem?_cons_succ, Nat.reduceLT, Nat.reduceEqDiff, beq_self_eq_true, Option.some_beq_some, wr_app, wr_app0, rd_app, rd_app0, rdL_here, rdL_next, wrL_here, wrL_next, spl, List.all_cons, List.all_nil, AV.one, Bool.and_self, Bool.true_and, List.drop_zero, List.take_succ_cons, List.take_zero, List.drop_succ_cons, List.head?_cons, Nat.reduceAdd, Nat.reduceLeDiff, List.length_cons, List.length_nil, List.nil_append, List.cons_append, List.set_cons_zero, List.set_cons_succ, Int.toNat_natCast, Nat.add_zero, b_ft, b_tf, Bool.false_eq_true, ↓rp_done, ↓rp_take, ↓rp_all, ↓ra_nil, ↓ra_first, ↓ra_next, ↓quietO_none, ↓quietO_guard, ↓q_move, ↓q_assign, ↓q_pick, ↓q_binOp, ↓q_field, ↓q_fieldAddr, ↓q_indexAddr, ↓q_nilCheck, set_order, keepV_eq, stBeq_self, ↓rp_graft, put_slot, put_slot_app, List.length_append, List.append_assoc, Nat.add_assoc, ↓aop_build, evP, Bool.true_and, Bool.and_true, Bool.false_and, Bool.and_false, Bool.true_or, Bool.or_true, Bool.false_or, Bool.or_false, Bool.not_true, Bool.not_false]
  refine ⟨_, _, rfl, by simp only [List.length_set, hlen], by simp only [hlen, gs_self, gs_ne, List.length_set, ne_eq, Nat.reduceEqDiff, Nat.reduceLT, not_false_eq_true], rfl, fun t ht => ?_⟩
  simp only [List.mem_cons, List.not_mem_nil, or_false] at ht
  rcases ht with rfl | rfl <;> simp only [hlen, gs_self, gs_ne, List.length_set, ne_eq, Nat.reduceEqDiff, Nat.reduceLT, not_false_eq_true]


/-- the number goes in, wherever -/
theorem reg42_8 {b0 : Nat} {G : AH} {v : AV} {l o : List Int} {i b k : Nat} {x : Int} {tm : List AV} (hb0 : b0 ≤ G.length) (hs : HS b0 G o b) (hv : IntS G v l) (hx : l[i]? = some x) (hk : k ≤ o.length) (hol : o.length < 2 ^ 38) (hlen : tm.length = 44) (h0 : tm.getD 0 undefA = v) (h3 : tm.getD 3 undefA = hV o b) (h4 : tm.getD 4 undefA = I i) (h5 : tm.getD 5 undefA = I k) :
    ∃ tm' G' b', EvC Try.prog C0 d42_8 (tm, G) = some (.normal, (tm', G')) ∧ tm'.length = 44 ∧ tm'.getD 3 undefA = hV (o.take k ++ x :: o.drop k) b' ∧ UseTo b0 G (o.take k ++ x :: o.drop k) G' b' ∧ (∀ t ∈ [0, 4], tm'.getD t undefA = tm.getD t undefA) := by
  have hlen2 : (o.take k ++ x :: o.drop k).length = o.length + 1 := by simp; omega
  have fin : ∀ (tm' : List AV) (G1 L : AH), EvC Try.prog C0 d42_8 (tm, G) = some (.normal, (tm', G1 ++ L)) → G1.length = G.length → (∀ j, j < b0 → G1[j]? = G[j]?) → tm'.length = 44 → tm'.getD 3 undefA = ov (G.length + 12) (o.length + 1) → L[12]? = some (.cells (ii (o.take k ++ x :: o.drop k)) 3) → (∀ t ∈ [0, 4], tm'.getD t undefA = tm.getD t undefA) →
      ∃ tm' G' b', EvC Try.prog C0 d42_8 (tm, G) = some (.normal, (tm', G')) ∧ tm'.length = 44 ∧ tm'.getD 3 undefA = hV (o.take k ++ x :: o.drop k) b' ∧ UseTo b0 G (o.take k ++ x :: o.drop k) G' b' ∧ (∀ t ∈ [0, 4], tm'.getD t undefA = tm.getD t undefA) := by
    intro tm' G1 L e1 e2 e3 e4 e5 e6 e7
    refine ⟨tm', G1 ++ L, G.length + 12, e1, e4, by rw [hV_cons (by simp), hlen2, e5], ⟨⟨fun _ => by omega, fun _ => ?_⟩, fun j hj => ?_, ?_⟩, e7⟩
    · rw [← e2]; exact get_app e6
    · rw [List.getElem?_append_left (by omega)]; exact e3 j hj
    · simp; omega
  by_cases hne : o = []
  · subst hne
    obtain rfl : k = 0 := by simpa using hk
    obtain ⟨tm', L, a1, a2, a3, a4, a5⟩ := reg42_8a hv hx rfl hlen h0 h3 h4 h5
    exact fin tm' G L a1 rfl (fun _ _ => rfl) a2 a3 a4 a5
  · rw [hV_cons hne] at h3
    have hb := hs.at' hne
    have hkb : ∀ j, j < b0 → (G.set b .dead)[j]? = G[j]? := fun j hj => List.getElem?_set_ne (by have := hs.ge hne; omega)
    rcases Nat.lt_or_ge k o.length with hlt | hge
    · obtain ⟨tm', L, a1, a2, a3, a4, a5⟩ := reg42_8c hv hx hlt hol hb hlen h0 h3 h4 h5
      exact fin tm' _ L a1 (by simp) hkb a2 a3 a4 a5
    · obtain rfl : k = o.length := by omega
      obtain ⟨tm', L, a1, a2, a3, a4, a5⟩ := reg42_8b hv hx hne hol hb hlen h0 h3 h4 h5
      refine fin tm' _ L a1 (by simp) hkb a2 a3 ?_ a5
      rw [List.take_length, List.drop_length]; exact a4
theorem reg42_8' {b0 : Nat} {G : AH} {v : AV} {l o : List Int} {i b k : Nat} {x : Int} {tm : List AV} {X : Option (AExit × St)} (hX : EvC Try.prog C0 d42_8 (tm, G) = X) (hb0 : b0 ≤ G.length) (hs : HS b0 G o b) (hv : IntS G v l) (hx : l[i]? = some x) (hk : k ≤ o.length) (hol : o.length < 2 ^ 38) (hlen : tm.length = 44) (h0 : tm.getD 0 undefA = v) (h3 : tm.getD 3 undefA = hV o b) (h4 : tm.getD 4 undefA = I i) (h5 : tm.getD 5 undefA = I k) :
    ∃ tm' G' b', X = some (.normal, (tm', G')) ∧ tm'.length = 44 ∧ tm'.getD 3 undefA = hV (o.take k ++ x :: o.drop k) b' ∧ UseTo b0 G (o.take k ++ x :: o.drop k) G' b' ∧ (∀ t ∈ [0, 4], tm'.getD t undefA = tm.getD t undefA) := by
  subst hX; exact reg42_8 hb0 hs hv hx hk hol hlen h0 h3 h4 h5

/-- what stands while the numbers are put in order -/
structure RisInv (G0 : AH) (v : AV) (tm : List AV) (G : AH) (o : List Int) (i b : Nat) : Prop where
  len : tm.length = 44
  t0 : tm.getD 0 undefA = v
  t3 : tm.getD 3 undefA = hV o b
  t4 : tm.getD 4 undefA = I i
  hs : HS G0.length G o b
  keep : ∀ j, j < G0.length → G[j]? = G0[j]?
  big : G0.length ≤ G.length
  hol : o.length = i
theorem insR_len (o : List Int) (x : Int) : (insR o x).length = o.length + 1 := (insR_perm o x).length_eq
theorem ris_round {G0 : AH} {v : AV} {l : List Int} {tm : List AV} {G : AH} {o : List Int} {i b : Nat} {x : Int} (hv : IntS G0 v l) (hl : l.length < 2 ^ 37) (hx : l[i]? = some x) (hI : RisInv G0 v tm G o i b) :
    ∀ X, EvC Try.prog C0 l42_1 (tm, G) = X → ∃ tm' G' b', EvC Try.prog C0 l42_1 (tm', G') = X ∧ RisInv G0 v tm' G' (insR o x) (i + 1) b' := by
  intro X hX
  have hil := lt_of_get hx
  have hlen := hI.len
  have h0 := hI.t0
  have h3 := hI.t3
  have h4 := hI.t4
  have hol := hI.hol
  have hvG := hv.same hI.keep
  have hwG := hI.hs.ints
  have hla := hv.len
  have hlo := hwG.len
  have hlt : decide ((i : Int) < (l.length : Int)) = true := by simp; omega
  have hinc := inc_i (j := i) (by omega)
  rw [el42_1] at hX
  simp -implicitDefEqProofs only [b42_1, atPath, Try.f42, Option.getD_some, hlen, h0, h3, h4, hla, hlo, hlt, ↓ld3, ↓st3, z3, boolOf_undef, nb, ↓aop_lookup, ↓aop_makeFunc, ↓aop_makeMap, ↓aop_mapUpdate, ↓aop_buildSlice, ↓aop_extract, ↓EvC_seq, ↓EvC_skip, ↓EvC_exit, ↓EvC_ret, ↓EvC_block, ↓EvC_cond, ↓ev_region, ↓runL_cons, ↓runL_nil, ↓stepO_none, ↓stepO_guard, ↓aop_move, ↓aop_assign, ↓aop_load, ↓aop_store, ↓aop_alloc, ↓aop_box, ↓aop_nilCheck, ↓aop_fieldAddr, ↓aop_field, ↓aop_indexAddr, ↓aop_binOp, ↓aop_pick, ↓aop_extract, ↓aop_buildSlice, ↓aop_slice, ↓aop_not, ↓aop_call, ↓callA_len, ↓callA_append, ev_tmp, ev_const, ofV_int, ofV_bool, ofV_str, ofV_nilSlice, ofV_nilPtr, putA_some, putA_none, gs_self, gs_ne, List.length_set, Option.bind_some, Option.map_some, intBinA, evL, evO, evP, ne_eq, not_false_eq_true, if_true, if_false, reduceCtorEq, ite_true, ite_false, reduceIte, put_app, AV.cells, and_true, true_and, and_self, decide_true, decide_false, ↓yielded_eq, yv_some, boolOf_bool, List.getElem?_toArray, List.getElem?_cons_zero, List.getElem?_cons_succ, Nat.reduceLT, Nat.reduceEqDiff, beq_self_eq_true, Option.some_beq_some, wr_app, wr_app0, rd_app, rd_app0, rdL_here, rdL_next, wrL_here, wrL_next, spl, List.all_cons, List.all_nil, AV.one, Bool.and_self, Bool.true_and, List.drop_zero, List.take_succ_cons, List.take_zero, List.drop_succ_cons, List.head?_cons, Nat.reduceAdd, Nat.reduceLeDiff, List.length_cons, List.length_nil, List.nil_append, List.cons_append, List.set_cons_zero, List.set_cons_succ, Int.toNat_natCast, Nat.add_zero, b_ft, b_tf, Bool.false_eq_true] at hX
  generalize hY : EvC Try.prog C0 (Code.loop _) _ = Y at hX
  obtain ⟨tm1, he, hl1, k5, hk⟩ := ris_loop' hY hvG hwG (by omega) hx (Nat.le_refl _) (by simp only [List.length_set, hlen]) (by simp only [hlen, h0, gs_self, gs_ne, List.length_set, ne_eq, Nat.reduceEqDiff, Nat.reduceLT, not_false_eq_true]) (by simp only [hlen, h3, gs_self, gs_ne, List.length_set, ne_eq, Nat.reduceEqDiff, Nat.reduceLT, not_false_eq_true]) (by simp only [hlen, h4, gs_self, gs_ne, List.length_set, ne_eq, Nat.reduceEqDiff, Nat.reduceLT, not_false_eq_true]) (by simp only [hlen, gs_self, gs_ne, List.length_set, ne_eq, Nat.reduceEqDiff, Nat.reduceLT, not_false_eq_true])
  subst he
  have k0 := hk 0 (by simp)
  have k3 := hk 3 (by simp)
  have k4 := hk 4 (by simp)
  simp only [hlen, h0, h3, h4, gs_self, gs_ne, List.length_set, ne_eq, Nat.reduceEqDiff, Nat.reduceLT, not_false_eq_true] at k0 k3 k4
  simp -implicitDefEqProofs only [hl1, k0, k3, k4, k5, ↓ld3, ↓st3, z3, boolOf_undef, nb, ↓aop_lookup, ↓aop_makeFunc, ↓aop_makeMap, ↓aop_mapUpdate, ↓aop_buildSlice, ↓aop_extract, ↓EvC_seq, ↓EvC_skip, ↓EvC_exit, ↓EvC_ret, ↓EvC_block, ↓EvC_cond, ↓ev_region, ↓runL_cons, ↓runL_nil, ↓stepO_none, ↓stepO_guard, ↓aop_move, ↓aop_assign, ↓aop_load, ↓aop_store, ↓aop_alloc, ↓aop_box, ↓aop_nilCheck, ↓aop_fieldAddr, ↓aop_field, ↓aop_indexAddr, ↓aop_binOp, ↓aop_pick, ↓aop_extract, ↓aop_buildSlice, ↓aop_slice, ↓aop_not, ↓aop_call, ↓callA_len, ↓callA_append, ev_tmp, ev_const, ofV_int, ofV_bool, ofV_str, ofV_nilSlice, ofV_nilPtr, putA_some, putA_none, gs_self, gs_ne, List.length_set, Option.bind_some, Option.map_some, intBinA, evL, evO, evP, ne_eq, not_false_eq_true, if_true, if_false, reduceCtorEq, ite_true, ite_false, reduceIte, put_app, AV.cells, and_true, true_and, and_self, decide_true, decide_false, ↓yielded_eq, yv_some, boolOf_bool, List.getElem?_toArray, List.getElem?_cons_zero, List.getElem?_cons_succ, Nat.reduceLT, Nat.reduceEqDiff, beq_self_eq_true, Option.some_beq_some, wr_app, wr_app0, rd_app, rd_app0, rdL_here, rdL_next, wrL_here, wrL_next, spl, List.all_cons, List.all_nil, AV.one, Bool.and_self, Bool.true_and, List.drop_zero, List.take_succ_cons, List.take_zero, List.drop_succ_cons, List.head?_cons, Nat.reduceAdd, Nat.reduceLeDiff, List.length_cons, List.length_nil, List.nil_append, List.cons_append, List.set_cons_zero, List.set_cons_succ, Int.toNat_natCast, Nat.add_zero, b_ft, b_tf, Bool.false_eq_true] at hX
  generalize hZ : EvC Try.prog C0 (Code.region 8 _ true) _ = Z at hX
  obtain ⟨tm2, G2, b2, he2, hl2, m3, hu, hk2⟩ := reg42_8' hZ hI.big hI.hs hvG hx (risK_le o x o.length) (by omega) hl1 k0 k3 k4 k5
  subst he2
  have m0 := hk2 0 (by simp)
  have m4 := hk2 4 (by simp)
  rw [k0] at m0
  rw [k4] at m4
  simp -implicitDefEqProofs only [hl2, m0, m3, m4, hinc, ↓ld3, ↓st3, z3, boolOf_undef, nb, ↓aop_lookup, ↓aop_makeFunc, ↓aop_makeMap, ↓aop_mapUpdate, ↓aop_buildSlice, ↓aop_extract, ↓EvC_seq, ↓EvC_skip, ↓EvC_exit, ↓EvC_ret, ↓EvC_block, ↓EvC_cond, ↓ev_region, ↓runL_cons, ↓runL_nil, ↓stepO_none, ↓stepO_guard, ↓aop_move, ↓aop_assign, ↓aop_load, ↓aop_store, ↓aop_alloc, ↓aop_box, ↓aop_nilCheck, ↓aop_fieldAddr, ↓aop_field, ↓aop_indexAddr, ↓aop_binOp, ↓aop_pick, ↓aop_extract, ↓aop_buildSlice, ↓aop_slice, ↓aop_not, ↓aop_call, ↓callA_len, ↓callA_append, ev_tmp, ev_const, ofV_int, ofV_bool, ofV_str, ofV_nilSlice, ofV_nilPtr, putA_some, putA_none, gs_self, gs_ne, List.length_set, Option.bind_some, Option.map_some, intBinA, evL, evO, evP, ne_eq, not_false_eq_true, if_true, if_false, reduceCtorEq, ite_true, ite_false, reduceIte, put_app, AV.cells, and_true, true_and, and_self, decide_true, decide_false, ↓yielded_eq, yv_some, boolOf_bool, List.getElem?_toArray, List.getElem?_cons_zero, List.getElem?_cons_succ, Nat.reduceLT, Nat.reduceEqDiff, beq_self_eq_true, Option.some_beq_some, wr_app, wr_app0, rd_app, rd_app0, rdL_here, rdL_next, wrL_here, wrL_next, spl, List.all_cons, List.all_nil, AV.one, Bool.and_self, Bool.true_and, List.drop_zero, List.take_succ_cons, List.take_zero, List.drop_succ_cons, List.head?_cons, Nat.reduceAdd, Nat.reduceLeDiff, List.length_cons, List.length_nil, List.nil_append, List.cons_append, List.set_cons_zero, List.set_cons_succ, Int.toNat_natCast, Nat.add_zero, b_ft, b_tf, Bool.false_eq_true] at hX
  refine ⟨_, G2, b2, hX, ?_, ?_, ?_, ?_, hu.1, fun j hj => (hu.2.1 j hj).trans (hI.keep j hj), Nat.le_trans hI.big hu.2.2, by rw [insR_len, hol]⟩
  all_goals simp only [hl2, m0, m3, m4, gs_self, gs_ne, List.length_set, ne_eq, Nat.reduceEqDiff, Nat.reduceLT, not_false_eq_true, insR]
theorem ris_end {G0 : AH} {v : AV} {l : List Int} {tm : List AV} {G : AH} {o : List Int} {b : Nat} (hv : IntS G0 v l) (hI : RisInv G0 v tm G o l.length b) :
    ∃ tm', EvC Try.prog C0 l42_1 (tm, G) = some (.exit 0, (tm', G)) ∧ tm'.length = 44 ∧ tm'.getD 3 undefA = hV o b := by
  have hlen := hI.len
  have h0 := hI.t0
  have h3 := hI.t3
  have h4 := hI.t4
  have hla := hv.len
  have hlt : decide ((l.length : Int) < (l.length : Int)) = false := by simp
  rw [el42_1]
  simp -implicitDefEqProofs only [b42_1, atPath, Try.f42, Option.getD_some, hlen, h0, h3, h4, hla, hlt, ↓ld3, ↓st3, z3, boolOf_undef, nb, ↓aop_lookup, ↓aop_makeFunc, ↓aop_makeMap, ↓aop_mapUpdate, ↓aop_buildSlice, ↓aop_extract, ↓EvC_seq, ↓EvC_skip, ↓EvC_exit, ↓EvC_ret, ↓EvC_block, ↓EvC_cond, ↓ev_region, ↓runL_cons, ↓runL_nil, ↓stepO_none, ↓stepO_guard, ↓aop_move, ↓aop_assign, ↓aop_load, ↓aop_store, ↓aop_alloc, ↓aop_box, ↓aop_nilCheck, ↓aop_fieldAddr, ↓aop_field, ↓aop_indexAddr, ↓aop_binOp, ↓aop_pick, ↓aop_extract, ↓aop_buildSlice, ↓aop_slice, ↓aop_not, ↓aop_call, ↓callA_len, ↓callA_append, ev_tmp, ev_const, ofV_int, ofV_bool, ofV_str, ofV_nilSlice, ofV_nilPtr, putA_some, putA_none, gs_self, gs_ne, List.length_set, Option.bind_some, Option.map_some, intBinA, evL, evO, evP, ne_eq, not_false_eq_true, if_true, if_false, reduceCtorEq, ite_true, ite_false, reduceIte, put_app, AV.cells, and_true, true_and, and_self, decide_true, decide_false, ↓yielded_eq, yv_some, boolOf_bool, List.getElem?_toArray, List.getElem?_cons_zero, List.getElem?_cons_succ, Nat.reduceLT, Nat.reduceEqDiff, beq_self_eq_true, Option.some_beq_some, wr_app, wr_app0, rd_app, rd_app0, rdL_here, rdL_next, wrL_here, wrL_next, spl, List.all_cons, List.all_nil, AV.one, Bool.and_self, Bool.true_and, List.drop_zero, List.take_succ_cons, List.take_zero, List.drop_succ_cons, List.head?_cons, Nat.reduceAdd, Nat.reduceLeDiff, List.length_cons, List.length_nil, List.nil_append, List.cons_append, List.set_cons_zero, List.set_cons_succ, Int.toNat_natCast, Nat.add_zero, b_ft, b_tf, Bool.false_eq_true]
  exact ⟨_, rfl, by simp only [List.length_set, hlen], by simp only [hlen, h3, gs_self, gs_ne, List.length_set, ne_eq, Nat.reduceEqDiff, Nat.reduceLT, not_false_eq_true]⟩
theorem ris_all {G0 : AH} {v : AV} {l : List Int} (hv : IntS G0 v l) (hl : l.length < 2 ^ 37) : ∀ (d i : Nat) (tm : List AV) (G : AH) (o : List Int) (b : Nat), l.length - i = d → i ≤ l.length → RisInv G0 v tm G o i b →
    ∃ tm' G' b', EvC Try.prog C0 l42_1 (tm, G) = some (.exit 0, (tm', G')) ∧ tm'.length = 44 ∧ tm'.getD 3 undefA = hV (risS (l.drop i) o) b' ∧ HS G0.length G' (risS (l.drop i) o) b' ∧ (∀ j, j < G0.length → G'[j]? = G0[j]?) ∧ G0.length ≤ G'.length := by
  intro d
  induction d with
  | zero =>
    intro i tm G o b hd hi hI
    obtain rfl : i = l.length := by omega
    obtain ⟨tm', he, hl', h3⟩ := ris_end hv hI
    rw [List.drop_length]
    exact ⟨tm', G, b, he, hl', h3, hI.hs, hI.keep, hI.big⟩
  | succ d ih =>
    intro i tm G o b hd hi hI
    obtain ⟨x, hx⟩ := get_of (xs := l) (j := i) (by omega)
    obtain ⟨tm1, G1, b1, he, hI1⟩ := ris_round hv hl hx hI _ rfl
    obtain ⟨tm', G', b', he2, r⟩ := ih (i + 1) tm1 G1 _ b1 (by omega) (by omega) hI1
    rw [drop_at hx]
    exact ⟨tm', G', b', he.symm.trans he2, r⟩
theorem ris_all' {G0 G : AH} {v : AV} {l : List Int} {tm : List AV} {X : Option (AExit × St)} (hX : EvC Try.prog C0 l42_1 (tm, G) = X) (hv : IntS G0 v l) (hl : l.length < 2 ^ 37) (hI : RisInv G0 v tm G [] 0 0) :
    ∃ tm' G' b', X = some (.exit 0, (tm', G')) ∧ tm'.length = 44 ∧ tm'.getD 3 undefA = hV (risS l []) b' ∧ HS G0.length G' (risS l []) b' ∧ (∀ j, j < G0.length → G'[j]? = G0[j]?) ∧ G0.length ≤ G'.length := by
  subst hX
  exact ris_all hv hl l.length 0 tm G [] 0 (by omega) (by omega) hI
/-- the reference's Rising puts the numbers in order -/
theorem rising_ev {G : AH} {v : AV} {l : List Int} (hv : IntS G v l) (hl : l.length < 2 ^ 37) :
    ∃ G' b', Ev Try.prog C0 42 [v] G = some (hV (risS l []) b', G') ∧ HS G.length G' (risS l []) b' ∧ (∀ j, j < G.length → G'[j]? = G[j]?) ∧ G.length ≤ G'.length := by
  have g0 : ([v] ++ List.replicate (44 - [v].length) undefA).length = 44 := by simp
  have g1 : ([v] ++ List.replicate (44 - [v].length) undefA).getD 0 undefA = v := rfl
  rw [fe42]
  generalize [v] ++ List.replicate (44 - [v].length) undefA = tm at *
  simp -implicitDefEqProofs only [c42, Try.f42, Option.getD_some, g0, g1, ↓ld3, ↓st3, z3, boolOf_undef, nb, ↓aop_lookup, ↓aop_makeFunc, ↓aop_makeMap, ↓aop_mapUpdate, ↓aop_buildSlice, ↓aop_extract, ↓EvC_seq, ↓EvC_skip, ↓EvC_exit, ↓EvC_ret, ↓EvC_block, ↓EvC_cond, ↓ev_region, ↓runL_cons, ↓runL_nil, ↓stepO_none, ↓stepO_guard, ↓aop_move, ↓aop_assign, ↓aop_load, ↓aop_store, ↓aop_alloc, ↓aop_box, ↓aop_nilCheck, ↓aop_fieldAddr, ↓aop_field, ↓aop_indexAddr, ↓aop_binOp, ↓aop_pick, ↓aop_extract, ↓aop_buildSlice, ↓aop_slice, ↓aop_not, ↓aop_call, ↓callA_len, ↓callA_append, ev_tmp, ev_const, ofV_int, ofV_bool, ofV_str, ofV_nilSlice, ofV_nilPtr, putA_some, putA_none, gs_self, gs_ne, List.length_set, Option.bind_some, Option.map_some, intBinA, evL, evO, evP, ne_eq, not_false_eq_true, if_true, if_false, reduceCtorEq, ite_true, ite_false, reduceIte, put_app, AV.cells, and_true, true_and, and_self, decide_true, decide_false, ↓yielded_eq, yv_some, boolOf_bool, List.getElem?_toArray, List.getElem?_cons_zero, List.getElem?_cons_succ, Nat.reduceLT, Nat.reduceEqDiff, beq_self_eq_true, Option.some_beq_some, wr_app, wr_app0, rd_app, rd_app0, rdL_here, rdL_next, wrL_here, wrL_next, spl, List.all_cons, List.all_nil, AV.one, Bool.and_self, Bool.true_and, List.drop_zero, List.take_succ_cons, List.take_zero, List.drop_succ_cons, List.head?_cons, Nat.reduceAdd, Nat.reduceLeDiff, List.length_cons, List.length_nil, List.nil_append, List.cons_append, List.set_cons_zero, List.set_cons_succ, Int.toNat_natCast, Nat.add_zero, b_ft, b_tf, Bool.false_eq_true]
  generalize hX : EvC Try.prog C0 (Code.loop _) _ = X
  obtain ⟨tm', G', b', he, hl', h3, hs, hk, hb⟩ := ris_all' hX hv hl ⟨by simp only [List.length_set, g0], by simp only [g0, g1, gs_self, gs_ne, List.length_set, ne_eq, Nat.reduceEqDiff, Nat.reduceLT, not_false_eq_true], by simp only [g0, gs_self, gs_ne, List.length_set, ne_eq, Nat.reduceEqDiff, Nat.reduceLT, not_false_eq_true, hV_nil], by simp only [g0, gs_self, gs_ne, List.length_set, ne_eq, Nat.reduceEqDiff, Nat.reduceLT, not_false_eq_true]; rfl, HS.nil _ _ _, fun _ _ => rfl, Nat.le_refl _, rfl⟩
  subst he
  refine ⟨G', b', ?_, hs, hk, hb⟩
  simp -implicitDefEqProofs only [hl', h3, ↓ld3, ↓st3, z3, boolOf_undef, nb, ↓aop_lookup, ↓aop_makeFunc, ↓aop_makeMap, ↓aop_mapUpdate, ↓aop_buildSlice, ↓aop_extract, ↓EvC_seq, ↓EvC_skip, ↓EvC_exit, ↓EvC_ret, ↓EvC_block, ↓EvC_cond, ↓ev_region, ↓runL_cons, ↓runL_nil, ↓stepO_none, ↓stepO_guard, ↓aop_move, ↓aop_assign, ↓aop_load, ↓aop_store, ↓aop_alloc, ↓aop_box, ↓aop_nilCheck, ↓aop_fieldAddr, ↓aop_field, ↓aop_indexAddr, ↓aop_binOp, ↓aop_pick, ↓aop_extract, ↓aop_buildSlice, ↓aop_slice, ↓aop_not, ↓aop_call, ↓callA_len, ↓callA_append, ev_tmp, ev_const, ofV_int, ofV_bool, ofV_str, ofV_nilSlice, ofV_nilPtr, putA_some, putA_none, gs_self, gs_ne, List.length_set, Option.bind_some, Option.map_some, intBinA, evL, evO, evP, ne_eq, not_false_eq_true, if_true, if_false, reduceCtorEq, ite_true, ite_false, reduceIte, put_app, AV.cells, and_true, true_and, and_self, decide_true, decide_false, ↓yielded_eq, yv_some, boolOf_bool, List.getElem?_toArray, List.getElem?_cons_zero, List.getElem?_cons_succ, Nat.reduceLT, Nat.reduceEqDiff, beq_self_eq_true, Option.some_beq_some, wr_app, wr_app0, rd_app, rd_app0, rdL_here, rdL_next, wrL_here, wrL_next, spl, List.all_cons, List.all_nil, AV.one, Bool.and_self, Bool.true_and, List.drop_zero, List.take_succ_cons, List.take_zero, List.drop_succ_cons, List.head?_cons, Nat.reduceAdd, Nat.reduceLeDiff, List.length_cons, List.length_nil, List.nil_append, List.cons_append, List.set_cons_zero, List.set_cons_succ, Int.toNat_natCast, Nat.add_zero, b_ft, b_tf, Bool.false_eq_true]
end Go.Dv
