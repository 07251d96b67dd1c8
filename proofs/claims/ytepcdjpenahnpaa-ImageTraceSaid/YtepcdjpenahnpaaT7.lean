/- The law ImageTrace on the abstract heap (own work). -/
import Derived.Test.YtepcdjpenahnpaaT6
namespace Go.Dv
open Go.Proofs
set_option maxRecDepth 100000
set_option linter.unusedSimpArgs false
set_option linter.unusedVariables false
attribute [local congr] bind_congr_first

theorem ia46 (i k es len cap : Nat) (ex : Bool) (kk : IntKind) (n : Int) : indexAddrA Try.prog 46 (.slice i k es len cap ex) (.int kk n) = if 0 ≤ n ∧ n < len ∧ 1 = es then some (.ptr i (k + n.toNat * es)) else none := by kernel_rfl
theorem ln46 (H : AH) (i k es len cap : Nat) (ex : Bool) : lenA Try.prog 46 H (.slice i k es len cap ex) = some (.int .i64 len) := by kernel_rfl
theorem ln46n (H : AH) : lenA Try.prog 46 H .nilSlice = some (.int .i64 0) := by kernel_rfl

theorem rd_one {H : AH} {i k n : Nat} {xs : List AV} (h : rdCells H i k n = some xs) {j : Nat} {x : AV} (hx : xs[j]? = some x) : rdCells H i (k + j) 1 = some [x] := by
  have hl := rd_len h
  have hj : j < xs.length := lt_of_get hx
  rw [rd_sub h j 1 (by omega)]
  congr 1
  rw [List.drop_eq_getElem_cons hj]
  rw [List.getElem?_eq_getElem hj] at hx
  simp [Option.some.inj hx]

theorem Row.ints {H : AH} {v : AV} {xs : List Int} (h : Row H 1 v (xs.map I)) : Ints H v xs := by
  generalize hys : xs.map I = ys at h
  cases h with
  | nil =>
    have : xs = [] := by simpa using hys
    subst this
    exact ⟨fun H => ln46n H, fun j x hx => by simp at hx⟩
  | «at» i k len cap ex _ h =>
    subst hys
    have hl := rd_len h
    simp at hl
    subst hl
    refine ⟨fun H => ln46 H .., fun j x hx => ?_⟩
    have hj := lt_of_get hx
    refine ⟨i, k + j, ?_, rd_one h (by simp [hx])⟩
    rw [ia46, if_pos ⟨by omega, by omega, rfl⟩]
    simp

theorem Events.keeps {H H' : AH} {v : AV} {l : List E6} (h : Events H v l) (k : Keeps H H') : Events H' v l := by
  rcases h with h | ⟨i, k', cap, ex, hv, hi, hr⟩
  · exact .inl h
  · exact .inr ⟨i, k', cap, ex, hv, Nat.lt_of_lt_of_le hi k.1, fun j e he => k.rd (hr j e he)⟩

theorem Own.keeps {b : Nat} {H H' : AH} {es : Nat} {elem : TypeId} {v : AV} {xs : List AV} (h : Own b H es elem v xs) (k : Keeps H H') : Own b H' es elem v xs :=
  h.other fun i k' es' len cap ex hv => by
    subst hv
    cases h with
    | «at» _ _ _ _ _ cs _ _ hi => exact k.2 i (lt_of_get hi)

theorem traceOf_le (l : List E6) : (traceOf l).length ≤ l.length := by
  induction l with
  | nil => simp [traceOf]
  | cons e l ih =>
    have : traceOf (e :: l) = traceOf [e] ++ traceOf l := by simp [traceOf]
    rw [this, List.length_append, List.length_cons]
    have := traceOf_len e
    omega

theorem awake_ev (H : AH) : Ev Try.prog C0 26 [] H = some (.bool true, H) := Ev_orc (by show trueOrc [26] 26 [] H = _; simp [trueOrc])

theorem law_ev (H : AH) (v : AV) (l : List E6) (hl : l.length < 2 ^ 42) (hv : Events H v l) : ∃ H', Ev Try.prog C0 10 [v] H = some (.bool true, H') := by
  obtain ⟨r1, H1, e1, o1, k1⟩ := trace_ev H v l hl hv
  obtain ⟨r2, H2, e2, o2, k2⟩ := ref_ev H1 v l hl (hv.keeps k1)
  have i1 := ((o1.keeps k2).row).ints
  have i2 := (o2.row).ints
  have e3 := same_ev i1 i2 (by have := traceOf_le l; omega)
  have e4 := awake_ev H2
  have hd : decide (traceOf l = traceOf l) = true := by simp
  rw [hd] at e3
  have g0 : ([v] ++ List.replicate (11 - [v].length) undefA).length = 11 := by simp
  have g1 : ([v] ++ List.replicate (11 - [v].length) undefA).getD 0 undefA = v := rfl
  rw [fe10]
  generalize [v] ++ List.replicate (11 - [v].length) undefA = tm at *
  refine ⟨H2, ?_⟩
  simp -implicitDefEqProofs only [c10, Try.f10, Option.getD_some, g0, g1, e1, e2, e3, e4, ↓fc33, ↓fc34, ↓fc32, ↓fc26, ↓EvC_seq, ↓EvC_skip, ↓EvC_exit, ↓EvC_ret, ↓EvC_block, ↓EvC_cond, ↓ev_region, ↓runL_cons, ↓runL_nil, ↓stepO_none, ↓stepO_guard, ↓aop_move, ↓aop_assign, ↓aop_load, ↓aop_store, ↓aop_alloc, ↓aop_box, ↓aop_nilCheck, ↓aop_fieldAddr, ↓aop_field, ↓aop_indexAddr, ↓aop_binOp, ↓aop_pick, ↓aop_extract, ↓aop_buildSlice, ↓aop_slice, ↓aop_not, ↓aop_call, ↓callA_len, ↓callA_append, ev_tmp, ev_const, ofV_int, ofV_bool, ofV_str, ofV_nilSlice, ofV_nilPtr, putA_some, putA_none, gs_self, gs_ne, List.length_set, Option.bind_some, Option.map_some, intBinA, evL, evO, evP, ne_eq, not_false_eq_true, if_true, if_false, reduceCtorEq, ite_true, ite_false, reduceIte, put_app, AV.cells, and_true, true_and, and_self, decide_true, decide_false, ↓yielded_eq, yv_some, boolOf_bool, List.getElem?_toArray, List.getElem?_cons_zero, List.getElem?_cons_succ, Nat.reduceLT, Nat.reduceEqDiff, beq_self_eq_true, Option.some_beq_some, wr_app, wr_app0, rd_app, rd_app0, rdL_here, rdL_next, wrL_here, wrL_next, spl, List.all_cons, List.all_nil, AV.one, Bool.and_self, Bool.true_and, List.drop_zero, List.take_succ_cons, List.take_zero, List.drop_succ_cons, List.head?_cons, Nat.reduceAdd, Nat.reduceLeDiff, List.length_cons, List.length_nil, List.nil_append, List.cons_append, List.set_cons_zero, List.set_cons_succ, Int.toNat_natCast, Nat.add_zero, b_ft, b_tf, Bool.false_eq_true]
end Go.Dv
