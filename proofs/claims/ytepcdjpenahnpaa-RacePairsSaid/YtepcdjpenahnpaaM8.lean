/- Texts of the evaluator and of the laws' walks, put together in the order of their build: T47, T48, T49, T50, T51, T53, T54 (own work). -/
import Derived.Test.YtepcdjpenahnpaaM7

/- race.Find, whole (printed by t47.py, own work). -/
namespace Go.Dv
open Go.Proofs
set_option maxRecDepth 100000
set_option linter.unusedSimpArgs false
set_option linter.unusedVariables false
attribute [local congr] bind_congr_first

theorem find_end {H0 : AH} {v : AV} {n : Nat} {tm : List AV} {H : AH} {K : List K4} {F : List (S3 × Nat)} {O : List (E6 × E6)} {i5 i6 bo c5 c6 : Nat} (h : FInv H0 v n tm H n K F O i5 i6 bo c5 c6) : ∃ tm', EvC Try.prog C4 l16_0 (tm, H) = some (.exit 0, (tm', H)) ∧ tm'.length = 66 ∧ tm'.getD 4 undefA = outV O bo := by
  have hlen := h.len
  have h17 := h.t17
  have h18 := h.t18
  have h4 := h.t4
  have hlt : decide ((n : Int) < (n : Int)) = false := by simp
  rw [el16_0]
  simp -implicitDefEqProofs only [b16_0, atPath, Try.f16, Option.getD_some, hlen, h17, h18, hlt, ↓EvC_seq, ↓EvC_skip, ↓EvC_exit, ↓EvC_ret, ↓EvC_block, ↓EvC_cond, ↓ev_region, ↓runL_cons, ↓runL_nil, ↓stepO_none, ↓stepO_guard, ↓aop_move, ↓aop_assign, ↓aop_load, ↓aop_store, ↓aop_alloc, ↓aop_box, ↓aop_nilCheck, ↓aop_fieldAddr, ↓aop_field, ↓aop_indexAddr, ↓aop_binOp, ↓aop_pick, ↓aop_extract, ↓aop_buildSlice, ↓aop_slice, ↓aop_not, ↓aop_call, ↓callA_len, ↓callA_append, ev_tmp, ev_const, ofV_int, ofV_bool, ofV_str, ofV_nilSlice, ofV_nilPtr, putA_some, putA_none, gs_self, gs_ne, List.length_set, Option.bind_some, Option.map_some, intBinA, evL, evO, evP, ne_eq, not_false_eq_true, if_true, if_false, reduceCtorEq, ite_true, ite_false, reduceIte, put_app, AV.cells, and_true, true_and, and_self, decide_true, decide_false, ↓yielded_eq, yv_some, boolOf_bool, List.getElem?_toArray, List.getElem?_cons_zero, List.getElem?_cons_succ, Nat.reduceLT, Nat.reduceEqDiff, beq_self_eq_true, Option.some_beq_some, wr_app, wr_app0, rd_app, rd_app0, rdL_here, rdL_next, wrL_here, wrL_next, spl, List.all_cons, List.all_nil, AV.one, Bool.and_self, Bool.true_and, List.drop_zero, List.take_succ_cons, List.take_zero, List.drop_succ_cons, List.head?_cons, Nat.reduceAdd, Nat.reduceLeDiff, List.length_cons, List.length_nil, List.nil_append, List.cons_append, List.set_cons_zero, List.set_cons_succ, Int.toNat_natCast, Nat.add_zero, b_ft, b_tf, Bool.false_eq_true]
  exact ⟨_, rfl, by simp only [List.length_set, hlen], by simp only [hlen, h4, gs_self, gs_ne, List.length_set, ne_eq, Nat.reduceEqDiff, Nat.reduceLT, not_false_eq_true]⟩

theorem find_loop {H0 : AH} {v : AV} {l : List E6} {i5 i6 : Nat} (hv : EvS H0 v l) (hl : l.length < 2 ^ 30) : ∀ (d k : Nat) (tm : List AV) (H : AH) (K : List K4) (F : List (S3 × Nat)) (O : List (E6 × E6)) (bo c5 c6 : Nat), l.length - k = d → k ≤ l.length → FInv H0 v l.length tm H k K F O i5 i6 bo c5 c6 →
    ∃ tm' H' O' bo', EvC Try.prog C4 l16_0 (tm, H) = some (.exit 0, (tm', H')) ∧ tm'.length = 66 ∧ tm'.getD 4 undefA = outV O' bo' ∧ (O' ≠ [] → H0.length ≤ bo' ∧ H'[bo']? = some (.cells (flatR O') 38)) ∧ (∀ j, j < H0.length → H'[j]? = H0[j]?) ∧ H0.length ≤ H'.length ∧ O'.length ≤ l.length ∧ O' = ((l.drop k).foldl FS.step (absF K F O)).out := by
  intro d
  induction d with
  | zero =>
    intro k tm H K F O bo c5 c6 hd hk h
    obtain rfl : k = l.length := by omega
    obtain ⟨tm', he, hl', h4⟩ := find_end h
    exact ⟨tm', H, O, bo, he, hl', h4, h.out, h.keep, h.hb, h.on, by simp [absF]⟩
  | succ d ih =>
    intro k tm H K F O bo c5 c6 hd hk h
    obtain ⟨x, hx⟩ : ∃ x, l[k]? = some x := ⟨_, List.getElem?_eq_getElem (by omega)⟩
    obtain ⟨ie, ke, hi, hr⟩ := (h.evs hv).evs.ix k x hx
    have hdl : l.drop k = x :: l.drop (k + 1) := by rw [List.drop_eq_getElem_cons (by omega)]; congr 1; rw [List.getElem?_eq_getElem (by omega)] at hx; exact Option.some.inj hx
    obtain ⟨tm1, H1, K1, F1, O1, bo1, c51, c61, he, hi1, ha⟩ := find_round (x := x) ⟨h, by omega, by omega, hi, hr⟩
    obtain ⟨tm', H', O', bo', he2, r1, r2, r3, r4, r5, r6, r7⟩ := ih (k + 1) tm1 H1 K1 F1 O1 bo1 c51 c61 (by omega) (by omega) hi1
    exact ⟨tm', H', O', bo', he.trans he2, r1, r2, r3, r4, r5, r6, by rw [r7, hdl, List.foldl_cons, ha]⟩

theorem find_loop' {H0 : AH} {v : AV} {l : List E6} {i5 i6 : Nat} {tm : List AV} {H : AH} {X : Option (AExit × St)} (hX : EvC Try.prog C4 l16_0 (tm, H) = X) (hv : EvS H0 v l) (hl : l.length < 2 ^ 30) (h : FInv H0 v l.length tm H 0 [] [] [] i5 i6 0 0 0) :
    ∃ tm' H' O' bo', X = some (.exit 0, (tm', H')) ∧ tm'.length = 66 ∧ tm'.getD 4 undefA = outV O' bo' ∧ (O' ≠ [] → H0.length ≤ bo' ∧ H'[bo']? = some (.cells (flatR O') 38)) ∧ (∀ j, j < H0.length → H'[j]? = H0[j]?) ∧ H0.length ≤ H'.length ∧ O'.length ≤ l.length ∧ O' = (l.foldl FS.step (absF [] [] [])).out := by
  subst hX
  have := find_loop hv hl l.length 0 tm H [] [] [] 0 0 0 (by omega) (by omega) h
  simpa using this

/-- The races that race.Find finds. -/
def findS (l : List E6) : List (E6 × E6) := (l.foldl FS.step (absF [] [] [])).out

/-- A list of races of the call's own: its block is numbered b or more. -/
def RaceRow (b : Nat) (H : AH) (v : AV) (O : List (E6 × E6)) : Prop := ∃ bo, v = outV O bo ∧ (O ≠ [] → b ≤ bo ∧ H[bo]? = some (.cells (flatR O) 38))

theorem find_ev {H : AH} {v : AV} {l : List E6} (hv : EvS H v l) (hl : l.length < 2 ^ 30) : ∃ H' ov, (∀ j, j < H.length → H'[j]? = H[j]?) ∧ H.length ≤ H'.length ∧
    ((!(decide ((l.length : Int) > 4000)) && !(l.any E6.bad)) = true → RaceRow H.length H' ov (findS l) ∧ (findS l).length ≤ l.length ∧ Ev Try.prog C4 16 [v] H = some (.tuple [ov, I 0], H')) ∧
    ((!(decide ((l.length : Int) > 4000)) && !(l.any E6.bad)) = false → Ev Try.prog C4 16 [v] H = some (.tuple [.nilSlice, I 1], H')) := by
  have g0 : ([v] ++ List.replicate (66 - [v].length) undefA).length = 66 := by simp
  have g1 : ([v] ++ List.replicate (66 - [v].length) undefA).getD 0 undefA = v := rfl
  have hla := hv.evs.len
  have hval := k4_valid hv.evs (by omega : l.length < 2 ^ 62)
  rw [fe16]
  generalize [v] ++ List.replicate (66 - [v].length) undefA = tm at *
  cases hb : (!(decide ((l.length : Int) > 4000)) && !(l.any E6.bad))
  · rw [hb] at hval
    refine ⟨H, undefA, fun j hj => rfl, Nat.le_refl _, fun h => (by cases h), fun _ => ?_⟩
    simp -implicitDefEqProofs only [c16, Try.f16, Option.getD_some, g0, g1, hval, ↓fc18, Bool.not_false, ↓q_not, ↓aop_lookup, ↓aop_makeFunc, ↓aop_makeMap, ↓aop_mapUpdate, ↓aop_mapEntry, ↓aop_entryStore, ↓aop_buildSlice, ↓aop_extract, ↓EvC_seq, ↓EvC_skip, ↓EvC_exit, ↓EvC_ret, ↓EvC_block, ↓EvC_cond, ↓ev_region, ↓runL_cons, ↓runL_nil, ↓stepO_none, ↓stepO_guard, ↓aop_move, ↓aop_assign, ↓aop_load, ↓aop_store, ↓aop_alloc, ↓aop_box, ↓aop_nilCheck, ↓aop_fieldAddr, ↓aop_field, ↓aop_indexAddr, ↓aop_binOp, ↓aop_pick, ↓aop_extract, ↓aop_buildSlice, ↓aop_slice, ↓aop_not, ↓aop_call, ↓callA_len, ↓callA_append, ev_tmp, ev_const, ofV_int, ofV_bool, ofV_str, ofV_nilSlice, ofV_nilPtr, putA_some, putA_none, gs_self, gs_ne, List.length_set, Option.bind_some, Option.map_some, intBinA, evL, evO, evP, ne_eq, not_false_eq_true, if_true, if_false, reduceCtorEq, ite_true, ite_false, reduceIte, put_app, AV.cells, and_true, true_and, and_self, decide_true, decide_false, ↓yielded_eq, yv_some, boolOf_bool, List.getElem?_toArray, List.getElem?_cons_zero, List.getElem?_cons_succ, Nat.reduceLT, Nat.reduceEqDiff, beq_self_eq_true, Option.some_beq_some, wr_app, wr_app0, rd_app, rd_app0, rdL_here, rdL_next, wrL_here, wrL_next, spl, List.all_cons, List.all_nil, AV.one, Bool.and_self, Bool.true_and, List.drop_zero, List.take_succ_cons, List.take_zero, List.drop_succ_cons, List.head?_cons, Nat.reduceAdd, Nat.reduceLeDiff, List.length_cons, List.length_nil, List.nil_append, List.cons_append, List.set_cons_zero, List.set_cons_succ, Int.toNat_natCast, Nat.add_zero, b_ft, b_tf, Bool.false_eq_true]
  · rw [hb] at hval
    have key : ∃ H' O' bo', (∀ j, j < H.length → H'[j]? = H[j]?) ∧ H.length ≤ H'.length ∧ (O' ≠ [] → H.length ≤ bo' ∧ H'[bo']? = some (.cells (flatR O') 38)) ∧ O'.length ≤ l.length ∧ O' = findS l ∧ ((EvC Try.prog C4 c16 (tm, H)).bind fun r => match r with | (.normal, s) => some (AV.tuple [s.1.getD 2 undefA, s.1.getD 3 undefA], s.2) | (.ret, s) => some (AV.tuple [s.1.getD 2 undefA, s.1.getD 3 undefA], s.2) | _ => none) = some (.tuple [outV O' bo', I 0], H') := by
      have hH : (tm, H) = (tm, H ++ []) := by simp
      have hval' : Ev Try.prog C4 18 [v] (H ++ []) = some (.bool true, H ++ []) := by rw [List.append_nil]; exact hval
      rw [hH]
      simp -implicitDefEqProofs only [c16, Try.f16, Option.getD_some, g0, g1, hval', hla, ↓fc18, Bool.not_true, ↓q_not, ↓aop_lookup, ↓aop_makeFunc, ↓aop_makeMap, ↓aop_mapUpdate, ↓aop_mapEntry, ↓aop_entryStore, ↓aop_buildSlice, ↓aop_extract, ↓EvC_seq, ↓EvC_skip, ↓EvC_exit, ↓EvC_ret, ↓EvC_block, ↓EvC_cond, ↓ev_region, ↓runL_cons, ↓runL_nil, ↓stepO_none, ↓stepO_guard, ↓aop_move, ↓aop_assign, ↓aop_load, ↓aop_store, ↓aop_alloc, ↓aop_box, ↓aop_nilCheck, ↓aop_fieldAddr, ↓aop_field, ↓aop_indexAddr, ↓aop_binOp, ↓aop_pick, ↓aop_extract, ↓aop_buildSlice, ↓aop_slice, ↓aop_not, ↓aop_call, ↓callA_len, ↓callA_append, ev_tmp, ev_const, ofV_int, ofV_bool, ofV_str, ofV_nilSlice, ofV_nilPtr, putA_some, putA_none, gs_self, gs_ne, List.length_set, Option.bind_some, Option.map_some, intBinA, evL, evO, evP, ne_eq, not_false_eq_true, if_true, if_false, reduceCtorEq, ite_true, ite_false, reduceIte, put_app, AV.cells, and_true, true_and, and_self, decide_true, decide_false, ↓yielded_eq, yv_some, boolOf_bool, List.getElem?_toArray, List.getElem?_cons_zero, List.getElem?_cons_succ, Nat.reduceLT, Nat.reduceEqDiff, beq_self_eq_true, Option.some_beq_some, wr_app, wr_app0, rd_app, rd_app0, rdL_here, rdL_next, wrL_here, wrL_next, spl, List.all_cons, List.all_nil, AV.one, Bool.and_self, Bool.true_and, List.drop_zero, List.take_succ_cons, List.take_zero, List.drop_succ_cons, List.head?_cons, Nat.reduceAdd, Nat.reduceLeDiff, List.length_cons, List.length_nil, List.nil_append, List.cons_append, List.set_cons_zero, List.set_cons_succ, Int.toNat_natCast, Nat.add_zero, b_ft, b_tf, Bool.false_eq_true]
      generalize hX : EvC Try.prog C4 (Code.loop _) _ = X
      obtain ⟨tm', H', O', bo', he, r1, r2, r3, r4, r5, r6, r7⟩ := find_loop' (i5 := H.length) (i6 := H.length + 1) hX hv hl (by
        refine ⟨by simp only [List.length_set, g0], by simp only [g0, g1, gs_self, gs_ne, List.length_set, ne_eq, Nat.reduceEqDiff, Nat.reduceLT, not_false_eq_true], by simp only [g0, gs_self, gs_ne, List.length_set, ne_eq, Nat.reduceEqDiff, Nat.reduceLT, not_false_eq_true], by simp only [g0, gs_self, gs_ne, List.length_set, ne_eq, Nat.reduceEqDiff, Nat.reduceLT, not_false_eq_true] <;> rfl, by simp only [g0, gs_self, gs_ne, List.length_set, ne_eq, Nat.reduceEqDiff, Nat.reduceLT, not_false_eq_true], by simp only [g0, gs_self, gs_ne, List.length_set, ne_eq, Nat.reduceEqDiff, Nat.reduceLT, not_false_eq_true], by simp only [g0, gs_self, gs_ne, List.length_set, ne_eq, Nat.reduceEqDiff, Nat.reduceLT, not_false_eq_true] <;> rfl, by simp, fun j hj => List.getElem?_append_left hj, by omega, by omega, ?_, ?_, by omega, ⟨by simp, by simp, by simp, by simp, by simp, by simp⟩, fun h => absurd rfl h, by simp, by simp⟩
        · simp
        · simp [foundE])
      subst he
      refine ⟨H', O', bo', r4, r5, r3, r6, r7, ?_⟩
      simp -implicitDefEqProofs only [r1, r2, ↓EvC_seq, ↓EvC_skip, ↓EvC_exit, ↓EvC_ret, ↓EvC_block, ↓EvC_cond, ↓ev_region, ↓runL_cons, ↓runL_nil, ↓stepO_none, ↓stepO_guard, ↓aop_move, ↓aop_assign, ↓aop_load, ↓aop_store, ↓aop_alloc, ↓aop_box, ↓aop_nilCheck, ↓aop_fieldAddr, ↓aop_field, ↓aop_indexAddr, ↓aop_binOp, ↓aop_pick, ↓aop_extract, ↓aop_buildSlice, ↓aop_slice, ↓aop_not, ↓aop_call, ↓callA_len, ↓callA_append, ev_tmp, ev_const, ofV_int, ofV_bool, ofV_str, ofV_nilSlice, ofV_nilPtr, putA_some, putA_none, gs_self, gs_ne, List.length_set, Option.bind_some, Option.map_some, intBinA, evL, evO, evP, ne_eq, not_false_eq_true, if_true, if_false, reduceCtorEq, ite_true, ite_false, reduceIte, put_app, AV.cells, and_true, true_and, and_self, decide_true, decide_false, ↓yielded_eq, yv_some, boolOf_bool, List.getElem?_toArray, List.getElem?_cons_zero, List.getElem?_cons_succ, Nat.reduceLT, Nat.reduceEqDiff, beq_self_eq_true, Option.some_beq_some, wr_app, wr_app0, rd_app, rd_app0, rdL_here, rdL_next, wrL_here, wrL_next, spl, List.all_cons, List.all_nil, AV.one, Bool.and_self, Bool.true_and, List.drop_zero, List.take_succ_cons, List.take_zero, List.drop_succ_cons, List.head?_cons, Nat.reduceAdd, Nat.reduceLeDiff, List.length_cons, List.length_nil, List.nil_append, List.cons_append, List.set_cons_zero, List.set_cons_succ, Int.toNat_natCast, Nat.add_zero, b_ft, b_tf, Bool.false_eq_true]
    obtain ⟨H', O', bo', k1, k2, k3, k4, rfl, k5⟩ := key
    exact ⟨H', outV (findS l) bo', k1, k2, fun _ => ⟨⟨bo', rfl, k3⟩, k4, k5⟩, fun h => by cases h⟩

end Go.Dv

/- The regions of ref21.Find whose order is drawn (printed by t48.py, own work). -/
namespace Go.Dv
open Go.Proofs
set_option maxRecDepth 100000
set_option linter.unusedSimpArgs false
set_option linter.unusedVariables false
attribute [local congr] bind_congr_first

theorem ia24 (i k es len cap : Nat) (ex : Bool) (kk : IntKind) (n : Int) : indexAddrA Try.prog 24 (.slice i k es len cap ex) (.int kk n) = if 0 ≤ n ∧ n < len ∧ 10 = es then some (.ptr i (k + n.toNat * es)) else none := by kernel_rfl
theorem ln24 (H : AH) (i k es len cap : Nat) (ex : Bool) : lenA Try.prog 24 H (.slice i k es len cap ex) = some (.int .i64 len) := by kernel_rfl
theorem ln24n (H : AH) : lenA Try.prog 24 H .nilSlice = some (.int .i64 0) := by kernel_rfl
def E6.same (x y : E6) : Bool := sameB x.sp x.bl x.ce y.sp y.bl y.ce

theorem outV_len (O : List (E6 × E6)) (bo : Nat) (H : AH) : lenA Try.prog 24 H (outV O bo) = some (I O.length) := by
  cases O with
  | nil => exact ln24n H
  | cons p O => exact ln24 H ..
theorem outV_ix {O : List (E6 × E6)} {bo i : Nat} (hi : i < O.length) : indexAddrA Try.prog 24 (outV O bo) (I i) = some (.ptr bo (i * 10)) := by
  cases O with
  | nil => simp at hi
  | cons p O =>
    show indexAddrA Try.prog 24 (.slice bo 0 10 (p :: O).length (p :: O).length false) (I i) = _
    rw [ia24, if_pos ⟨by omega, by omega, rfl⟩]
    simp
theorem flatR_drop : ∀ (l : List (E6 × E6)) (j : Nat), (flatR l).drop (j * 10) = flatR (l.drop j)
  | l, 0 => by simp
  | [], j + 1 => by simp [flatR]
  | e :: l, j + 1 => by
    have : flatR (e :: l) = rcells e.1 e.2 ++ flatR l := rfl
    rw [this, show (j + 1) * 10 = (rcells e.1 e.2).length + j * 10 by simp [rcells]; omega, List.drop_append, List.drop_of_length_le (by omega), List.nil_append, Nat.add_sub_cancel_left]
    simpa using flatR_drop l j
theorem rd_flatR {H : AH} {bo : Nat} {O : List (E6 × E6)} (h : H[bo]? = some (.cells (flatR O) 38)) {j : Nat} {p : E6 × E6} (hp : O[j]? = some p) : rdCells H bo (j * 10) 10 = some (rcells p.1 p.2) := by
  have hj := lt_of_get hp
  simp only [rdCells, h]
  rw [if_pos (by rw [flatR_length]; omega), flatR_drop, List.drop_eq_getElem_cons hj]
  rw [List.getElem?_eq_getElem hj] at hp
  rw [Option.some.inj hp]
  show some ((rcells p.1 p.2 ++ flatR (O.drop (j + 1))).take 10) = _
  rw [List.take_append_of_le_length (by simp [rcells])]
  rfl

set_option maxHeartbeats 4000000 in
theorem reg20_9 {G : AH} {tm : List AV} {ov v : AV} {i k bo io ie ke : Nat} {b x : E6} {met : Bool} (hlen : tm.length = 67) (h0 : tm.getD 0 undefA = v) (h3 : tm.getD 3 undefA = ov) (h4 : tm.getD 4 undefA = I k) (h5 : tm.getD 5 undefA = .bool met) (h6 : tm.getD 6 undefA = I i)
    (hio : indexAddrA Try.prog 24 ov (I i) = some (.ptr bo io)) (rb : rdCells G bo (io + 5) 5 = some [I b.sp, I b.bl, I b.ce, I b.th, I b.ki]) (hiv : indexAddrA Try.prog 22 v (I k) = some (.ptr ie ke)) (rx : rdCells G ie ke 5 = some [I x.sp, I x.bl, I x.ce, I x.th, I x.ki]) :
    ∃ tm', EvC Try.prog C4 d20_9 (tm, G) = some (.normal, (tm', G)) ∧ tm'.length = 67 ∧ tm'.getD 5 undefA = .bool (met || b.same x) ∧ (∀ t ∈ [0, 3, 4, 6], tm'.getD t undefA = tm.getD t undefA) := by
  have ks : Ev Try.prog C4 25 [acc b.sp b.bl b.ce b.th b.ki, acc x.sp x.bl x.ce x.th x.ki] G = some (.bool (b.same x), G) := k4_same G b.sp b.bl b.ce b.th b.ki x.sp x.bl x.ce x.th x.ki
  have dd := ed20_9
  simp only [d20_9, opsAt, atPath, Try.f20, Option.getD_some] at dd ⊢
  rw [dd]
  cases met
  · simp -implicitDefEqProofs only [hlen, h0, h3, h4, h5, h6, hio, rb, hiv, rx, ks, ↓fc25, ↓ld36, ↓ld34, ↓ld38, ↓ld89, ↓ld3, ↓st36, ↓st34, ↓st89, ↓st3, z36, z34, z89, fa36_0, fa36_1, fa38_0, fa38_1, boolOf_undef, nb, ↓q_not, ↓aop_lookup, ↓aop_makeFunc, ↓aop_makeMap, ↓aop_mapUpdate, ↓aop_mapEntry, ↓aop_entryStore, ↓aop_buildSlice, ↓aop_extract, ↓EvC_seq, ↓EvC_skip, ↓EvC_exit, ↓EvC_ret, ↓EvC_block, ↓EvC_cond, ↓ev_region, ↓runL_cons, ↓runL_nil, ↓stepO_none, ↓stepO_guard, ↓aop_move, ↓aop_assign, ↓aop_load, ↓aop_store, ↓aop_alloc, ↓aop_box, ↓aop_nilCheck, ↓aop_fieldAddr, ↓aop_field, ↓aop_indexAddr, ↓aop_binOp, ↓aop_pick, ↓aop_extract, ↓aop_buildSlice, ↓aop_slice, ↓aop_not, ↓aop_call, ↓callA_len, ↓callA_append, ev_tmp, ev_const, ofV_int, ofV_bool, ofV_str, ofV_nilSlice, ofV_nilPtr, putA_some, putA_none, gs_self, gs_ne, List.length_set, Option.bind_some, Option.map_some, intBinA, evL, evO, evP, ne_eq, not_false_eq_true, if_true, if_false, reduceCtorEq, ite_true, ite_false, reduceIte, put_app, AV.cells, and_true, true_and, and_self, decide_true, decide_false, ↓yielded_eq, yv_some, boolOf_bool, List.getElem?_toArray, List.getElem?_cons_zero, List.getElem?_cons_succ, Nat.reduceLT, Nat.reduceEqDiff, beq_self_eq_true, Option.some_beq_some, wr_app, wr_app0, rd_app, rd_app0, rdL_here, rdL_next, wrL_here, wrL_next, spl, List.all_cons, List.all_nil, AV.one, Bool.and_self, Bool.true_and, List.drop_zero, List.take_succ_cons, List.take_zero, List.drop_succ_cons, List.head?_cons, Nat.reduceAdd, Nat.reduceLeDiff, List.length_cons, List.length_nil, List.nil_append, List.cons_append, List.set_cons_zero, List.set_cons_succ, Int.toNat_natCast, Nat.add_zero, b_ft, b_tf, Bool.false_eq_true, ↓rp_done, ↓rp_take, ↓rp_all, ↓ra_nil, ↓ra_first, ↓ra_next, ↓quietO_none, ↓quietO_guard, ↓q_move, ↓q_assign, ↓q_pick, ↓q_binOp, ↓q_field, ↓q_fieldAddr, ↓q_indexAddr, ↓q_nilCheck, set_order, keepV_eq, stBeq_self, ↓rp_graft, put_slot, put_slot_app, List.length_append, List.append_assoc, Nat.add_assoc, ↓aop_build, evP, Bool.true_and, Bool.and_true, Bool.false_and, Bool.and_false, Bool.true_or, Bool.or_true, Bool.false_or, Bool.or_false, Bool.not_true, Bool.not_false]
    refine ⟨_, rfl, by simp only [List.length_set, hlen], by simp only [hlen, gs_self, gs_ne, List.length_set, ne_eq, Nat.reduceEqDiff, Nat.reduceLT, not_false_eq_true], fun t ht => ?_⟩
    simp only [List.mem_cons, List.not_mem_nil, or_false] at ht
    rcases ht with rfl | rfl | rfl | rfl <;> simp only [hlen, gs_self, gs_ne, List.length_set, ne_eq, Nat.reduceEqDiff, Nat.reduceLT, not_false_eq_true]
  · simp -implicitDefEqProofs only [hlen, h0, h3, h4, h5, h6, hio, rb, hiv, rx, ks, ↓fc25, ↓ld36, ↓ld34, ↓ld38, ↓ld89, ↓ld3, ↓st36, ↓st34, ↓st89, ↓st3, z36, z34, z89, fa36_0, fa36_1, fa38_0, fa38_1, boolOf_undef, nb, ↓q_not, ↓aop_lookup, ↓aop_makeFunc, ↓aop_makeMap, ↓aop_mapUpdate, ↓aop_mapEntry, ↓aop_entryStore, ↓aop_buildSlice, ↓aop_extract, ↓EvC_seq, ↓EvC_skip, ↓EvC_exit, ↓EvC_ret, ↓EvC_block, ↓EvC_cond, ↓ev_region, ↓runL_cons, ↓runL_nil, ↓stepO_none, ↓stepO_guard, ↓aop_move, ↓aop_assign, ↓aop_load, ↓aop_store, ↓aop_alloc, ↓aop_box, ↓aop_nilCheck, ↓aop_fieldAddr, ↓aop_field, ↓aop_indexAddr, ↓aop_binOp, ↓aop_pick, ↓aop_extract, ↓aop_buildSlice, ↓aop_slice, ↓aop_not, ↓aop_call, ↓callA_len, ↓callA_append, ev_tmp, ev_const, ofV_int, ofV_bool, ofV_str, ofV_nilSlice, ofV_nilPtr, putA_some, putA_none, gs_self, gs_ne, List.length_set, Option.bind_some, Option.map_some, intBinA, evL, evO, evP, ne_eq, not_false_eq_true, if_true, if_false, reduceCtorEq, ite_true, ite_false, reduceIte, put_app, AV.cells, and_true, true_and, and_self, decide_true, decide_false, ↓yielded_eq, yv_some, boolOf_bool, List.getElem?_toArray, List.getElem?_cons_zero, List.getElem?_cons_succ, Nat.reduceLT, Nat.reduceEqDiff, beq_self_eq_true, Option.some_beq_some, wr_app, wr_app0, rd_app, rd_app0, rdL_here, rdL_next, wrL_here, wrL_next, spl, List.all_cons, List.all_nil, AV.one, Bool.and_self, Bool.true_and, List.drop_zero, List.take_succ_cons, List.take_zero, List.drop_succ_cons, List.head?_cons, Nat.reduceAdd, Nat.reduceLeDiff, List.length_cons, List.length_nil, List.nil_append, List.cons_append, List.set_cons_zero, List.set_cons_succ, Int.toNat_natCast, Nat.add_zero, b_ft, b_tf, Bool.false_eq_true, ↓rp_done, ↓rp_take, ↓rp_all, ↓ra_nil, ↓ra_first, ↓ra_next, ↓quietO_none, ↓quietO_guard, ↓q_move, ↓q_assign, ↓q_pick, ↓q_binOp, ↓q_field, ↓q_fieldAddr, ↓q_indexAddr, ↓q_nilCheck, set_order, keepV_eq, stBeq_self, ↓rp_graft, put_slot, put_slot_app, List.length_append, List.append_assoc, Nat.add_assoc, ↓aop_build, evP, Bool.true_and, Bool.and_true, Bool.false_and, Bool.and_false, Bool.true_or, Bool.or_true, Bool.false_or, Bool.or_false, Bool.not_true, Bool.not_false]
    refine ⟨_, rfl, by simp only [List.length_set, hlen], by simp only [hlen, gs_self, gs_ne, List.length_set, ne_eq, Nat.reduceEqDiff, Nat.reduceLT, not_false_eq_true], fun t ht => ?_⟩
    simp only [List.mem_cons, List.not_mem_nil, or_false] at ht
    rcases ht with rfl | rfl | rfl | rfl <;> simp only [hlen, gs_self, gs_ne, List.length_set, ne_eq, Nat.reduceEqDiff, Nat.reduceLT, not_false_eq_true]

set_option maxHeartbeats 4000000 in
theorem reg20_13 {G : AH} {tm : List AV} {v : AV} {i k iy ky ie ke : Nat} {y x : E6} (hlen : tm.length = 67) (h0 : tm.getD 0 undefA = v) (h4 : tm.getD 4 undefA = I k) (h7 : tm.getD 7 undefA = I i)
    (hiy : indexAddrA Try.prog 22 v (I i) = some (.ptr iy ky)) (ry : rdCells G iy ky 6 = some [I y.sp, I y.bl, I y.ce, I y.th, I y.ki, I y.ph]) (hiv : indexAddrA Try.prog 22 v (I k) = some (.ptr ie ke)) (rx : rdCells G ie ke 6 = some [I x.sp, I x.bl, I x.ce, I x.th, I x.ki, I x.ph]) :
    ∃ tm', EvC Try.prog C4 d20_13 (tm, G) = some (.normal, (tm', G)) ∧ tm'.length = 67 ∧ tm'.getD 51 undefA = .bool (y.race x) ∧ (∀ t ∈ [0, 3, 4, 5, 7], tm'.getD t undefA = tm.getD t undefA) := by
  have ks : Ev Try.prog C4 24 [evt y.sp y.bl y.ce y.th y.ki y.ph, evt x.sp x.bl x.ce x.th x.ki x.ph] G = some (.bool (y.race x), G) := k4_race G y.sp y.bl y.ce y.th y.ki y.ph x.sp x.bl x.ce x.th x.ki x.ph
  have dd := ed20_13
  simp only [d20_13, opsAt, atPath, Try.f20, Option.getD_some] at dd ⊢
  rw [dd]
  simp -implicitDefEqProofs only [hlen, h0, h4, h7, hiy, ry, hiv, rx, ks, ↓fc24, ↓ld36, ↓ld34, ↓ld38, ↓ld89, ↓ld3, ↓st36, ↓st34, ↓st89, ↓st3, z36, z34, z89, fa36_0, fa36_1, fa38_0, fa38_1, boolOf_undef, nb, ↓q_not, ↓aop_lookup, ↓aop_makeFunc, ↓aop_makeMap, ↓aop_mapUpdate, ↓aop_mapEntry, ↓aop_entryStore, ↓aop_buildSlice, ↓aop_extract, ↓EvC_seq, ↓EvC_skip, ↓EvC_exit, ↓EvC_ret, ↓EvC_block, ↓EvC_cond, ↓ev_region, ↓runL_cons, ↓runL_nil, ↓stepO_none, ↓stepO_guard, ↓aop_move, ↓aop_assign, ↓aop_load, ↓aop_store, ↓aop_alloc, ↓aop_box, ↓aop_nilCheck, ↓aop_fieldAddr, ↓aop_field, ↓aop_indexAddr, ↓aop_binOp, ↓aop_pick, ↓aop_extract, ↓aop_buildSlice, ↓aop_slice, ↓aop_not, ↓aop_call, ↓callA_len, ↓callA_append, ev_tmp, ev_const, ofV_int, ofV_bool, ofV_str, ofV_nilSlice, ofV_nilPtr, putA_some, putA_none, gs_self, gs_ne, List.length_set, Option.bind_some, Option.map_some, intBinA, evL, evO, evP, ne_eq, not_false_eq_true, if_true, if_false, reduceCtorEq, ite_true, ite_false, reduceIte, put_app, AV.cells, and_true, true_and, and_self, decide_true, decide_false, ↓yielded_eq, yv_some, boolOf_bool, List.getElem?_toArray, List.getElem?_cons_zero, List.getElem?_cons_succ, Nat.reduceLT, Nat.reduceEqDiff, beq_self_eq_true, Option.some_beq_some, wr_app, wr_app0, rd_app, rd_app0, rdL_here, rdL_next, wrL_here, wrL_next, spl, List.all_cons, List.all_nil, AV.one, Bool.and_self, Bool.true_and, List.drop_zero, List.take_succ_cons, List.take_zero, List.drop_succ_cons, List.head?_cons, Nat.reduceAdd, Nat.reduceLeDiff, List.length_cons, List.length_nil, List.nil_append, List.cons_append, List.set_cons_zero, List.set_cons_succ, Int.toNat_natCast, Nat.add_zero, b_ft, b_tf, Bool.false_eq_true, ↓rp_done, ↓rp_take, ↓rp_all, ↓ra_nil, ↓ra_first, ↓ra_next, ↓quietO_none, ↓quietO_guard, ↓q_move, ↓q_assign, ↓q_pick, ↓q_binOp, ↓q_field, ↓q_fieldAddr, ↓q_indexAddr, ↓q_nilCheck, set_order, keepV_eq, stBeq_self, ↓rp_graft, put_slot, put_slot_app, List.length_append, List.append_assoc, Nat.add_assoc, ↓aop_build, evP, Bool.true_and, Bool.and_true, Bool.false_and, Bool.and_false, Bool.true_or, Bool.or_true, Bool.false_or, Bool.or_false, Bool.not_true, Bool.not_false]
  refine ⟨_, rfl, by simp only [List.length_set, hlen], by simp only [hlen, gs_self, gs_ne, List.length_set, ne_eq, Nat.reduceEqDiff, Nat.reduceLT, not_false_eq_true], fun t ht => ?_⟩
  simp only [List.mem_cons, List.not_mem_nil, or_false] at ht
  rcases ht with rfl | rfl | rfl | rfl | rfl <;> simp only [hlen, gs_self, gs_ne, List.length_set, ne_eq, Nat.reduceEqDiff, Nat.reduceLT, not_false_eq_true]

set_option maxHeartbeats 8000000 in
theorem reg20_14 {G Gd : AH} {tm : List AV} {v ov ov' : AV} {i k iy ky ie ke : Nat} {y x : E6} {new : List AV} (hlen : tm.length = 67) (h0 : tm.getD 0 undefA = v) (h3 : tm.getD 3 undefA = ov) (h4 : tm.getD 4 undefA = I k) (h7 : tm.getD 7 undefA = I i)
    (hiy : indexAddrA Try.prog 22 v (I i) = some (.ptr iy ky)) (ry : ∀ L, rdCells (G ++ L) iy ky 5 = some [I y.sp, I y.bl, I y.ce, I y.th, I y.ki]) (hiv : indexAddrA Try.prog 22 v (I k) = some (.ptr ie ke)) (rx : ∀ L, rdCells (G ++ L) ie ke 5 = some [I x.sp, I x.bl, I x.ce, I x.th, I x.ki])
    (hap : appendA Try.prog (some (G.length + 13)) 24 (some 24) ov (.slice (G.length + 12) 0 10 1 1 true) (G ++ [.fresh, .fresh, .fresh, .fresh, .fresh, .fresh, .fresh, .fresh, .fresh, .fresh, .fresh, .fresh, .cells [I y.sp, I y.bl, I y.ce, I y.th, I y.ki, I x.sp, I x.bl, I x.ce, I x.th, I x.ki] 38, .fresh, .fresh]) = some (ov', Gd ++ [.fresh, .fresh, .fresh, .fresh, .fresh, .fresh, .fresh, .fresh, .fresh, .fresh, .fresh, .fresh, .cells [I y.sp, I y.bl, I y.ce, I y.th, I y.ki, I x.sp, I x.bl, I x.ce, I x.th, I x.ki] 38, .cells new 38, .fresh])) :
    ∃ tm', EvC Try.prog C4 d20_14 (tm, G) = some (.normal, (tm', Gd ++ [.fresh, .fresh, .fresh, .fresh, .fresh, .fresh, .fresh, .fresh, .fresh, .fresh, .fresh, .fresh, .cells [I y.sp, I y.bl, I y.ce, I y.th, I y.ki, I x.sp, I x.bl, I x.ce, I x.th, I x.ki] 38, .cells new 38, .fresh])) ∧ tm'.length = 67 ∧ tm'.getD 3 undefA = ov' ∧ (∀ t ∈ [0, 4, 7], tm'.getD t undefA = tm.getD t undefA) := by
  have dd := ed20_14
  simp only [d20_14, opsAt, atPath, Try.f20, Option.getD_some] at dd ⊢
  rw [dd]
  simp -implicitDefEqProofs only [hlen, h0, h3, h4, h7, hiy, ry, hiv, rx, hap, bu38, bs24, ↓ld36, ↓ld34, ↓ld38, ↓ld89, ↓ld3, ↓st36, ↓st34, ↓st89, ↓st3, z36, z34, z89, fa36_0, fa36_1, fa38_0, fa38_1, boolOf_undef, nb, ↓q_not, ↓aop_lookup, ↓aop_makeFunc, ↓aop_makeMap, ↓aop_mapUpdate, ↓aop_mapEntry, ↓aop_entryStore, ↓aop_buildSlice, ↓aop_extract, ↓EvC_seq, ↓EvC_skip, ↓EvC_exit, ↓EvC_ret, ↓EvC_block, ↓EvC_cond, ↓ev_region, ↓runL_cons, ↓runL_nil, ↓stepO_none, ↓stepO_guard, ↓aop_move, ↓aop_assign, ↓aop_load, ↓aop_store, ↓aop_alloc, ↓aop_box, ↓aop_nilCheck, ↓aop_fieldAddr, ↓aop_field, ↓aop_indexAddr, ↓aop_binOp, ↓aop_pick, ↓aop_extract, ↓aop_buildSlice, ↓aop_slice, ↓aop_not, ↓aop_call, ↓callA_len, ↓callA_append, ev_tmp, ev_const, ofV_int, ofV_bool, ofV_str, ofV_nilSlice, ofV_nilPtr, putA_some, putA_none, gs_self, gs_ne, List.length_set, Option.bind_some, Option.map_some, intBinA, evL, evO, evP, ne_eq, not_false_eq_true, if_true, if_false, reduceCtorEq, ite_true, ite_false, reduceIte, put_app, AV.cells, and_true, true_and, and_self, decide_true, decide_false, ↓yielded_eq, yv_some, boolOf_bool, List.getElem?_toArray, List.getElem?_cons_zero, List.getElem?_cons_succ, Nat.reduceLT, Nat.reduceEqDiff, beq_self_eq_true, Option.some_beq_some, wr_app, wr_app0, rd_app, rd_app0, rdL_here, rdL_next, wrL_here, wrL_next, spl, List.all_cons, List.all_nil, AV.one, Bool.and_self, Bool.true_and, List.drop_zero, List.take_succ_cons, List.take_zero, List.drop_succ_cons, List.head?_cons, Nat.reduceAdd, Nat.reduceLeDiff, List.length_cons, List.length_nil, List.nil_append, List.cons_append, List.set_cons_zero, List.set_cons_succ, Int.toNat_natCast, Nat.add_zero, b_ft, b_tf, Bool.false_eq_true, ↓rp_done, ↓rp_take, ↓rp_all, ↓ra_nil, ↓ra_first, ↓ra_next, ↓quietO_none, ↓quietO_guard, ↓q_move, ↓q_assign, ↓q_pick, ↓q_binOp, ↓q_field, ↓q_fieldAddr, ↓q_indexAddr, ↓q_nilCheck, set_order, keepV_eq, stBeq_self, ↓rp_graft, put_slot, put_slot_app, List.length_append, List.append_assoc, Nat.add_assoc, ↓aop_build, evP, Bool.true_and, Bool.and_true, Bool.false_and, Bool.and_false, Bool.true_or, Bool.or_true, Bool.false_or, Bool.or_false, Bool.not_true, Bool.not_false]
  refine ⟨_, rfl, by simp only [List.length_set, hlen], by simp only [hlen, gs_self, gs_ne, List.length_set, ne_eq, Nat.reduceEqDiff, Nat.reduceLT, not_false_eq_true], fun t ht => ?_⟩
  simp only [List.mem_cons, List.not_mem_nil, or_false] at ht
  rcases ht with rfl | rfl | rfl <;> simp only [hlen, gs_self, gs_ne, List.length_set, ne_eq, Nat.reduceEqDiff, Nat.reduceLT, not_false_eq_true]

theorem reg20_9' {G : AH} {tm : List AV} {ov v : AV} {i k bo io ie ke : Nat} {b x : E6} {met : Bool} {X : Option (AExit × St)} (hX : EvC Try.prog C4 d20_9 (tm, G) = X) (hlen : tm.length = 67) (h0 : tm.getD 0 undefA = v) (h3 : tm.getD 3 undefA = ov) (h4 : tm.getD 4 undefA = I k) (h5 : tm.getD 5 undefA = .bool met) (h6 : tm.getD 6 undefA = I i)
    (hio : indexAddrA Try.prog 24 ov (I i) = some (.ptr bo io)) (rb : rdCells G bo (io + 5) 5 = some [I b.sp, I b.bl, I b.ce, I b.th, I b.ki]) (hiv : indexAddrA Try.prog 22 v (I k) = some (.ptr ie ke)) (rx : rdCells G ie ke 5 = some [I x.sp, I x.bl, I x.ce, I x.th, I x.ki]) :
    ∃ tm', X = some (.normal, (tm', G)) ∧ tm'.length = 67 ∧ tm'.getD 5 undefA = .bool (met || b.same x) ∧ (∀ t ∈ [0, 3, 4, 6], tm'.getD t undefA = tm.getD t undefA) := by
  subst hX; exact reg20_9 hlen h0 h3 h4 h5 h6 hio rb hiv rx
theorem reg20_13' {G : AH} {tm : List AV} {v : AV} {i k iy ky ie ke : Nat} {y x : E6} {X : Option (AExit × St)} (hX : EvC Try.prog C4 d20_13 (tm, G) = X) (hlen : tm.length = 67) (h0 : tm.getD 0 undefA = v) (h4 : tm.getD 4 undefA = I k) (h7 : tm.getD 7 undefA = I i)
    (hiy : indexAddrA Try.prog 22 v (I i) = some (.ptr iy ky)) (ry : rdCells G iy ky 6 = some [I y.sp, I y.bl, I y.ce, I y.th, I y.ki, I y.ph]) (hiv : indexAddrA Try.prog 22 v (I k) = some (.ptr ie ke)) (rx : rdCells G ie ke 6 = some [I x.sp, I x.bl, I x.ce, I x.th, I x.ki, I x.ph]) :
    ∃ tm', X = some (.normal, (tm', G)) ∧ tm'.length = 67 ∧ tm'.getD 51 undefA = .bool (y.race x) ∧ (∀ t ∈ [0, 3, 4, 5, 7], tm'.getD t undefA = tm.getD t undefA) := by
  subst hX; exact reg20_13 hlen h0 h4 h7 hiy ry hiv rx
theorem reg20_14' {G Gd : AH} {tm : List AV} {v ov ov' : AV} {i k iy ky ie ke : Nat} {y x : E6} {new : List AV} {X : Option (AExit × St)} (hX : EvC Try.prog C4 d20_14 (tm, G) = X) (hlen : tm.length = 67) (h0 : tm.getD 0 undefA = v) (h3 : tm.getD 3 undefA = ov) (h4 : tm.getD 4 undefA = I k) (h7 : tm.getD 7 undefA = I i)
    (hiy : indexAddrA Try.prog 22 v (I i) = some (.ptr iy ky)) (ry : ∀ L, rdCells (G ++ L) iy ky 5 = some [I y.sp, I y.bl, I y.ce, I y.th, I y.ki]) (hiv : indexAddrA Try.prog 22 v (I k) = some (.ptr ie ke)) (rx : ∀ L, rdCells (G ++ L) ie ke 5 = some [I x.sp, I x.bl, I x.ce, I x.th, I x.ki])
    (hap : appendA Try.prog (some (G.length + 13)) 24 (some 24) ov (.slice (G.length + 12) 0 10 1 1 true) (G ++ [.fresh, .fresh, .fresh, .fresh, .fresh, .fresh, .fresh, .fresh, .fresh, .fresh, .fresh, .fresh, .cells [I y.sp, I y.bl, I y.ce, I y.th, I y.ki, I x.sp, I x.bl, I x.ce, I x.th, I x.ki] 38, .fresh, .fresh]) = some (ov', Gd ++ [.fresh, .fresh, .fresh, .fresh, .fresh, .fresh, .fresh, .fresh, .fresh, .fresh, .fresh, .fresh, .cells [I y.sp, I y.bl, I y.ce, I y.th, I y.ki, I x.sp, I x.bl, I x.ce, I x.th, I x.ki] 38, .cells new 38, .fresh])) :
    ∃ tm', X = some (.normal, (tm', Gd ++ [.fresh, .fresh, .fresh, .fresh, .fresh, .fresh, .fresh, .fresh, .fresh, .fresh, .fresh, .fresh, .cells [I y.sp, I y.bl, I y.ce, I y.th, I y.ki, I x.sp, I x.bl, I x.ce, I x.th, I x.ki] 38, .cells new 38, .fresh])) ∧ tm'.length = 67 ∧ tm'.getD 3 undefA = ov' ∧ (∀ t ∈ [0, 4, 7], tm'.getD t undefA = tm.getD t undefA) := by
  subst hX; exact reg20_14 hlen h0 h3 h4 h7 hiy ry hiv rx hap

/-- An append to the list of races. -/
theorem app_out {G : AH} {O : List (E6 × E6)} {bo a : Nat} {y x : E6} (ho : O ≠ [] → G[bo]? = some (.cells (flatR O) 38)) (hn : O.length < 2 ^ 30) (L1 L2 : AH) (hL1 : L1.length = a) :
    appendA Try.prog (some (G.length + (a + 1))) 24 (some 24) (outV O bo) (.slice (G.length + a) 0 10 1 1 true) (G ++ (L1 ++ (AObj.cells [I y.sp, I y.bl, I y.ce, I y.th, I y.ki, I x.sp, I x.bl, I x.ce, I x.th, I x.ki] 38 :: .fresh :: L2))) = some (outV (O ++ [(y, x)]) (G.length + (a + 1)), delO O G bo ++ (L1 ++ (AObj.cells [I y.sp, I y.bl, I y.ce, I y.th, I y.ki, I x.sp, I x.bl, I x.ce, I x.th, I x.ki] 38 :: .cells (flatR (O ++ [(y, x)])) 38 :: L2))) := by
  have hg : growOk (Try.prog.bytesOf 38) (O.length + 1) = true := by rw [by38]; simp [growOk]; omega
  have hrx : rdCells (G ++ (L1 ++ (AObj.cells [I y.sp, I y.bl, I y.ce, I y.th, I y.ki, I x.sp, I x.bl, I x.ce, I x.th, I x.ki] 38 :: .fresh :: L2))) (G.length + a) 0 10 = some [I y.sp, I y.bl, I y.ce, I y.th, I y.ki, I x.sp, I x.bl, I x.ce, I x.th, I x.ki] := by
    rw [rd_app, ← hL1, rd_app0]; rfl
  have hput : ∀ (G' : AH) (new : List AV), put (some (G'.length + (a + 1))) (G' ++ (L1 ++ (AObj.cells [I y.sp, I y.bl, I y.ce, I y.th, I y.ki, I x.sp, I x.bl, I x.ce, I x.th, I x.ki] 38 :: .fresh :: L2))) (.cells new 38) = some (G'.length + (a + 1), G' ++ (L1 ++ (AObj.cells [I y.sp, I y.bl, I y.ce, I y.th, I y.ki, I x.sp, I x.bl, I x.ce, I x.th, I x.ki] 38 :: .cells new 38 :: L2))) := by
    intro G' new
    rw [put_slot_app, ← hL1, put_slot_app]
    simp [put_slot]
  cases O with
  | nil =>
    refine (app_first appT24 hrx hg (i := G.length + (a + 1)) (G' := G ++ (L1 ++ (AObj.cells [I y.sp, I y.bl, I y.ce, I y.th, I y.ki, I x.sp, I x.bl, I x.ce, I x.th, I x.ki] 38 :: .cells (flatR ([] ++ [(y, x)])) 38 :: L2))) ?_)
    rw [hput]
    simp [flatR, rcells]
  | cons p O' =>
    have hb := ho (by simp)
    have hbl := lt_of_get hb
    refine (app_more appT24 (old := flatR (p :: O')) (blk := bo) (n := (p :: O').length) (by rw [List.getElem?_append_left hbl]; exact hb) (flatR_length _) hrx rfl hg (i := G.length + (a + 1)) (G' := delO (p :: O') G bo ++ (L1 ++ (AObj.cells [I y.sp, I y.bl, I y.ce, I y.th, I y.ki, I x.sp, I x.bl, I x.ce, I x.th, I x.ki] 38 :: .cells (flatR ((p :: O') ++ [(y, x)])) 38 :: L2))) ?_).trans ?_
    · rw [List.set_append_left _ _ hbl]
      have hgl : (G.set bo AObj.dead).length = G.length := List.length_set
      rw [← hgl, hput, flatR_snoc]
      rfl
    · simp [outV]

end Go.Dv

/- ref21.Find, whole (printed by t49.py, own work). -/
namespace Go.Dv
open Go.Proofs
set_option maxRecDepth 100000
set_option linter.unusedSimpArgs false
set_option linter.unusedVariables false
attribute [local congr] bind_congr_first

def refStep (pre : List E6) (O : List (E6 × E6)) (x : E6) : List (E6 × E6) :=
  if O.any (fun p => p.2.same x) = true then O else
  match firstAt (fun y => y.race x) pre 0 with
  | some i => O ++ (pre[i]?.map fun y => (y, x)).toList
  | none => O

theorem rl1_end {H : AH} {tm : List AV} {O : List (E6 × E6)} {bo : Nat} (hlen : tm.length = 67) (h3 : tm.getD 3 undefA = outV O bo) (h6 : tm.getD 6 undefA = I O.length) : ∃ tm', EvC Try.prog C4 l20_0 (tm, H) = some (.exit 2, (tm', H)) ∧ tm'.length = 67 ∧ (∀ t ∈ [0, 3, 4, 5], tm'.getD t undefA = tm.getD t undefA) := by
  have hlt : decide ((O.length : Int) < (O.length : Int)) = false := by simp
  have hla := outV_len O bo H
  rw [el20_0]
  simp -implicitDefEqProofs only [b20_0, atPath, Try.f20, Option.getD_some, hlen, h3, h6, hla, hlt, ↓EvC_seq, ↓EvC_skip, ↓EvC_exit, ↓EvC_ret, ↓EvC_block, ↓EvC_cond, ↓ev_region, ↓runL_cons, ↓runL_nil, ↓stepO_none, ↓stepO_guard, ↓aop_move, ↓aop_assign, ↓aop_load, ↓aop_store, ↓aop_alloc, ↓aop_box, ↓aop_nilCheck, ↓aop_fieldAddr, ↓aop_field, ↓aop_indexAddr, ↓aop_binOp, ↓aop_pick, ↓aop_extract, ↓aop_buildSlice, ↓aop_slice, ↓aop_not, ↓aop_call, ↓callA_len, ↓callA_append, ev_tmp, ev_const, ofV_int, ofV_bool, ofV_str, ofV_nilSlice, ofV_nilPtr, putA_some, putA_none, gs_self, gs_ne, List.length_set, Option.bind_some, Option.map_some, intBinA, evL, evO, evP, ne_eq, not_false_eq_true, if_true, if_false, reduceCtorEq, ite_true, ite_false, reduceIte, put_app, AV.cells, and_true, true_and, and_self, decide_true, decide_false, ↓yielded_eq, yv_some, boolOf_bool, List.getElem?_toArray, List.getElem?_cons_zero, List.getElem?_cons_succ, Nat.reduceLT, Nat.reduceEqDiff, beq_self_eq_true, Option.some_beq_some, wr_app, wr_app0, rd_app, rd_app0, rdL_here, rdL_next, wrL_here, wrL_next, spl, List.all_cons, List.all_nil, AV.one, Bool.and_self, Bool.true_and, List.drop_zero, List.take_succ_cons, List.take_zero, List.drop_succ_cons, List.head?_cons, Nat.reduceAdd, Nat.reduceLeDiff, List.length_cons, List.length_nil, List.nil_append, List.cons_append, List.set_cons_zero, List.set_cons_succ, Int.toNat_natCast, Nat.add_zero, b_ft, b_tf, Bool.false_eq_true]
  refine ⟨_, rfl, by simp only [List.length_set, hlen], fun t ht => ?_⟩
  simp only [List.mem_cons, List.not_mem_nil, or_false] at ht
  rcases ht with rfl | rfl | rfl | rfl <;> simp only [hlen, gs_self, gs_ne, List.length_set, ne_eq, Nat.reduceEqDiff, Nat.reduceLT, not_false_eq_true]

theorem rl1_round {H : AH} {tm : List AV} {v : AV} {O : List (E6 × E6)} {p : E6 × E6} {bo i k ie ke : Nat} {x : E6} {met : Bool} (hlen : tm.length = 67) (h0 : tm.getD 0 undefA = v) (h3 : tm.getD 3 undefA = outV O bo) (h4 : tm.getD 4 undefA = I k) (h5 : tm.getD 5 undefA = .bool met) (h6 : tm.getD 6 undefA = I i)
    (hp : O[i]? = some p) (hn : O.length < 2 ^ 62) (ho : H[bo]? = some (.cells (flatR O) 38)) (hiv : indexAddrA Try.prog 22 v (I k) = some (.ptr ie ke)) (rx : rdCells H ie ke 5 = some [I x.sp, I x.bl, I x.ce, I x.th, I x.ki]) :
    ∃ tm', EvC Try.prog C4 l20_0 (tm, H) = EvC Try.prog C4 l20_0 (tm', H) ∧ tm'.length = 67 ∧ tm'.getD 5 undefA = .bool (met || p.2.same x) ∧ tm'.getD 6 undefA = I ((i + 1 : Nat) : Int) ∧ (∀ t ∈ [0, 3, 4], tm'.getD t undefA = tm.getD t undefA) := by
  have hi := lt_of_get hp
  have hlt : decide ((i : Int) < (O.length : Int)) = true := by simp; omega
  have hw : IntKind.i64.wrap ((i : Int) + 1) = ((i + 1 : Nat) : Int) := by rw [IntWalk.i64_in _ (by omega)]; omega
  have hla := outV_len O bo H
  have hB : rdCells H bo (i * 10 + 5) 5 = some [I p.2.sp, I p.2.bl, I p.2.ce, I p.2.th, I p.2.ki] := by
    have := rd_sub (rd_flatR ho hp) 5 5 (by omega); simpa [rcells] using this
  rw [el20_0]
  simp -implicitDefEqProofs only [b20_0, atPath, Try.f20, Option.getD_some, hlen, h3, h6, hla, hlt, ↓EvC_seq, ↓EvC_skip, ↓EvC_exit, ↓EvC_ret, ↓EvC_block, ↓EvC_cond, ↓ev_region, ↓runL_cons, ↓runL_nil, ↓stepO_none, ↓stepO_guard, ↓aop_move, ↓aop_assign, ↓aop_load, ↓aop_store, ↓aop_alloc, ↓aop_box, ↓aop_nilCheck, ↓aop_fieldAddr, ↓aop_field, ↓aop_indexAddr, ↓aop_binOp, ↓aop_pick, ↓aop_extract, ↓aop_buildSlice, ↓aop_slice, ↓aop_not, ↓aop_call, ↓callA_len, ↓callA_append, ev_tmp, ev_const, ofV_int, ofV_bool, ofV_str, ofV_nilSlice, ofV_nilPtr, putA_some, putA_none, gs_self, gs_ne, List.length_set, Option.bind_some, Option.map_some, intBinA, evL, evO, evP, ne_eq, not_false_eq_true, if_true, if_false, reduceCtorEq, ite_true, ite_false, reduceIte, put_app, AV.cells, and_true, true_and, and_self, decide_true, decide_false, ↓yielded_eq, yv_some, boolOf_bool, List.getElem?_toArray, List.getElem?_cons_zero, List.getElem?_cons_succ, Nat.reduceLT, Nat.reduceEqDiff, beq_self_eq_true, Option.some_beq_some, wr_app, wr_app0, rd_app, rd_app0, rdL_here, rdL_next, wrL_here, wrL_next, spl, List.all_cons, List.all_nil, AV.one, Bool.and_self, Bool.true_and, List.drop_zero, List.take_succ_cons, List.take_zero, List.drop_succ_cons, List.head?_cons, Nat.reduceAdd, Nat.reduceLeDiff, List.length_cons, List.length_nil, List.nil_append, List.cons_append, List.set_cons_zero, List.set_cons_succ, Int.toNat_natCast, Nat.add_zero, b_ft, b_tf, Bool.false_eq_true]
  generalize hX : EvC Try.prog C4 (Code.region 9 _ true) _ = X
  obtain ⟨tm1, he, hl1, g5, hk⟩ := reg20_9' (b := p.2) (x := x) (met := met) (i := i) (k := k) (v := v) (ov := outV O bo) hX (by simp only [List.length_set, hlen]) (by simp only [hlen, h0, gs_self, gs_ne, List.length_set, ne_eq, Nat.reduceEqDiff, Nat.reduceLT, not_false_eq_true]) (by simp only [hlen, h3, gs_self, gs_ne, List.length_set, ne_eq, Nat.reduceEqDiff, Nat.reduceLT, not_false_eq_true]) (by simp only [hlen, h4, gs_self, gs_ne, List.length_set, ne_eq, Nat.reduceEqDiff, Nat.reduceLT, not_false_eq_true]) (by simp only [hlen, h5, gs_self, gs_ne, List.length_set, ne_eq, Nat.reduceEqDiff, Nat.reduceLT, not_false_eq_true]) (by simp only [hlen, h6, gs_self, gs_ne, List.length_set, ne_eq, Nat.reduceEqDiff, Nat.reduceLT, not_false_eq_true]) (outV_ix hi) hB hiv rx
  subst he
  have z0 := hk 0 (by simp)
  have z3 := hk 3 (by simp)
  have z4 := hk 4 (by simp)
  have z6 := hk 6 (by simp)
  simp only [hlen, h6, gs_self, gs_ne, List.length_set, ne_eq, Nat.reduceEqDiff, Nat.reduceLT, not_false_eq_true] at z0 z3 z4 z6
  simp -implicitDefEqProofs only [hl1, z6, hw, ↓EvC_seq, ↓EvC_skip, ↓EvC_exit, ↓EvC_ret, ↓EvC_block, ↓EvC_cond, ↓ev_region, ↓runL_cons, ↓runL_nil, ↓stepO_none, ↓stepO_guard, ↓aop_move, ↓aop_assign, ↓aop_load, ↓aop_store, ↓aop_alloc, ↓aop_box, ↓aop_nilCheck, ↓aop_fieldAddr, ↓aop_field, ↓aop_indexAddr, ↓aop_binOp, ↓aop_pick, ↓aop_extract, ↓aop_buildSlice, ↓aop_slice, ↓aop_not, ↓aop_call, ↓callA_len, ↓callA_append, ev_tmp, ev_const, ofV_int, ofV_bool, ofV_str, ofV_nilSlice, ofV_nilPtr, putA_some, putA_none, gs_self, gs_ne, List.length_set, Option.bind_some, Option.map_some, intBinA, evL, evO, evP, ne_eq, not_false_eq_true, if_true, if_false, reduceCtorEq, ite_true, ite_false, reduceIte, put_app, AV.cells, and_true, true_and, and_self, decide_true, decide_false, ↓yielded_eq, yv_some, boolOf_bool, List.getElem?_toArray, List.getElem?_cons_zero, List.getElem?_cons_succ, Nat.reduceLT, Nat.reduceEqDiff, beq_self_eq_true, Option.some_beq_some, wr_app, wr_app0, rd_app, rd_app0, rdL_here, rdL_next, wrL_here, wrL_next, spl, List.all_cons, List.all_nil, AV.one, Bool.and_self, Bool.true_and, List.drop_zero, List.take_succ_cons, List.take_zero, List.drop_succ_cons, List.head?_cons, Nat.reduceAdd, Nat.reduceLeDiff, List.length_cons, List.length_nil, List.nil_append, List.cons_append, List.set_cons_zero, List.set_cons_succ, Int.toNat_natCast, Nat.add_zero, b_ft, b_tf, Bool.false_eq_true]
  refine ⟨_, rfl, by simp only [List.length_set, hl1], by simp only [hl1, g5, gs_self, gs_ne, List.length_set, ne_eq, Nat.reduceEqDiff, Nat.reduceLT, not_false_eq_true], by simp only [hl1, gs_self, gs_ne, List.length_set, ne_eq, Nat.reduceEqDiff, Nat.reduceLT, not_false_eq_true], fun t ht => ?_⟩
  simp only [List.mem_cons, List.not_mem_nil, or_false] at ht
  rcases ht with rfl | rfl | rfl <;> simp only [hl1, z0, z3, z4, gs_self, gs_ne, List.length_set, ne_eq, Nat.reduceEqDiff, Nat.reduceLT, not_false_eq_true]

theorem rl1_loop {H : AH} {v : AV} {O : List (E6 × E6)} {bo k ie ke : Nat} {x : E6} (hn : O.length < 2 ^ 62) (ho : O ≠ [] → H[bo]? = some (.cells (flatR O) 38)) (hiv : indexAddrA Try.prog 22 v (I k) = some (.ptr ie ke)) (rx : rdCells H ie ke 5 = some [I x.sp, I x.bl, I x.ce, I x.th, I x.ki]) : ∀ (d i : Nat) (tm : List AV) (met : Bool), O.length - i = d → i ≤ O.length →
    tm.length = 67 → tm.getD 0 undefA = v → tm.getD 3 undefA = outV O bo → tm.getD 4 undefA = I k → tm.getD 5 undefA = .bool met → tm.getD 6 undefA = I i →
    ∃ tm', EvC Try.prog C4 l20_0 (tm, H) = some (.exit 2, (tm', H)) ∧ tm'.length = 67 ∧ tm'.getD 5 undefA = .bool (met || (O.drop i).any fun p => p.2.same x) ∧ (∀ t ∈ [0, 3, 4], tm'.getD t undefA = tm.getD t undefA) := by
  intro d
  induction d with
  | zero =>
    intro i tm met hd hi hlen h0 h3 h4 h5 h6
    obtain rfl : i = O.length := by omega
    obtain ⟨tm', he, hl, hk⟩ := rl1_end (H := H) hlen h3 h6
    refine ⟨tm', he, hl, ?_, fun t ht => hk t (by simp at ht ⊢; rcases ht with h | h | h <;> simp [h])⟩
    rw [hk 5 (by simp), h5]; simp
  | succ d ih =>
    intro i tm met hd hi hlen h0 h3 h4 h5 h6
    obtain ⟨p, hp⟩ : ∃ p, O[i]? = some p := ⟨_, List.getElem?_eq_getElem (by omega)⟩
    have hdl : O.drop i = p :: O.drop (i + 1) := by rw [List.drop_eq_getElem_cons (by omega)]; congr 1; rw [List.getElem?_eq_getElem (by omega)] at hp; exact Option.some.inj hp
    obtain ⟨tm1, he, hl1, g5, g6, hk⟩ := rl1_round hlen h0 h3 h4 h5 h6 hp hn (ho (fun e => by subst e; simp at hp)) hiv rx
    obtain ⟨tm', he2, hl', h5', hk'⟩ := ih (i + 1) tm1 _ (by omega) (by omega) hl1 ((hk 0 (by simp)).trans h0) ((hk 3 (by simp)).trans h3) ((hk 4 (by simp)).trans h4) g5 g6
    exact ⟨tm', he.trans he2, hl', by rw [h5', hdl, List.any_cons, Bool.or_assoc], fun t ht => (hk' t ht).trans (hk t ht)⟩

theorem rl2_end {H : AH} {tm : List AV} {i k : Nat} {met : Bool} (hlen : tm.length = 67) (h4 : tm.getD 4 undefA = I k) (h5 : tm.getD 5 undefA = .bool met) (h7 : tm.getD 7 undefA = I i) (hm : met = true ∨ i = k) : ∃ tm', EvC Try.prog C4 l20_1 (tm, H) = some (.exit 4, (tm', H)) ∧ tm'.length = 67 ∧ (∀ t ∈ [0, 3, 4], tm'.getD t undefA = tm.getD t undefA) := by
  rw [el20_1]
  rcases hm with rfl | rfl
  · cases hlt : decide ((i : Int) < (k : Int))
    · simp -implicitDefEqProofs only [b20_1, atPath, Try.f20, Option.getD_some, hlen, h4, h5, h7, hlt, Bool.not_true, boolOf_undef, nb, ↓EvC_seq, ↓EvC_skip, ↓EvC_exit, ↓EvC_ret, ↓EvC_block, ↓EvC_cond, ↓ev_region, ↓runL_cons, ↓runL_nil, ↓stepO_none, ↓stepO_guard, ↓aop_move, ↓aop_assign, ↓aop_load, ↓aop_store, ↓aop_alloc, ↓aop_box, ↓aop_nilCheck, ↓aop_fieldAddr, ↓aop_field, ↓aop_indexAddr, ↓aop_binOp, ↓aop_pick, ↓aop_extract, ↓aop_buildSlice, ↓aop_slice, ↓aop_not, ↓aop_call, ↓callA_len, ↓callA_append, ev_tmp, ev_const, ofV_int, ofV_bool, ofV_str, ofV_nilSlice, ofV_nilPtr, putA_some, putA_none, gs_self, gs_ne, List.length_set, Option.bind_some, Option.map_some, intBinA, evL, evO, evP, ne_eq, not_false_eq_true, if_true, if_false, reduceCtorEq, ite_true, ite_false, reduceIte, put_app, AV.cells, and_true, true_and, and_self, decide_true, decide_false, ↓yielded_eq, yv_some, boolOf_bool, List.getElem?_toArray, List.getElem?_cons_zero, List.getElem?_cons_succ, Nat.reduceLT, Nat.reduceEqDiff, beq_self_eq_true, Option.some_beq_some, wr_app, wr_app0, rd_app, rd_app0, rdL_here, rdL_next, wrL_here, wrL_next, spl, List.all_cons, List.all_nil, AV.one, Bool.and_self, Bool.true_and, List.drop_zero, List.take_succ_cons, List.take_zero, List.drop_succ_cons, List.head?_cons, Nat.reduceAdd, Nat.reduceLeDiff, List.length_cons, List.length_nil, List.nil_append, List.cons_append, List.set_cons_zero, List.set_cons_succ, Int.toNat_natCast, Nat.add_zero, b_ft, b_tf, Bool.false_eq_true]
      refine ⟨_, rfl, by simp only [List.length_set, hlen], fun t ht => ?_⟩
      simp only [List.mem_cons, List.not_mem_nil, or_false] at ht
      rcases ht with rfl | rfl | rfl <;> simp only [hlen, gs_self, gs_ne, List.length_set, ne_eq, Nat.reduceEqDiff, Nat.reduceLT, not_false_eq_true]

    · simp -implicitDefEqProofs only [b20_1, atPath, Try.f20, Option.getD_some, hlen, h4, h5, h7, hlt, Bool.not_true, boolOf_undef, nb, ↓EvC_seq, ↓EvC_skip, ↓EvC_exit, ↓EvC_ret, ↓EvC_block, ↓EvC_cond, ↓ev_region, ↓runL_cons, ↓runL_nil, ↓stepO_none, ↓stepO_guard, ↓aop_move, ↓aop_assign, ↓aop_load, ↓aop_store, ↓aop_alloc, ↓aop_box, ↓aop_nilCheck, ↓aop_fieldAddr, ↓aop_field, ↓aop_indexAddr, ↓aop_binOp, ↓aop_pick, ↓aop_extract, ↓aop_buildSlice, ↓aop_slice, ↓aop_not, ↓aop_call, ↓callA_len, ↓callA_append, ev_tmp, ev_const, ofV_int, ofV_bool, ofV_str, ofV_nilSlice, ofV_nilPtr, putA_some, putA_none, gs_self, gs_ne, List.length_set, Option.bind_some, Option.map_some, intBinA, evL, evO, evP, ne_eq, not_false_eq_true, if_true, if_false, reduceCtorEq, ite_true, ite_false, reduceIte, put_app, AV.cells, and_true, true_and, and_self, decide_true, decide_false, ↓yielded_eq, yv_some, boolOf_bool, List.getElem?_toArray, List.getElem?_cons_zero, List.getElem?_cons_succ, Nat.reduceLT, Nat.reduceEqDiff, beq_self_eq_true, Option.some_beq_some, wr_app, wr_app0, rd_app, rd_app0, rdL_here, rdL_next, wrL_here, wrL_next, spl, List.all_cons, List.all_nil, AV.one, Bool.and_self, Bool.true_and, List.drop_zero, List.take_succ_cons, List.take_zero, List.drop_succ_cons, List.head?_cons, Nat.reduceAdd, Nat.reduceLeDiff, List.length_cons, List.length_nil, List.nil_append, List.cons_append, List.set_cons_zero, List.set_cons_succ, Int.toNat_natCast, Nat.add_zero, b_ft, b_tf, Bool.false_eq_true]
      refine ⟨_, rfl, by simp only [List.length_set, hlen], fun t ht => ?_⟩
      simp only [List.mem_cons, List.not_mem_nil, or_false] at ht
      rcases ht with rfl | rfl | rfl <;> simp only [hlen, gs_self, gs_ne, List.length_set, ne_eq, Nat.reduceEqDiff, Nat.reduceLT, not_false_eq_true]

  · have hlt : decide ((i : Int) < (i : Int)) = false := by simp
    simp -implicitDefEqProofs only [b20_1, atPath, Try.f20, Option.getD_some, hlen, h4, h5, h7, hlt, boolOf_undef, nb, ↓EvC_seq, ↓EvC_skip, ↓EvC_exit, ↓EvC_ret, ↓EvC_block, ↓EvC_cond, ↓ev_region, ↓runL_cons, ↓runL_nil, ↓stepO_none, ↓stepO_guard, ↓aop_move, ↓aop_assign, ↓aop_load, ↓aop_store, ↓aop_alloc, ↓aop_box, ↓aop_nilCheck, ↓aop_fieldAddr, ↓aop_field, ↓aop_indexAddr, ↓aop_binOp, ↓aop_pick, ↓aop_extract, ↓aop_buildSlice, ↓aop_slice, ↓aop_not, ↓aop_call, ↓callA_len, ↓callA_append, ev_tmp, ev_const, ofV_int, ofV_bool, ofV_str, ofV_nilSlice, ofV_nilPtr, putA_some, putA_none, gs_self, gs_ne, List.length_set, Option.bind_some, Option.map_some, intBinA, evL, evO, evP, ne_eq, not_false_eq_true, if_true, if_false, reduceCtorEq, ite_true, ite_false, reduceIte, put_app, AV.cells, and_true, true_and, and_self, decide_true, decide_false, ↓yielded_eq, yv_some, boolOf_bool, List.getElem?_toArray, List.getElem?_cons_zero, List.getElem?_cons_succ, Nat.reduceLT, Nat.reduceEqDiff, beq_self_eq_true, Option.some_beq_some, wr_app, wr_app0, rd_app, rd_app0, rdL_here, rdL_next, wrL_here, wrL_next, spl, List.all_cons, List.all_nil, AV.one, Bool.and_self, Bool.true_and, List.drop_zero, List.take_succ_cons, List.take_zero, List.drop_succ_cons, List.head?_cons, Nat.reduceAdd, Nat.reduceLeDiff, List.length_cons, List.length_nil, List.nil_append, List.cons_append, List.set_cons_zero, List.set_cons_succ, Int.toNat_natCast, Nat.add_zero, b_ft, b_tf, Bool.false_eq_true]
    refine ⟨_, rfl, by simp only [List.length_set, hlen], fun t ht => ?_⟩
    simp only [List.mem_cons, List.not_mem_nil, or_false] at ht
    rcases ht with rfl | rfl | rfl <;> simp only [hlen, gs_self, gs_ne, List.length_set, ne_eq, Nat.reduceEqDiff, Nat.reduceLT, not_false_eq_true]

theorem rl2_round {H : AH} {tm : List AV} {v : AV} {O : List (E6 × E6)} {bo i k iy ky ie ke : Nat} {y x : E6} (hlen : tm.length = 67) (h0 : tm.getD 0 undefA = v) (h3 : tm.getD 3 undefA = outV O bo) (h4 : tm.getD 4 undefA = I k) (h5 : tm.getD 5 undefA = .bool false) (h7 : tm.getD 7 undefA = I i)
    (hi : i < k) (hk2 : k < 2 ^ 62) (hn : O.length < 2 ^ 30) (ho : O ≠ [] → H[bo]? = some (.cells (flatR O) 38)) (hiy : indexAddrA Try.prog 22 v (I i) = some (.ptr iy ky)) (ry : rdCells H iy ky 6 = some y.cells) (hiv : indexAddrA Try.prog 22 v (I k) = some (.ptr ie ke)) (rx : rdCells H ie ke 6 = some x.cells) :
    (y.race x = false ∧ ∃ tm', EvC Try.prog C4 l20_1 (tm, H) = EvC Try.prog C4 l20_1 (tm', H) ∧ tm'.length = 67 ∧ tm'.getD 7 undefA = I ((i + 1 : Nat) : Int) ∧ (∀ t ∈ [0, 3, 4, 5], tm'.getD t undefA = tm.getD t undefA)) ∨
    (y.race x = true ∧ ∃ tm', EvC Try.prog C4 l20_1 (tm, H) = EvC Try.prog C4 l20_1 (tm', delO O H bo ++ [.fresh, .fresh, .fresh, .fresh, .fresh, .fresh, .fresh, .fresh, .fresh, .fresh, .fresh, .fresh, .cells [I y.sp, I y.bl, I y.ce, I y.th, I y.ki, I x.sp, I x.bl, I x.ce, I x.th, I x.ki] 38, .cells (flatR (O ++ [(y, x)])) 38, .fresh]) ∧ tm'.length = 67 ∧ tm'.getD 3 undefA = outV (O ++ [(y, x)]) (H.length + 13) ∧ tm'.getD 5 undefA = .bool true ∧ tm'.getD 7 undefA = I ((i + 1 : Nat) : Int) ∧ (∀ t ∈ [0, 4], tm'.getD t undefA = tm.getD t undefA)) := by
  have hlt : decide ((i : Int) < (k : Int)) = true := by simp; omega
  have hw : IntKind.i64.wrap ((i : Int) + 1) = ((i + 1 : Nat) : Int) := by rw [IntWalk.i64_in _ (by omega)]; omega
  rw [el20_1]
  simp -implicitDefEqProofs only [b20_1, atPath, Try.f20, Option.getD_some, hlen, h4, h5, h7, hlt, Bool.not_false, boolOf_undef, nb, ↓EvC_seq, ↓EvC_skip, ↓EvC_exit, ↓EvC_ret, ↓EvC_block, ↓EvC_cond, ↓ev_region, ↓runL_cons, ↓runL_nil, ↓stepO_none, ↓stepO_guard, ↓aop_move, ↓aop_assign, ↓aop_load, ↓aop_store, ↓aop_alloc, ↓aop_box, ↓aop_nilCheck, ↓aop_fieldAddr, ↓aop_field, ↓aop_indexAddr, ↓aop_binOp, ↓aop_pick, ↓aop_extract, ↓aop_buildSlice, ↓aop_slice, ↓aop_not, ↓aop_call, ↓callA_len, ↓callA_append, ev_tmp, ev_const, ofV_int, ofV_bool, ofV_str, ofV_nilSlice, ofV_nilPtr, putA_some, putA_none, gs_self, gs_ne, List.length_set, Option.bind_some, Option.map_some, intBinA, evL, evO, evP, ne_eq, not_false_eq_true, if_true, if_false, reduceCtorEq, ite_true, ite_false, reduceIte, put_app, AV.cells, and_true, true_and, and_self, decide_true, decide_false, ↓yielded_eq, yv_some, boolOf_bool, List.getElem?_toArray, List.getElem?_cons_zero, List.getElem?_cons_succ, Nat.reduceLT, Nat.reduceEqDiff, beq_self_eq_true, Option.some_beq_some, wr_app, wr_app0, rd_app, rd_app0, rdL_here, rdL_next, wrL_here, wrL_next, spl, List.all_cons, List.all_nil, AV.one, Bool.and_self, Bool.true_and, List.drop_zero, List.take_succ_cons, List.take_zero, List.drop_succ_cons, List.head?_cons, Nat.reduceAdd, Nat.reduceLeDiff, List.length_cons, List.length_nil, List.nil_append, List.cons_append, List.set_cons_zero, List.set_cons_succ, Int.toNat_natCast, Nat.add_zero, b_ft, b_tf, Bool.false_eq_true]
  generalize hX : EvC Try.prog C4 (Code.region 13 _ true) _ = X
  obtain ⟨tm1, he, hl1, g51, hk⟩ := reg20_13' (y := y) (x := x) (i := i) (k := k) (v := v) hX (by simp only [List.length_set, hlen]) (by simp only [hlen, h0, gs_self, gs_ne, List.length_set, ne_eq, Nat.reduceEqDiff, Nat.reduceLT, not_false_eq_true]) (by simp only [hlen, h4, gs_self, gs_ne, List.length_set, ne_eq, Nat.reduceEqDiff, Nat.reduceLT, not_false_eq_true]) (by simp only [hlen, h7, gs_self, gs_ne, List.length_set, ne_eq, Nat.reduceEqDiff, Nat.reduceLT, not_false_eq_true]) hiy ry hiv rx
  subst he
  have z0 := hk 0 (by simp)
  have z3 := hk 3 (by simp)
  have z4 := hk 4 (by simp)
  have z5 := hk 5 (by simp)
  have z7 := hk 7 (by simp)
  simp only [hlen, h7, gs_self, gs_ne, List.length_set, ne_eq, Nat.reduceEqDiff, Nat.reduceLT, not_false_eq_true] at z0 z3 z4 z5 z7
  cases hr : y.race x
  · rw [hr] at g51
    refine .inl ⟨rfl, ?_⟩
    simp -implicitDefEqProofs only [hl1, g51, z7, hw, ↓EvC_seq, ↓EvC_skip, ↓EvC_exit, ↓EvC_ret, ↓EvC_block, ↓EvC_cond, ↓ev_region, ↓runL_cons, ↓runL_nil, ↓stepO_none, ↓stepO_guard, ↓aop_move, ↓aop_assign, ↓aop_load, ↓aop_store, ↓aop_alloc, ↓aop_box, ↓aop_nilCheck, ↓aop_fieldAddr, ↓aop_field, ↓aop_indexAddr, ↓aop_binOp, ↓aop_pick, ↓aop_extract, ↓aop_buildSlice, ↓aop_slice, ↓aop_not, ↓aop_call, ↓callA_len, ↓callA_append, ev_tmp, ev_const, ofV_int, ofV_bool, ofV_str, ofV_nilSlice, ofV_nilPtr, putA_some, putA_none, gs_self, gs_ne, List.length_set, Option.bind_some, Option.map_some, intBinA, evL, evO, evP, ne_eq, not_false_eq_true, if_true, if_false, reduceCtorEq, ite_true, ite_false, reduceIte, put_app, AV.cells, and_true, true_and, and_self, decide_true, decide_false, ↓yielded_eq, yv_some, boolOf_bool, List.getElem?_toArray, List.getElem?_cons_zero, List.getElem?_cons_succ, Nat.reduceLT, Nat.reduceEqDiff, beq_self_eq_true, Option.some_beq_some, wr_app, wr_app0, rd_app, rd_app0, rdL_here, rdL_next, wrL_here, wrL_next, spl, List.all_cons, List.all_nil, AV.one, Bool.and_self, Bool.true_and, List.drop_zero, List.take_succ_cons, List.take_zero, List.drop_succ_cons, List.head?_cons, Nat.reduceAdd, Nat.reduceLeDiff, List.length_cons, List.length_nil, List.nil_append, List.cons_append, List.set_cons_zero, List.set_cons_succ, Int.toNat_natCast, Nat.add_zero, b_ft, b_tf, Bool.false_eq_true]
    refine ⟨_, rfl, by simp only [List.length_set, hl1], by simp only [hl1, gs_self, gs_ne, List.length_set, ne_eq, Nat.reduceEqDiff, Nat.reduceLT, not_false_eq_true], fun t ht => ?_⟩
    simp only [List.mem_cons, List.not_mem_nil, or_false] at ht
    rcases ht with rfl | rfl | rfl | rfl <;> simp only [hl1, z0, z3, z4, z5, gs_self, gs_ne, List.length_set, ne_eq, Nat.reduceEqDiff, Nat.reduceLT, not_false_eq_true]

  · rw [hr] at g51
    refine .inr ⟨rfl, ?_⟩
    simp -implicitDefEqProofs only [hl1, g51, ↓EvC_seq, ↓EvC_skip, ↓EvC_exit, ↓EvC_ret, ↓EvC_block, ↓EvC_cond, ↓ev_region, ↓runL_cons, ↓runL_nil, ↓stepO_none, ↓stepO_guard, ↓aop_move, ↓aop_assign, ↓aop_load, ↓aop_store, ↓aop_alloc, ↓aop_box, ↓aop_nilCheck, ↓aop_fieldAddr, ↓aop_field, ↓aop_indexAddr, ↓aop_binOp, ↓aop_pick, ↓aop_extract, ↓aop_buildSlice, ↓aop_slice, ↓aop_not, ↓aop_call, ↓callA_len, ↓callA_append, ev_tmp, ev_const, ofV_int, ofV_bool, ofV_str, ofV_nilSlice, ofV_nilPtr, putA_some, putA_none, gs_self, gs_ne, List.length_set, Option.bind_some, Option.map_some, intBinA, evL, evO, evP, ne_eq, not_false_eq_true, if_true, if_false, reduceCtorEq, ite_true, ite_false, reduceIte, put_app, AV.cells, and_true, true_and, and_self, decide_true, decide_false, ↓yielded_eq, yv_some, boolOf_bool, List.getElem?_toArray, List.getElem?_cons_zero, List.getElem?_cons_succ, Nat.reduceLT, Nat.reduceEqDiff, beq_self_eq_true, Option.some_beq_some, wr_app, wr_app0, rd_app, rd_app0, rdL_here, rdL_next, wrL_here, wrL_next, spl, List.all_cons, List.all_nil, AV.one, Bool.and_self, Bool.true_and, List.drop_zero, List.take_succ_cons, List.take_zero, List.drop_succ_cons, List.head?_cons, Nat.reduceAdd, Nat.reduceLeDiff, List.length_cons, List.length_nil, List.nil_append, List.cons_append, List.set_cons_zero, List.set_cons_succ, Int.toNat_natCast, Nat.add_zero, b_ft, b_tf, Bool.false_eq_true]
    generalize hX : EvC Try.prog C4 (Code.region 14 _ true) _ = X
    obtain ⟨tm2, he, hl2, g3, hk2'⟩ := reg20_14' (y := y) (x := x) (i := i) (k := k) (v := v) (ov := outV O bo) hX (by simp only [List.length_set, hl1]) (by simp only [z0, h0]) (by simp only [z3, h3]) (by simp only [z4, h4]) (by simp only [z7]) hiy (fun L => rd5 ry L) hiv (fun L => rd5 rx L) (app_out (a := 12) ho hn [.fresh, .fresh, .fresh, .fresh, .fresh, .fresh, .fresh, .fresh, .fresh, .fresh, .fresh, .fresh] [.fresh] rfl)
    subst he
    have y0 := hk2' 0 (by simp)
    have y4 := hk2' 4 (by simp)
    have y7 := hk2' 7 (by simp)
    simp only [z7] at y7
    simp -implicitDefEqProofs only [hl2, y7, hw, ↓EvC_seq, ↓EvC_skip, ↓EvC_exit, ↓EvC_ret, ↓EvC_block, ↓EvC_cond, ↓ev_region, ↓runL_cons, ↓runL_nil, ↓stepO_none, ↓stepO_guard, ↓aop_move, ↓aop_assign, ↓aop_load, ↓aop_store, ↓aop_alloc, ↓aop_box, ↓aop_nilCheck, ↓aop_fieldAddr, ↓aop_field, ↓aop_indexAddr, ↓aop_binOp, ↓aop_pick, ↓aop_extract, ↓aop_buildSlice, ↓aop_slice, ↓aop_not, ↓aop_call, ↓callA_len, ↓callA_append, ev_tmp, ev_const, ofV_int, ofV_bool, ofV_str, ofV_nilSlice, ofV_nilPtr, putA_some, putA_none, gs_self, gs_ne, List.length_set, Option.bind_some, Option.map_some, intBinA, evL, evO, evP, ne_eq, not_false_eq_true, if_true, if_false, reduceCtorEq, ite_true, ite_false, reduceIte, put_app, AV.cells, and_true, true_and, and_self, decide_true, decide_false, ↓yielded_eq, yv_some, boolOf_bool, List.getElem?_toArray, List.getElem?_cons_zero, List.getElem?_cons_succ, Nat.reduceLT, Nat.reduceEqDiff, beq_self_eq_true, Option.some_beq_some, wr_app, wr_app0, rd_app, rd_app0, rdL_here, rdL_next, wrL_here, wrL_next, spl, List.all_cons, List.all_nil, AV.one, Bool.and_self, Bool.true_and, List.drop_zero, List.take_succ_cons, List.take_zero, List.drop_succ_cons, List.head?_cons, Nat.reduceAdd, Nat.reduceLeDiff, List.length_cons, List.length_nil, List.nil_append, List.cons_append, List.set_cons_zero, List.set_cons_succ, Int.toNat_natCast, Nat.add_zero, b_ft, b_tf, Bool.false_eq_true]
    refine ⟨_, rfl, by simp only [List.length_set, hl2], by simp only [hl2, g3, gs_self, gs_ne, List.length_set, ne_eq, Nat.reduceEqDiff, Nat.reduceLT, not_false_eq_true], by simp only [hl2, gs_self, gs_ne, List.length_set, ne_eq, Nat.reduceEqDiff, Nat.reduceLT, not_false_eq_true], by simp only [hl2, gs_self, gs_ne, List.length_set, ne_eq, Nat.reduceEqDiff, Nat.reduceLT, not_false_eq_true], fun t ht => ?_⟩
    simp only [List.mem_cons, List.not_mem_nil, or_false] at ht
    rcases ht with rfl | rfl <;> simp only [hl2, y0, y4, z0, z4, gs_self, gs_ne, List.length_set, ne_eq, Nat.reduceEqDiff, Nat.reduceLT, not_false_eq_true]


end Go.Dv

/- ref21.Find, whole (printed by t50.py, own work). -/
namespace Go.Dv
open Go.Proofs
set_option maxRecDepth 100000
set_option linter.unusedSimpArgs false
set_option linter.unusedVariables false
attribute [local congr] bind_congr_first

theorem rl2_loop {H : AH} {v : AV} {l : List E6} {O : List (E6 × E6)} {bo k ie ke : Nat} {x : E6} (hv : EvS H v l) (hkl : k < l.length) (hl : l.length < 2 ^ 30) (hn : O.length < 2 ^ 30) (ho : O ≠ [] → H[bo]? = some (.cells (flatR O) 38)) (hiv : indexAddrA Try.prog 22 v (I k) = some (.ptr ie ke)) (rx : rdCells H ie ke 6 = some x.cells) : ∀ (d i : Nat) (tm : List AV), k - i = d → i ≤ k →
    tm.length = 67 → tm.getD 0 undefA = v → tm.getD 3 undefA = outV O bo → tm.getD 4 undefA = I k → tm.getD 5 undefA = .bool false → tm.getD 7 undefA = I i →
    ∃ tm' H' O' bo', EvC Try.prog C4 l20_1 (tm, H) = some (.exit 4, (tm', H')) ∧ tm'.length = 67 ∧ tm'.getD 3 undefA = outV O' bo' ∧ (∀ t ∈ [0, 4], tm'.getD t undefA = tm.getD t undefA) ∧
      O' = (match firstAt (fun y => y.race x) ((l.take k).drop i) i with | some j => O ++ ((l.take k)[j]?.map fun y => (y, x)).toList | none => O) ∧
      (O' ≠ [] → H'[bo']? = some (.cells (flatR O') 38) ∧ ((O ≠ [] ∧ bo' = bo) ∨ H.length ≤ bo')) ∧ H.length ≤ H'.length ∧ (∀ j, j < H.length → (O ≠ [] → j ≠ bo) → H'[j]? = H[j]?) ∧ O'.length ≤ O.length + 1 := by
  intro d
  induction d with
  | zero =>
    intro i tm hd hi hlen h0 h3 h4 h5 h7
    obtain rfl : i = k := by omega
    obtain ⟨tm', he, hl', hk⟩ := rl2_end (H := H) hlen h4 h5 h7 (.inr rfl)
    refine ⟨tm', H, O, bo, he, hl', (hk 3 (by simp)).trans h3, fun t ht => hk t (by simp at ht ⊢; rcases ht with h | h <;> simp [h]), ?_, fun h => ⟨ho h, .inl ⟨h, rfl⟩⟩, Nat.le_refl _, fun _ _ _ => rfl, by omega⟩
    rw [List.drop_eq_nil_of_le (by simp; omega)]; rfl
  | succ d ih =>
    intro i tm hd hi hlen h0 h3 h4 h5 h7
    obtain ⟨y, hy⟩ : ∃ y, l[i]? = some y := ⟨_, List.getElem?_eq_getElem (by omega)⟩
    have hyt : (l.take k)[i]? = some y := by rw [List.getElem?_take, if_pos (by omega)]; exact hy
    obtain ⟨iy, ky, hiy, ry⟩ := hv.evs.ix i y hy
    have hdl : (l.take k).drop i = y :: (l.take k).drop (i + 1) := by
      rw [List.drop_eq_getElem_cons (lt_of_get hyt)]; congr 1
      rw [List.getElem?_eq_getElem (lt_of_get hyt)] at hyt
      exact Option.some.inj hyt
    rw [hdl]
    simp only [firstAt]
    rcases rl2_round hlen h0 h3 h4 h5 h7 (by omega) (by omega) hn ho hiy ry hiv rx with ⟨hr, tm1, he, hl1, g7, hk⟩ | ⟨hr, tm1, he, hl1, g3, g5, g7, hk⟩
    · rw [if_neg (by simp [hr])]
      obtain ⟨tm', H', O', bo', he2, r1, r2, r3, r4, r5, r6, r7, r8⟩ := ih (i + 1) tm1 (by omega) (by omega) hl1 ((hk 0 (by simp)).trans h0) ((hk 3 (by simp)).trans h3) ((hk 4 (by simp)).trans h4) ((hk 5 (by simp)).trans h5) g7
      exact ⟨tm', H', O', bo', he.trans he2, r1, r2, fun t ht => (r3 t ht).trans (hk t (by simp at ht ⊢; rcases ht with h | h <;> simp [h])), r4, r5, r6, r7, r8⟩
    · rw [if_pos hr]
      obtain ⟨tm', he2, hl', hk'⟩ := rl2_end (H := delO O H bo ++ [.fresh, .fresh, .fresh, .fresh, .fresh, .fresh, .fresh, .fresh, .fresh, .fresh, .fresh, .fresh, .cells [I y.sp, I y.bl, I y.ce, I y.th, I y.ki, I x.sp, I x.bl, I x.ce, I x.th, I x.ki] 38, .cells (flatR (O ++ [(y, x)])) 38, .fresh]) hl1 ((hk 4 (by simp)).trans h4) g5 g7 (.inl rfl)
      refine ⟨tm', _, O ++ [(y, x)], H.length + 13, he.trans he2, hl', (hk' 3 (by simp)).trans g3, fun t ht => (hk' t (by simp at ht ⊢; rcases ht with h | h <;> simp [h])).trans (hk t ht), by simp [hyt], fun _ => ⟨?_, .inr (by omega)⟩, ?_, fun j hj hne => ?_, by simp⟩
      · rw [List.getElem?_append_right (by rw [delO_len]; omega), delO_len, Nat.add_sub_cancel_left]; rfl
      · rw [List.length_append, delO_len]; omega
      · rw [List.getElem?_append_left (by rw [delO_len]; exact hj), delO_get _ _ _ _ (fun h e => hne h e.symm)]

/-- What holds at the top of ref21.Find's outer loop. -/
structure RInv (H0 : AH) (v : AV) (tm : List AV) (H : AH) (k : Nat) (O : List (E6 × E6)) (bo : Nat) : Prop where
  len : tm.length = 67
  t0 : tm.getD 0 undefA = v
  t3 : tm.getD 3 undefA = outV O bo
  t4 : tm.getD 4 undefA = I k
  hb : H0.length ≤ H.length
  keep : ∀ j, j < H0.length → H[j]? = H0[j]?
  out : O ≠ [] → H0.length ≤ bo ∧ H[bo]? = some (.cells (flatR O) 38)
  on : O.length ≤ k

theorem rl1_loop' {H : AH} {v : AV} {O : List (E6 × E6)} {bo k ie ke : Nat} {x : E6} {tm : List AV} {X : Option (AExit × St)} (hX : EvC Try.prog C4 l20_0 (tm, H) = X) (hn : O.length < 2 ^ 62) (ho : O ≠ [] → H[bo]? = some (.cells (flatR O) 38)) (hiv : indexAddrA Try.prog 22 v (I k) = some (.ptr ie ke)) (rx : rdCells H ie ke 5 = some [I x.sp, I x.bl, I x.ce, I x.th, I x.ki])
    (hlen : tm.length = 67) (h0 : tm.getD 0 undefA = v) (h3 : tm.getD 3 undefA = outV O bo) (h4 : tm.getD 4 undefA = I k) (h5 : tm.getD 5 undefA = .bool false) (h6 : tm.getD 6 undefA = I ((0 : Nat) : Int)) :
    ∃ tm', X = some (.exit 2, (tm', H)) ∧ tm'.length = 67 ∧ tm'.getD 5 undefA = .bool (O.any fun p => p.2.same x) ∧ (∀ t ∈ [0, 3, 4], tm'.getD t undefA = tm.getD t undefA) := by
  subst hX
  have := rl1_loop hn ho hiv rx O.length 0 tm false (by omega) (by omega) hlen h0 h3 h4 h5 h6
  simpa using this

theorem rl2_loop' {H : AH} {v : AV} {l : List E6} {O : List (E6 × E6)} {bo k ie ke : Nat} {x : E6} {tm : List AV} {X : Option (AExit × St)} (hX : EvC Try.prog C4 l20_1 (tm, H) = X) (hv : EvS H v l) (hkl : k < l.length) (hl : l.length < 2 ^ 30) (hn : O.length < 2 ^ 30) (ho : O ≠ [] → H[bo]? = some (.cells (flatR O) 38)) (hiv : indexAddrA Try.prog 22 v (I k) = some (.ptr ie ke)) (rx : rdCells H ie ke 6 = some x.cells)
    {met : Bool} (hmet : met = O.any fun p => p.2.same x) (hlen : tm.length = 67) (h0 : tm.getD 0 undefA = v) (h3 : tm.getD 3 undefA = outV O bo) (h4 : tm.getD 4 undefA = I k) (h5 : tm.getD 5 undefA = .bool met) (h7 : tm.getD 7 undefA = I ((0 : Nat) : Int)) :
    ∃ tm' H' O' bo', X = some (.exit 4, (tm', H')) ∧ tm'.length = 67 ∧ tm'.getD 3 undefA = outV O' bo' ∧ (∀ t ∈ [0, 4], tm'.getD t undefA = tm.getD t undefA) ∧ O' = refStep (l.take k) O x ∧
      (O' ≠ [] → H'[bo']? = some (.cells (flatR O') 38) ∧ ((O ≠ [] ∧ bo' = bo) ∨ H.length ≤ bo')) ∧ H.length ≤ H'.length ∧ (∀ j, j < H.length → (O ≠ [] → j ≠ bo) → H'[j]? = H[j]?) ∧ O'.length ≤ O.length + 1 := by
  subst hX
  cases hm : met with
  | true =>
    rw [hm] at h5 hmet
    obtain ⟨tm', he, hl', hk⟩ := rl2_end (H := H) (i := 0) hlen h4 h5 h7 (.inl rfl)
    refine ⟨tm', H, O, bo, he, hl', (hk 3 (by simp)).trans h3, fun t ht => hk t (by simp at ht ⊢; rcases ht with h | h <;> simp [h]), ?_, fun h => ⟨ho h, .inl ⟨h, rfl⟩⟩, Nat.le_refl _, fun _ _ _ => rfl, by omega⟩
    unfold refStep
    rw [if_pos hmet.symm]
  | false =>
    rw [hm] at h5 hmet
    obtain ⟨tm', H', O', bo', he, r1, r2, r3, r4, r5, r6, r7, r8⟩ := rl2_loop hv hkl hl hn ho hiv rx k 0 tm (by omega) (by omega) hlen h0 h3 h4 h5 h7
    refine ⟨tm', H', O', bo', he, r1, r2, r3, ?_, r5, r6, r7, r8⟩
    unfold refStep
    rw [if_neg (by rw [← hmet]; simp), r4]
    rfl

theorem r_round {H0 H : AH} {v : AV} {l : List E6} {tm : List AV} {k : Nat} {O : List (E6 × E6)} {bo : Nat} {x : E6} (h : RInv H0 v tm H k O bo) (hv : EvS H0 v l) (hl : l.length < 2 ^ 30) (hx : l[k]? = some x) :
    ∃ tm' H' O' bo', EvC Try.prog C4 l20_2 (tm, H) = EvC Try.prog C4 l20_2 (tm', H') ∧ RInv H0 v tm' H' (k + 1) O' bo' ∧ O' = refStep (l.take k) O x := by
  have hlen := h.len
  have h0 := h.t0
  have h3 := h.t3
  have h4 := h.t4
  have hvH := hv.same h.keep
  have hla := hvH.evs.len
  have hkl := lt_of_get hx
  have hon := h.on
  obtain ⟨ie, ke, hiv, rx⟩ := hvH.evs.ix k x hx
  have hlt : decide ((k : Int) < (l.length : Int)) = true := by simp; omega
  have hw : IntKind.i64.wrap ((k : Int) + 1) = ((k + 1 : Nat) : Int) := by rw [IntWalk.i64_in _ (by omega)]; omega
  have rx5 : rdCells H ie ke 5 = some [I x.sp, I x.bl, I x.ce, I x.th, I x.ki] := by have := rd5 rx []; rwa [List.append_nil] at this
  rw [el20_2]
  simp -implicitDefEqProofs only [b20_2, atPath, Try.f20, Option.getD_some, hlen, h0, h3, h4, hla, hlt, ↓EvC_seq, ↓EvC_skip, ↓EvC_exit, ↓EvC_ret, ↓EvC_block, ↓EvC_cond, ↓ev_region, ↓runL_cons, ↓runL_nil, ↓stepO_none, ↓stepO_guard, ↓aop_move, ↓aop_assign, ↓aop_load, ↓aop_store, ↓aop_alloc, ↓aop_box, ↓aop_nilCheck, ↓aop_fieldAddr, ↓aop_field, ↓aop_indexAddr, ↓aop_binOp, ↓aop_pick, ↓aop_extract, ↓aop_buildSlice, ↓aop_slice, ↓aop_not, ↓aop_call, ↓callA_len, ↓callA_append, ev_tmp, ev_const, ofV_int, ofV_bool, ofV_str, ofV_nilSlice, ofV_nilPtr, putA_some, putA_none, gs_self, gs_ne, List.length_set, Option.bind_some, Option.map_some, intBinA, evL, evO, evP, ne_eq, not_false_eq_true, if_true, if_false, reduceCtorEq, ite_true, ite_false, reduceIte, put_app, AV.cells, and_true, true_and, and_self, decide_true, decide_false, ↓yielded_eq, yv_some, boolOf_bool, List.getElem?_toArray, List.getElem?_cons_zero, List.getElem?_cons_succ, Nat.reduceLT, Nat.reduceEqDiff, beq_self_eq_true, Option.some_beq_some, wr_app, wr_app0, rd_app, rd_app0, rdL_here, rdL_next, wrL_here, wrL_next, spl, List.all_cons, List.all_nil, AV.one, Bool.and_self, Bool.true_and, List.drop_zero, List.take_succ_cons, List.take_zero, List.drop_succ_cons, List.head?_cons, Nat.reduceAdd, Nat.reduceLeDiff, List.length_cons, List.length_nil, List.nil_append, List.cons_append, List.set_cons_zero, List.set_cons_succ, Int.toNat_natCast, Nat.add_zero, b_ft, b_tf, Bool.false_eq_true]
  generalize hX : EvC Try.prog C4 (Code.loop _) _ = X
  obtain ⟨tm1, he, hl1, g5, hk⟩ := rl1_loop' (k := k) (v := v) hX (by omega) (fun ho => (h.out ho).2) hiv rx5 (by simp only [List.length_set, hlen]) (by simp only [hlen, h0, gs_self, gs_ne, List.length_set, ne_eq, Nat.reduceEqDiff, Nat.reduceLT, not_false_eq_true]) (by simp only [hlen, h3, gs_self, gs_ne, List.length_set, ne_eq, Nat.reduceEqDiff, Nat.reduceLT, not_false_eq_true]) (by simp only [hlen, h4, gs_self, gs_ne, List.length_set, ne_eq, Nat.reduceEqDiff, Nat.reduceLT, not_false_eq_true]) (by simp only [hlen, gs_self, gs_ne, List.length_set, ne_eq, Nat.reduceEqDiff, Nat.reduceLT, not_false_eq_true]) (by simp only [hlen, gs_self, gs_ne, List.length_set, ne_eq, Nat.reduceEqDiff, Nat.reduceLT, not_false_eq_true] <;> rfl)
  subst he
  have z0 := hk 0 (by simp)
  have z3 := hk 3 (by simp)
  have z4 := hk 4 (by simp)
  simp only [hlen, gs_self, gs_ne, List.length_set, ne_eq, Nat.reduceEqDiff, Nat.reduceLT, not_false_eq_true] at z0 z3 z4
  simp -implicitDefEqProofs only [hl1, ↓EvC_seq, ↓EvC_skip, ↓EvC_exit, ↓EvC_ret, ↓EvC_block, ↓EvC_cond, ↓ev_region, ↓runL_cons, ↓runL_nil, ↓stepO_none, ↓stepO_guard, ↓aop_move, ↓aop_assign, ↓aop_load, ↓aop_store, ↓aop_alloc, ↓aop_box, ↓aop_nilCheck, ↓aop_fieldAddr, ↓aop_field, ↓aop_indexAddr, ↓aop_binOp, ↓aop_pick, ↓aop_extract, ↓aop_buildSlice, ↓aop_slice, ↓aop_not, ↓aop_call, ↓callA_len, ↓callA_append, ev_tmp, ev_const, ofV_int, ofV_bool, ofV_str, ofV_nilSlice, ofV_nilPtr, putA_some, putA_none, gs_self, gs_ne, List.length_set, Option.bind_some, Option.map_some, intBinA, evL, evO, evP, ne_eq, not_false_eq_true, if_true, if_false, reduceCtorEq, ite_true, ite_false, reduceIte, put_app, AV.cells, and_true, true_and, and_self, decide_true, decide_false, ↓yielded_eq, yv_some, boolOf_bool, List.getElem?_toArray, List.getElem?_cons_zero, List.getElem?_cons_succ, Nat.reduceLT, Nat.reduceEqDiff, beq_self_eq_true, Option.some_beq_some, wr_app, wr_app0, rd_app, rd_app0, rdL_here, rdL_next, wrL_here, wrL_next, spl, List.all_cons, List.all_nil, AV.one, Bool.and_self, Bool.true_and, List.drop_zero, List.take_succ_cons, List.take_zero, List.drop_succ_cons, List.head?_cons, Nat.reduceAdd, Nat.reduceLeDiff, List.length_cons, List.length_nil, List.nil_append, List.cons_append, List.set_cons_zero, List.set_cons_succ, Int.toNat_natCast, Nat.add_zero, b_ft, b_tf, Bool.false_eq_true]
  generalize hX : EvC Try.prog C4 (Code.loop _) _ = X
  obtain ⟨tm2, H2, O2, bo2, he, hl2, g3, hk2, hO, ho2, hb2, hkeep2, hlen2⟩ := rl2_loop' (l := l) (k := k) (v := v) hX hvH hkl hl (by omega) (fun ho => (h.out ho).2) hiv rx rfl (by simp only [List.length_set, hl1]) (by simp only [hl1, z0, h0, gs_self, gs_ne, List.length_set, ne_eq, Nat.reduceEqDiff, Nat.reduceLT, not_false_eq_true]) (by simp only [hl1, z3, h3, gs_self, gs_ne, List.length_set, ne_eq, Nat.reduceEqDiff, Nat.reduceLT, not_false_eq_true]) (by simp only [hl1, z4, h4, gs_self, gs_ne, List.length_set, ne_eq, Nat.reduceEqDiff, Nat.reduceLT, not_false_eq_true]) (by simp only [hl1, g5, gs_self, gs_ne, List.length_set, ne_eq, Nat.reduceEqDiff, Nat.reduceLT, not_false_eq_true]) (by simp only [hl1, gs_self, gs_ne, List.length_set, ne_eq, Nat.reduceEqDiff, Nat.reduceLT, not_false_eq_true] <;> rfl)
  subst he
  have y0 := hk2 0 (by simp)
  have y4 := hk2 4 (by simp)
  simp only [hl1, z0, z4, h0, h4, gs_self, gs_ne, List.length_set, ne_eq, Nat.reduceEqDiff, Nat.reduceLT, not_false_eq_true] at y0 y4
  simp -implicitDefEqProofs only [hl2, y4, hw, ↓EvC_seq, ↓EvC_skip, ↓EvC_exit, ↓EvC_ret, ↓EvC_block, ↓EvC_cond, ↓ev_region, ↓runL_cons, ↓runL_nil, ↓stepO_none, ↓stepO_guard, ↓aop_move, ↓aop_assign, ↓aop_load, ↓aop_store, ↓aop_alloc, ↓aop_box, ↓aop_nilCheck, ↓aop_fieldAddr, ↓aop_field, ↓aop_indexAddr, ↓aop_binOp, ↓aop_pick, ↓aop_extract, ↓aop_buildSlice, ↓aop_slice, ↓aop_not, ↓aop_call, ↓callA_len, ↓callA_append, ev_tmp, ev_const, ofV_int, ofV_bool, ofV_str, ofV_nilSlice, ofV_nilPtr, putA_some, putA_none, gs_self, gs_ne, List.length_set, Option.bind_some, Option.map_some, intBinA, evL, evO, evP, ne_eq, not_false_eq_true, if_true, if_false, reduceCtorEq, ite_true, ite_false, reduceIte, put_app, AV.cells, and_true, true_and, and_self, decide_true, decide_false, ↓yielded_eq, yv_some, boolOf_bool, List.getElem?_toArray, List.getElem?_cons_zero, List.getElem?_cons_succ, Nat.reduceLT, Nat.reduceEqDiff, beq_self_eq_true, Option.some_beq_some, wr_app, wr_app0, rd_app, rd_app0, rdL_here, rdL_next, wrL_here, wrL_next, spl, List.all_cons, List.all_nil, AV.one, Bool.and_self, Bool.true_and, List.drop_zero, List.take_succ_cons, List.take_zero, List.drop_succ_cons, List.head?_cons, Nat.reduceAdd, Nat.reduceLeDiff, List.length_cons, List.length_nil, List.nil_append, List.cons_append, List.set_cons_zero, List.set_cons_succ, Int.toNat_natCast, Nat.add_zero, b_ft, b_tf, Bool.false_eq_true]
  refine ⟨_, H2, O2, bo2, rfl, ⟨by simp only [List.length_set, hl2], by simp only [hl2, y0, gs_self, gs_ne, List.length_set, ne_eq, Nat.reduceEqDiff, Nat.reduceLT, not_false_eq_true], by simp only [hl2, g3, gs_self, gs_ne, List.length_set, ne_eq, Nat.reduceEqDiff, Nat.reduceLT, not_false_eq_true], by simp only [hl2, gs_self, gs_ne, List.length_set, ne_eq, Nat.reduceEqDiff, Nat.reduceLT, not_false_eq_true], by have := h.hb; omega, fun j hj => ?_, fun ho => ⟨?_, (ho2 ho).1⟩, by omega⟩, hO⟩
  · rw [hkeep2 j (by have := h.hb; omega) (fun ho => by have := (h.out ho).1; omega)]
    exact h.keep j hj
  · rcases (ho2 ho).2 with ⟨hOe, e⟩ | e
    · rw [e]; exact (h.out hOe).1
    · have := h.hb; omega

theorem r_end {H0 H : AH} {v : AV} {l : List E6} {tm : List AV} {O : List (E6 × E6)} {bo : Nat} (h : RInv H0 v tm H l.length O bo) (hv : EvS H0 v l) : ∃ tm', EvC Try.prog C4 l20_2 (tm, H) = some (.exit 0, (tm', H)) ∧ tm'.length = 67 ∧ tm'.getD 3 undefA = outV O bo := by
  have hlen := h.len
  have h0 := h.t0
  have h3 := h.t3
  have h4 := h.t4
  have hla := (hv.same h.keep).evs.len
  have hlt : decide ((l.length : Int) < (l.length : Int)) = false := by simp
  rw [el20_2]
  simp -implicitDefEqProofs only [b20_2, atPath, Try.f20, Option.getD_some, hlen, h0, h3, h4, hla, hlt, ↓EvC_seq, ↓EvC_skip, ↓EvC_exit, ↓EvC_ret, ↓EvC_block, ↓EvC_cond, ↓ev_region, ↓runL_cons, ↓runL_nil, ↓stepO_none, ↓stepO_guard, ↓aop_move, ↓aop_assign, ↓aop_load, ↓aop_store, ↓aop_alloc, ↓aop_box, ↓aop_nilCheck, ↓aop_fieldAddr, ↓aop_field, ↓aop_indexAddr, ↓aop_binOp, ↓aop_pick, ↓aop_extract, ↓aop_buildSlice, ↓aop_slice, ↓aop_not, ↓aop_call, ↓callA_len, ↓callA_append, ev_tmp, ev_const, ofV_int, ofV_bool, ofV_str, ofV_nilSlice, ofV_nilPtr, putA_some, putA_none, gs_self, gs_ne, List.length_set, Option.bind_some, Option.map_some, intBinA, evL, evO, evP, ne_eq, not_false_eq_true, if_true, if_false, reduceCtorEq, ite_true, ite_false, reduceIte, put_app, AV.cells, and_true, true_and, and_self, decide_true, decide_false, ↓yielded_eq, yv_some, boolOf_bool, List.getElem?_toArray, List.getElem?_cons_zero, List.getElem?_cons_succ, Nat.reduceLT, Nat.reduceEqDiff, beq_self_eq_true, Option.some_beq_some, wr_app, wr_app0, rd_app, rd_app0, rdL_here, rdL_next, wrL_here, wrL_next, spl, List.all_cons, List.all_nil, AV.one, Bool.and_self, Bool.true_and, List.drop_zero, List.take_succ_cons, List.take_zero, List.drop_succ_cons, List.head?_cons, Nat.reduceAdd, Nat.reduceLeDiff, List.length_cons, List.length_nil, List.nil_append, List.cons_append, List.set_cons_zero, List.set_cons_succ, Int.toNat_natCast, Nat.add_zero, b_ft, b_tf, Bool.false_eq_true]
  exact ⟨_, rfl, by simp only [List.length_set, hlen], by simp only [hlen, h3, gs_self, gs_ne, List.length_set, ne_eq, Nat.reduceEqDiff, Nat.reduceLT, not_false_eq_true]⟩

/-- The reference's races: from the place k on. -/
def refFrom (l : List E6) : List E6 → Nat → List (E6 × E6) → List (E6 × E6)
  | [], _, O => O
  | x :: xs, k, O => refFrom l xs (k + 1) (refStep (l.take k) O x)
def refS (l : List E6) : List (E6 × E6) := refFrom l l 0 []

theorem r_loop {H0 : AH} {v : AV} {l : List E6} (hv : EvS H0 v l) (hl : l.length < 2 ^ 30) : ∀ (d k : Nat) (tm : List AV) (H : AH) (O : List (E6 × E6)) (bo : Nat), l.length - k = d → k ≤ l.length → RInv H0 v tm H k O bo →
    ∃ tm' H' O' bo', EvC Try.prog C4 l20_2 (tm, H) = some (.exit 0, (tm', H')) ∧ tm'.length = 67 ∧ tm'.getD 3 undefA = outV O' bo' ∧ (O' ≠ [] → H0.length ≤ bo' ∧ H'[bo']? = some (.cells (flatR O') 38)) ∧ (∀ j, j < H0.length → H'[j]? = H0[j]?) ∧ H0.length ≤ H'.length ∧ O'.length ≤ l.length ∧ O' = refFrom l (l.drop k) k O := by
  intro d
  induction d with
  | zero =>
    intro k tm H O bo hd hk h
    obtain rfl : k = l.length := by omega
    obtain ⟨tm', he, hl', h3⟩ := r_end h hv
    exact ⟨tm', H, O, bo, he, hl', h3, h.out, h.keep, h.hb, h.on, by simp [refFrom]⟩
  | succ d ih =>
    intro k tm H O bo hd hk h
    obtain ⟨x, hx⟩ : ∃ x, l[k]? = some x := ⟨_, List.getElem?_eq_getElem (by omega)⟩
    have hdl : l.drop k = x :: l.drop (k + 1) := by rw [List.drop_eq_getElem_cons (by omega)]; congr 1; rw [List.getElem?_eq_getElem (by omega)] at hx; exact Option.some.inj hx
    obtain ⟨tm1, H1, O1, bo1, he, hi1, hO⟩ := r_round h hv hl hx
    obtain ⟨tm', H', O', bo', he2, r1, r2, r3, r4, r5, r6, r7⟩ := ih (k + 1) tm1 H1 O1 bo1 (by omega) (by omega) hi1
    exact ⟨tm', H', O', bo', he.trans he2, r1, r2, r3, r4, r5, r6, by rw [r7, hdl, hO]; rfl⟩

theorem r_loop' {H0 : AH} {v : AV} {l : List E6} {tm : List AV} {H : AH} {X : Option (AExit × St)} (hX : EvC Try.prog C4 l20_2 (tm, H) = X) (hv : EvS H0 v l) (hl : l.length < 2 ^ 30) (h : RInv H0 v tm H 0 [] 0) :
    ∃ tm' H' O' bo', X = some (.exit 0, (tm', H')) ∧ tm'.length = 67 ∧ tm'.getD 3 undefA = outV O' bo' ∧ (O' ≠ [] → H0.length ≤ bo' ∧ H'[bo']? = some (.cells (flatR O') 38)) ∧ (∀ j, j < H0.length → H'[j]? = H0[j]?) ∧ H0.length ≤ H'.length ∧ O'.length ≤ l.length ∧ O' = refS l := by
  subst hX
  have := r_loop hv hl l.length 0 tm H [] 0 (by omega) (by omega) h
  rw [List.drop_zero] at this
  exact this

theorem ref_find_ev {H : AH} {v : AV} {l : List E6} (hv : EvS H v l) (hl : l.length < 2 ^ 30) : ∃ H' ov, (∀ j, j < H.length → H'[j]? = H[j]?) ∧ H.length ≤ H'.length ∧ RaceRow H.length H' ov (refS l) ∧ (refS l).length ≤ l.length ∧ Ev Try.prog C4 20 [v] H = some (ov, H') := by
  have g0 : ([v] ++ List.replicate (67 - [v].length) undefA).length = 67 := by simp
  have g1 : ([v] ++ List.replicate (67 - [v].length) undefA).getD 0 undefA = v := rfl
  rw [fe20]
  generalize [v] ++ List.replicate (67 - [v].length) undefA = tm at *
  simp -implicitDefEqProofs only [c20, Try.f20, Option.getD_some, g0, g1, ↓EvC_seq, ↓EvC_skip, ↓EvC_exit, ↓EvC_ret, ↓EvC_block, ↓EvC_cond, ↓ev_region, ↓runL_cons, ↓runL_nil, ↓stepO_none, ↓stepO_guard, ↓aop_move, ↓aop_assign, ↓aop_load, ↓aop_store, ↓aop_alloc, ↓aop_box, ↓aop_nilCheck, ↓aop_fieldAddr, ↓aop_field, ↓aop_indexAddr, ↓aop_binOp, ↓aop_pick, ↓aop_extract, ↓aop_buildSlice, ↓aop_slice, ↓aop_not, ↓aop_call, ↓callA_len, ↓callA_append, ev_tmp, ev_const, ofV_int, ofV_bool, ofV_str, ofV_nilSlice, ofV_nilPtr, putA_some, putA_none, gs_self, gs_ne, List.length_set, Option.bind_some, Option.map_some, intBinA, evL, evO, evP, ne_eq, not_false_eq_true, if_true, if_false, reduceCtorEq, ite_true, ite_false, reduceIte, put_app, AV.cells, and_true, true_and, and_self, decide_true, decide_false, ↓yielded_eq, yv_some, boolOf_bool, List.getElem?_toArray, List.getElem?_cons_zero, List.getElem?_cons_succ, Nat.reduceLT, Nat.reduceEqDiff, beq_self_eq_true, Option.some_beq_some, wr_app, wr_app0, rd_app, rd_app0, rdL_here, rdL_next, wrL_here, wrL_next, spl, List.all_cons, List.all_nil, AV.one, Bool.and_self, Bool.true_and, List.drop_zero, List.take_succ_cons, List.take_zero, List.drop_succ_cons, List.head?_cons, Nat.reduceAdd, Nat.reduceLeDiff, List.length_cons, List.length_nil, List.nil_append, List.cons_append, List.set_cons_zero, List.set_cons_succ, Int.toNat_natCast, Nat.add_zero, b_ft, b_tf, Bool.false_eq_true]
  generalize hX : EvC Try.prog C4 (Code.loop _) _ = X
  obtain ⟨tm', H', O', bo', he, r1, r2, r3, r4, r5, r6, rfl⟩ := r_loop' hX hv hl ⟨by simp only [List.length_set, g0], by simp only [g0, g1, gs_self, gs_ne, List.length_set, ne_eq, Nat.reduceEqDiff, Nat.reduceLT, not_false_eq_true], by simp only [g0, gs_self, gs_ne, List.length_set, ne_eq, Nat.reduceEqDiff, Nat.reduceLT, not_false_eq_true] <;> rfl, by simp only [g0, gs_self, gs_ne, List.length_set, ne_eq, Nat.reduceEqDiff, Nat.reduceLT, not_false_eq_true] <;> rfl, Nat.le_refl _, fun _ _ => rfl, fun h => absurd rfl h, by simp⟩
  subst he
  refine ⟨H', outV (refS l) bo', r4, r5, ⟨bo', rfl, r3⟩, r6, ?_⟩
  simp -implicitDefEqProofs only [r1, r2, ↓EvC_seq, ↓EvC_skip, ↓EvC_exit, ↓EvC_ret, ↓EvC_block, ↓EvC_cond, ↓ev_region, ↓runL_cons, ↓runL_nil, ↓stepO_none, ↓stepO_guard, ↓aop_move, ↓aop_assign, ↓aop_load, ↓aop_store, ↓aop_alloc, ↓aop_box, ↓aop_nilCheck, ↓aop_fieldAddr, ↓aop_field, ↓aop_indexAddr, ↓aop_binOp, ↓aop_pick, ↓aop_extract, ↓aop_buildSlice, ↓aop_slice, ↓aop_not, ↓aop_call, ↓callA_len, ↓callA_append, ev_tmp, ev_const, ofV_int, ofV_bool, ofV_str, ofV_nilSlice, ofV_nilPtr, putA_some, putA_none, gs_self, gs_ne, List.length_set, Option.bind_some, Option.map_some, intBinA, evL, evO, evP, ne_eq, not_false_eq_true, if_true, if_false, reduceCtorEq, ite_true, ite_false, reduceIte, put_app, AV.cells, and_true, true_and, and_self, decide_true, decide_false, ↓yielded_eq, yv_some, boolOf_bool, List.getElem?_toArray, List.getElem?_cons_zero, List.getElem?_cons_succ, Nat.reduceLT, Nat.reduceEqDiff, beq_self_eq_true, Option.some_beq_some, wr_app, wr_app0, rd_app, rd_app0, rdL_here, rdL_next, wrL_here, wrL_next, spl, List.all_cons, List.all_nil, AV.one, Bool.and_self, Bool.true_and, List.drop_zero, List.take_succ_cons, List.take_zero, List.drop_succ_cons, List.head?_cons, Nat.reduceAdd, Nat.reduceLeDiff, List.length_cons, List.length_nil, List.nil_append, List.cons_append, List.set_cons_zero, List.set_cons_succ, Int.toNat_natCast, Nat.add_zero, b_ft, b_tf, Bool.false_eq_true]

end Go.Dv

/- SameRaces; race.Find of a list that is not valid (printed by t51.py, own work). -/
namespace Go.Dv
open Go.Proofs
set_option maxRecDepth 100000
set_option linter.unusedSimpArgs false
set_option linter.unusedVariables false
attribute [local congr] bind_congr_first

theorem find_bad_ev {H : AH} {v : AV} {l : List E6} (hv : EvS H v l) (hl : l.length < 2 ^ 62) (hb : (!(decide ((l.length : Int) > 4000)) && !(l.any E6.bad)) = false) : Ev Try.prog C4 16 [v] H = some (.tuple [.nilSlice, I 1], H) := by
  have g0 : ([v] ++ List.replicate (66 - [v].length) undefA).length = 66 := by simp
  have g1 : ([v] ++ List.replicate (66 - [v].length) undefA).getD 0 undefA = v := rfl
  have hval := k4_valid hv.evs hl
  rw [hb] at hval
  rw [fe16]
  generalize [v] ++ List.replicate (66 - [v].length) undefA = tm at *
  simp -implicitDefEqProofs only [c16, Try.f16, Option.getD_some, g0, g1, hval, ↓fc18, Bool.not_false, ↓q_not, ↓aop_lookup, ↓aop_makeFunc, ↓aop_makeMap, ↓aop_mapUpdate, ↓aop_mapEntry, ↓aop_entryStore, ↓aop_buildSlice, ↓aop_extract, ↓EvC_seq, ↓EvC_skip, ↓EvC_exit, ↓EvC_ret, ↓EvC_block, ↓EvC_cond, ↓ev_region, ↓runL_cons, ↓runL_nil, ↓stepO_none, ↓stepO_guard, ↓aop_move, ↓aop_assign, ↓aop_load, ↓aop_store, ↓aop_alloc, ↓aop_box, ↓aop_nilCheck, ↓aop_fieldAddr, ↓aop_field, ↓aop_indexAddr, ↓aop_binOp, ↓aop_pick, ↓aop_extract, ↓aop_buildSlice, ↓aop_slice, ↓aop_not, ↓aop_call, ↓callA_len, ↓callA_append, ev_tmp, ev_const, ofV_int, ofV_bool, ofV_str, ofV_nilSlice, ofV_nilPtr, putA_some, putA_none, gs_self, gs_ne, List.length_set, Option.bind_some, Option.map_some, intBinA, evL, evO, evP, ne_eq, not_false_eq_true, if_true, if_false, reduceCtorEq, ite_true, ite_false, reduceIte, put_app, AV.cells, and_true, true_and, and_self, decide_true, decide_false, ↓yielded_eq, yv_some, boolOf_bool, List.getElem?_toArray, List.getElem?_cons_zero, List.getElem?_cons_succ, Nat.reduceLT, Nat.reduceEqDiff, beq_self_eq_true, Option.some_beq_some, wr_app, wr_app0, rd_app, rd_app0, rdL_here, rdL_next, wrL_here, wrL_next, spl, List.all_cons, List.all_nil, AV.one, Bool.and_self, Bool.true_and, List.drop_zero, List.take_succ_cons, List.take_zero, List.drop_succ_cons, List.head?_cons, Nat.reduceAdd, Nat.reduceLeDiff, List.length_cons, List.length_nil, List.nil_append, List.cons_append, List.set_cons_zero, List.set_cons_succ, Int.toNat_natCast, Nat.add_zero, b_ft, b_tf, Bool.false_eq_true]

/-- A list of races that can be read. -/
structure RRow (H : AH) (v : AV) (O : List (E6 × E6)) : Prop where
  len : ∀ H, lenA Try.prog 24 H v = some (I O.length)
  ix : ∀ (j : Nat) (p : E6 × E6), O[j]? = some p → ∃ i k, indexAddrA Try.prog 24 v (I j) = some (.ptr i k) ∧ rdCells H i k 10 = some (rcells p.1 p.2)

theorem RaceRow.row {b : Nat} {H : AH} {v : AV} {O : List (E6 × E6)} (h : RaceRow b H v O) : RRow H v O := by
  obtain ⟨bo, rfl, ho⟩ := h
  refine ⟨fun H => outV_len O bo H, fun j p hp => ⟨bo, j * 10, outV_ix (lt_of_get hp), rd_flatR (ho (fun e => by subst e; simp at hp)).2 hp⟩⟩

theorem RaceRow.keeps {b : Nat} {H H' : AH} {v : AV} {O : List (E6 × E6)} (h : RaceRow b H v O) (hk : ∀ j, j < H.length → H'[j]? = H[j]?) : RaceRow b H' v O := by
  obtain ⟨bo, rfl, ho⟩ := h
  exact ⟨bo, rfl, fun hne => ⟨(ho hne).1, by rw [hk bo (lt_of_get (ho hne).2)]; exact (ho hne).2⟩⟩

def raceEq (p q : E6 × E6) : Bool := p.1.accEq q.1 && (p.2.accEq q.2 && true)
theorem eqa38 (a b c d : E6) : eqVG Try.prog 38 (.agg (rcells a b)) (.agg (rcells c d)) = some (raceEq (a, b) (c, d)) := by kernel_rfl
theorem ld38' (H : AH) (i k : Nat) : ldA Try.prog 38 H i k = (rdCells H i k 10).map .agg := by kernel_rfl

theorem same_end {H : AH} {tm : List AV} {va : AV} {A : List (E6 × E6)} (ha : RRow H va A) (hlen : tm.length = 26) (h0 : tm.getD 0 undefA = va) (h5 : tm.getD 5 undefA = I A.length) : ∃ tm', EvC Try.prog C4 l19_0 (tm, H) = some (.exit 0, (tm', H)) ∧ tm'.length = 26 := by
  have hlt : decide ((A.length : Int) < (A.length : Int)) = false := by simp
  have hla := ha.len
  rw [el19_0]
  simp -implicitDefEqProofs only [b19_0, atPath, Try.f19, Option.getD_some, hlen, h0, h5, hla, hlt, ↓EvC_seq, ↓EvC_skip, ↓EvC_exit, ↓EvC_ret, ↓EvC_block, ↓EvC_cond, ↓ev_region, ↓runL_cons, ↓runL_nil, ↓stepO_none, ↓stepO_guard, ↓aop_move, ↓aop_assign, ↓aop_load, ↓aop_store, ↓aop_alloc, ↓aop_box, ↓aop_nilCheck, ↓aop_fieldAddr, ↓aop_field, ↓aop_indexAddr, ↓aop_binOp, ↓aop_pick, ↓aop_extract, ↓aop_buildSlice, ↓aop_slice, ↓aop_not, ↓aop_call, ↓callA_len, ↓callA_append, ev_tmp, ev_const, ofV_int, ofV_bool, ofV_str, ofV_nilSlice, ofV_nilPtr, putA_some, putA_none, gs_self, gs_ne, List.length_set, Option.bind_some, Option.map_some, intBinA, evL, evO, evP, ne_eq, not_false_eq_true, if_true, if_false, reduceCtorEq, ite_true, ite_false, reduceIte, put_app, AV.cells, and_true, true_and, and_self, decide_true, decide_false, ↓yielded_eq, yv_some, boolOf_bool, List.getElem?_toArray, List.getElem?_cons_zero, List.getElem?_cons_succ, Nat.reduceLT, Nat.reduceEqDiff, beq_self_eq_true, Option.some_beq_some, wr_app, wr_app0, rd_app, rd_app0, rdL_here, rdL_next, wrL_here, wrL_next, spl, List.all_cons, List.all_nil, AV.one, Bool.and_self, Bool.true_and, List.drop_zero, List.take_succ_cons, List.take_zero, List.drop_succ_cons, List.head?_cons, Nat.reduceAdd, Nat.reduceLeDiff, List.length_cons, List.length_nil, List.nil_append, List.cons_append, List.set_cons_zero, List.set_cons_succ, Int.toNat_natCast, Nat.add_zero, b_ft, b_tf, Bool.false_eq_true]
  exact ⟨_, rfl, by simp only [List.length_set, hlen]⟩

set_option maxHeartbeats 4000000 in
theorem same_round {H : AH} {tm : List AV} {va vb : AV} {A B : List (E6 × E6)} {i : Nat} {p q : E6 × E6} (ha : RRow H va A) (hb : RRow H vb B) (hn : A.length < 2 ^ 62) (hp : A[i]? = some p) (hq : B[i]? = some q) (hlen : tm.length = 26) (h0 : tm.getD 0 undefA = va) (h1 : tm.getD 1 undefA = vb) (h5 : tm.getD 5 undefA = I i) :
    (raceEq p q = false ∧ ∃ tm', EvC Try.prog C4 l19_0 (tm, H) = some (.ret, (tm', H)) ∧ tm'.length = 26 ∧ tm'.getD 4 undefA = .bool false) ∨
    (raceEq p q = true ∧ ∃ tm', EvC Try.prog C4 l19_0 (tm, H) = EvC Try.prog C4 l19_0 (tm', H) ∧ tm'.length = 26 ∧ tm'.getD 0 undefA = va ∧ tm'.getD 1 undefA = vb ∧ tm'.getD 5 undefA = I ((i + 1 : Nat) : Int)) := by
  have hi := lt_of_get hp
  have hlt : decide ((i : Int) < (A.length : Int)) = true := by simp; omega
  have hw : IntKind.i64.wrap ((i : Int) + 1) = ((i + 1 : Nat) : Int) := by rw [IntWalk.i64_in _ (by omega)]; omega
  have hla := ha.len
  obtain ⟨i1, k1, hi1, hr1⟩ := ha.ix i p hp
  obtain ⟨i2, k2, hi2, hr2⟩ := hb.ix i q hq
  have he := eqa38 p.1 p.2 q.1 q.2
  have hl1 : ldA Try.prog 38 H i1 k1 = some (.agg (rcells p.1 p.2)) := by rw [ld38', hr1]; rfl
  have hl2 : ldA Try.prog 38 H i2 k2 = some (.agg (rcells q.1 q.2)) := by rw [ld38', hr2]; rfl
  have d6 := ed19_6
  simp only [d19_6, opsAt, atPath, Try.f19, Option.getD_some] at d6
  rw [el19_0]
  cases hc : raceEq p q
  · have he' : eqVG Try.prog 38 (.agg (rcells p.1 p.2)) (.agg (rcells q.1 q.2)) = some false := by rw [he]; exact congrArg some hc
    refine .inl ⟨rfl, ?_⟩
    simp -implicitDefEqProofs only [b19_0, atPath, Try.f19, Option.getD_some, hlen, h0, h1, h5, hla, hlt, hw, hi1, hi2, ↓hl1, ↓hl2, ↓he', ↓d6, Bool.not_false, boolOf_undef, nb, ↓EvC_seq, ↓EvC_skip, ↓EvC_exit, ↓EvC_ret, ↓EvC_block, ↓EvC_cond, ↓ev_region, ↓runL_cons, ↓runL_nil, ↓stepO_none, ↓stepO_guard, ↓aop_move, ↓aop_assign, ↓aop_load, ↓aop_store, ↓aop_alloc, ↓aop_box, ↓aop_nilCheck, ↓aop_fieldAddr, ↓aop_field, ↓aop_indexAddr, ↓aop_binOp, ↓aop_pick, ↓aop_extract, ↓aop_buildSlice, ↓aop_slice, ↓aop_not, ↓aop_call, ↓callA_len, ↓callA_append, ev_tmp, ev_const, ofV_int, ofV_bool, ofV_str, ofV_nilSlice, ofV_nilPtr, putA_some, putA_none, gs_self, gs_ne, List.length_set, Option.bind_some, Option.map_some, intBinA, evL, evO, evP, ne_eq, not_false_eq_true, if_true, if_false, reduceCtorEq, ite_true, ite_false, reduceIte, put_app, AV.cells, and_true, true_and, and_self, decide_true, decide_false, ↓yielded_eq, yv_some, boolOf_bool, List.getElem?_toArray, List.getElem?_cons_zero, List.getElem?_cons_succ, Nat.reduceLT, Nat.reduceEqDiff, beq_self_eq_true, Option.some_beq_some, wr_app, wr_app0, rd_app, rd_app0, rdL_here, rdL_next, wrL_here, wrL_next, spl, List.all_cons, List.all_nil, AV.one, Bool.and_self, Bool.true_and, List.drop_zero, List.take_succ_cons, List.take_zero, List.drop_succ_cons, List.head?_cons, Nat.reduceAdd, Nat.reduceLeDiff, List.length_cons, List.length_nil, List.nil_append, List.cons_append, List.set_cons_zero, List.set_cons_succ, Int.toNat_natCast, Nat.add_zero, b_ft, b_tf, Bool.false_eq_true, ↓rp_done, ↓rp_take, ↓rp_all, ↓ra_nil, ↓ra_first, ↓ra_next, ↓quietO_none, ↓quietO_guard, ↓q_move, ↓q_assign, ↓q_pick, ↓q_binOp, ↓q_field, ↓q_fieldAddr, ↓q_indexAddr, ↓q_nilCheck, set_order, keepV_eq, stBeq_self, ↓rp_graft, put_slot, put_slot_app, List.length_append, List.append_assoc, Nat.add_assoc, ↓aop_build, evP, Bool.true_and, Bool.and_true, Bool.false_and, Bool.and_false, Bool.true_or, Bool.or_true, Bool.false_or, Bool.or_false, Bool.not_true, Bool.not_false]
    exact ⟨_, rfl, by simp only [List.length_set, hlen], by simp only [hlen, gs_self, gs_ne, List.length_set, ne_eq, Nat.reduceEqDiff, Nat.reduceLT, not_false_eq_true]⟩
  · have he' : eqVG Try.prog 38 (.agg (rcells p.1 p.2)) (.agg (rcells q.1 q.2)) = some true := by rw [he]; exact congrArg some hc
    refine .inr ⟨rfl, ?_⟩
    simp -implicitDefEqProofs only [b19_0, atPath, Try.f19, Option.getD_some, hlen, h0, h1, h5, hla, hlt, hw, hi1, hi2, ↓hl1, ↓hl2, ↓he', ↓d6, Bool.not_true, boolOf_undef, nb, ↓EvC_seq, ↓EvC_skip, ↓EvC_exit, ↓EvC_ret, ↓EvC_block, ↓EvC_cond, ↓ev_region, ↓runL_cons, ↓runL_nil, ↓stepO_none, ↓stepO_guard, ↓aop_move, ↓aop_assign, ↓aop_load, ↓aop_store, ↓aop_alloc, ↓aop_box, ↓aop_nilCheck, ↓aop_fieldAddr, ↓aop_field, ↓aop_indexAddr, ↓aop_binOp, ↓aop_pick, ↓aop_extract, ↓aop_buildSlice, ↓aop_slice, ↓aop_not, ↓aop_call, ↓callA_len, ↓callA_append, ev_tmp, ev_const, ofV_int, ofV_bool, ofV_str, ofV_nilSlice, ofV_nilPtr, putA_some, putA_none, gs_self, gs_ne, List.length_set, Option.bind_some, Option.map_some, intBinA, evL, evO, evP, ne_eq, not_false_eq_true, if_true, if_false, reduceCtorEq, ite_true, ite_false, reduceIte, put_app, AV.cells, and_true, true_and, and_self, decide_true, decide_false, ↓yielded_eq, yv_some, boolOf_bool, List.getElem?_toArray, List.getElem?_cons_zero, List.getElem?_cons_succ, Nat.reduceLT, Nat.reduceEqDiff, beq_self_eq_true, Option.some_beq_some, wr_app, wr_app0, rd_app, rd_app0, rdL_here, rdL_next, wrL_here, wrL_next, spl, List.all_cons, List.all_nil, AV.one, Bool.and_self, Bool.true_and, List.drop_zero, List.take_succ_cons, List.take_zero, List.drop_succ_cons, List.head?_cons, Nat.reduceAdd, Nat.reduceLeDiff, List.length_cons, List.length_nil, List.nil_append, List.cons_append, List.set_cons_zero, List.set_cons_succ, Int.toNat_natCast, Nat.add_zero, b_ft, b_tf, Bool.false_eq_true, ↓rp_done, ↓rp_take, ↓rp_all, ↓ra_nil, ↓ra_first, ↓ra_next, ↓quietO_none, ↓quietO_guard, ↓q_move, ↓q_assign, ↓q_pick, ↓q_binOp, ↓q_field, ↓q_fieldAddr, ↓q_indexAddr, ↓q_nilCheck, set_order, keepV_eq, stBeq_self, ↓rp_graft, put_slot, put_slot_app, List.length_append, List.append_assoc, Nat.add_assoc, ↓aop_build, evP, Bool.true_and, Bool.and_true, Bool.false_and, Bool.and_false, Bool.true_or, Bool.or_true, Bool.false_or, Bool.or_false, Bool.not_true, Bool.not_false]
    exact ⟨_, rfl, by simp only [List.length_set, hlen], by simp only [hlen, h0, gs_self, gs_ne, List.length_set, ne_eq, Nat.reduceEqDiff, Nat.reduceLT, not_false_eq_true], by simp only [hlen, h1, gs_self, gs_ne, List.length_set, ne_eq, Nat.reduceEqDiff, Nat.reduceLT, not_false_eq_true], by simp only [hlen, gs_self, gs_ne, List.length_set, ne_eq, Nat.reduceEqDiff, Nat.reduceLT, not_false_eq_true]⟩

def racesEq : List (E6 × E6) → List (E6 × E6) → Bool
  | p :: A, q :: B => raceEq p q && racesEq A B
  | [], _ => true
  | _, [] => false

theorem same_loop {H : AH} {va vb : AV} {A B : List (E6 × E6)} (ha : RRow H va A) (hb : RRow H vb B) (hn : A.length < 2 ^ 62) (hAB : A.length = B.length) : ∀ (d i : Nat) (tm : List AV), A.length - i = d → i ≤ A.length →
    tm.length = 26 → tm.getD 0 undefA = va → tm.getD 1 undefA = vb → tm.getD 5 undefA = I i →
    ∃ e tm', EvC Try.prog C4 l19_0 (tm, H) = some (e, (tm', H)) ∧ tm'.length = 26 ∧ ((racesEq (A.drop i) (B.drop i) = true ∧ e = .exit 0) ∨ (racesEq (A.drop i) (B.drop i) = false ∧ e = .ret ∧ tm'.getD 4 undefA = .bool false)) := by
  intro d
  induction d with
  | zero =>
    intro i tm hd hi hlen h0 h1 h5
    obtain rfl : i = A.length := by omega
    obtain ⟨tm', he, hl⟩ := same_end ha hlen h0 h5
    exact ⟨_, tm', he, hl, .inl ⟨by simp [racesEq], rfl⟩⟩
  | succ d ih =>
    intro i tm hd hi hlen h0 h1 h5
    obtain ⟨p, hp⟩ : ∃ p, A[i]? = some p := ⟨_, List.getElem?_eq_getElem (by omega)⟩
    obtain ⟨q, hq⟩ : ∃ q, B[i]? = some q := ⟨_, List.getElem?_eq_getElem (by omega)⟩
    have e1 : A.drop i = p :: A.drop (i + 1) := by rw [List.drop_eq_getElem_cons (by omega)]; congr 1; rw [List.getElem?_eq_getElem (by omega)] at hp; exact Option.some.inj hp
    have e2 : B.drop i = q :: B.drop (i + 1) := by rw [List.drop_eq_getElem_cons (by omega)]; congr 1; rw [List.getElem?_eq_getElem (by omega)] at hq; exact Option.some.inj hq
    rw [e1, e2]
    simp only [racesEq]
    rcases same_round ha hb hn hp hq hlen h0 h1 h5 with ⟨hc, tm', he, hl, g4⟩ | ⟨hc, tm1, he, hl, g0, g1, g5⟩
    · rw [hc]
      exact ⟨_, tm', he, hl, .inr ⟨by simp, rfl, g4⟩⟩
    · rw [hc, Bool.true_and]
      obtain ⟨e, tm', he2, hl', hr⟩ := ih (i + 1) tm1 (by omega) (by omega) hl g0 g1 g5
      exact ⟨e, tm', he.trans he2, hl', hr⟩

theorem same_loop' {H : AH} {va vb : AV} {A B : List (E6 × E6)} {tm : List AV} {X : Option (AExit × St)} (hX : EvC Try.prog C4 l19_0 (tm, H) = X) (ha : RRow H va A) (hb : RRow H vb B) (hn : A.length < 2 ^ 62) (hAB : A.length = B.length)
    (hlen : tm.length = 26) (h0 : tm.getD 0 undefA = va) (h1 : tm.getD 1 undefA = vb) (h5 : tm.getD 5 undefA = I ((0 : Nat) : Int)) :
    ∃ e tm', X = some (e, (tm', H)) ∧ tm'.length = 26 ∧ ((racesEq A B = true ∧ e = .exit 0) ∨ (racesEq A B = false ∧ e = .ret ∧ tm'.getD 4 undefA = .bool false)) := by
  subst hX
  have := same_loop ha hb hn hAB A.length 0 tm (by omega) (by omega) hlen h0 h1 h5
  simpa only [List.drop_zero] using this

theorem same_ev {H : AH} {va vb : AV} {A B : List (E6 × E6)} (ha : RRow H va A) (hb : RRow H vb B) (hn : A.length < 2 ^ 62) : Ev Try.prog C4 19 [va, vb] H = some (.bool (decide (A.length = B.length) && racesEq A B), H) := by
  have g0 : ([va, vb] ++ List.replicate (26 - [va, vb].length) undefA).length = 26 := by simp
  have g1 : ([va, vb] ++ List.replicate (26 - [va, vb].length) undefA).getD 0 undefA = va := rfl
  have g2 : ([va, vb] ++ List.replicate (26 - [va, vb].length) undefA).getD 1 undefA = vb := rfl
  have hla := ha.len
  have hlb := hb.len
  rw [fe19]
  generalize [va, vb] ++ List.replicate (26 - [va, vb].length) undefA = tm at *
  by_cases hAB : A.length = B.length
  · have hne : ((A.length : Int) != (B.length : Int)) = false := by simp [hAB]
    simp -implicitDefEqProofs only [c19, Try.f19, Option.getD_some, g0, g1, g2, hla, hlb, hne, ↓EvC_seq, ↓EvC_skip, ↓EvC_exit, ↓EvC_ret, ↓EvC_block, ↓EvC_cond, ↓ev_region, ↓runL_cons, ↓runL_nil, ↓stepO_none, ↓stepO_guard, ↓aop_move, ↓aop_assign, ↓aop_load, ↓aop_store, ↓aop_alloc, ↓aop_box, ↓aop_nilCheck, ↓aop_fieldAddr, ↓aop_field, ↓aop_indexAddr, ↓aop_binOp, ↓aop_pick, ↓aop_extract, ↓aop_buildSlice, ↓aop_slice, ↓aop_not, ↓aop_call, ↓callA_len, ↓callA_append, ev_tmp, ev_const, ofV_int, ofV_bool, ofV_str, ofV_nilSlice, ofV_nilPtr, putA_some, putA_none, gs_self, gs_ne, List.length_set, Option.bind_some, Option.map_some, intBinA, evL, evO, evP, ne_eq, not_false_eq_true, if_true, if_false, reduceCtorEq, ite_true, ite_false, reduceIte, put_app, AV.cells, and_true, true_and, and_self, decide_true, decide_false, ↓yielded_eq, yv_some, boolOf_bool, List.getElem?_toArray, List.getElem?_cons_zero, List.getElem?_cons_succ, Nat.reduceLT, Nat.reduceEqDiff, beq_self_eq_true, Option.some_beq_some, wr_app, wr_app0, rd_app, rd_app0, rdL_here, rdL_next, wrL_here, wrL_next, spl, List.all_cons, List.all_nil, AV.one, Bool.and_self, Bool.true_and, List.drop_zero, List.take_succ_cons, List.take_zero, List.drop_succ_cons, List.head?_cons, Nat.reduceAdd, Nat.reduceLeDiff, List.length_cons, List.length_nil, List.nil_append, List.cons_append, List.set_cons_zero, List.set_cons_succ, Int.toNat_natCast, Nat.add_zero, b_ft, b_tf, Bool.false_eq_true]
    generalize hX : EvC Try.prog C4 (Code.loop _) _ = X
    obtain ⟨e, tm', he, hl, hc⟩ := same_loop' hX ha hb hn hAB (by simp only [List.length_set, g0]) (by simp only [g0, g1, gs_self, gs_ne, List.length_set, ne_eq, Nat.reduceEqDiff, Nat.reduceLT, not_false_eq_true]) (by simp only [g0, g2, gs_self, gs_ne, List.length_set, ne_eq, Nat.reduceEqDiff, Nat.reduceLT, not_false_eq_true]) (by simp only [g0, gs_self, gs_ne, List.length_set, ne_eq, Nat.reduceEqDiff, Nat.reduceLT, not_false_eq_true] <;> rfl)
    subst he
    rcases hc with ⟨h, rfl⟩ | ⟨h, rfl, g4⟩
    · rw [h, hAB]
      simp -implicitDefEqProofs only [hl, ↓EvC_seq, ↓EvC_skip, ↓EvC_exit, ↓EvC_ret, ↓EvC_block, ↓EvC_cond, ↓ev_region, ↓runL_cons, ↓runL_nil, ↓stepO_none, ↓stepO_guard, ↓aop_move, ↓aop_assign, ↓aop_load, ↓aop_store, ↓aop_alloc, ↓aop_box, ↓aop_nilCheck, ↓aop_fieldAddr, ↓aop_field, ↓aop_indexAddr, ↓aop_binOp, ↓aop_pick, ↓aop_extract, ↓aop_buildSlice, ↓aop_slice, ↓aop_not, ↓aop_call, ↓callA_len, ↓callA_append, ev_tmp, ev_const, ofV_int, ofV_bool, ofV_str, ofV_nilSlice, ofV_nilPtr, putA_some, putA_none, gs_self, gs_ne, List.length_set, Option.bind_some, Option.map_some, intBinA, evL, evO, evP, ne_eq, not_false_eq_true, if_true, if_false, reduceCtorEq, ite_true, ite_false, reduceIte, put_app, AV.cells, and_true, true_and, and_self, decide_true, decide_false, ↓yielded_eq, yv_some, boolOf_bool, List.getElem?_toArray, List.getElem?_cons_zero, List.getElem?_cons_succ, Nat.reduceLT, Nat.reduceEqDiff, beq_self_eq_true, Option.some_beq_some, wr_app, wr_app0, rd_app, rd_app0, rdL_here, rdL_next, wrL_here, wrL_next, spl, List.all_cons, List.all_nil, AV.one, Bool.and_self, Bool.true_and, List.drop_zero, List.take_succ_cons, List.take_zero, List.drop_succ_cons, List.head?_cons, Nat.reduceAdd, Nat.reduceLeDiff, List.length_cons, List.length_nil, List.nil_append, List.cons_append, List.set_cons_zero, List.set_cons_succ, Int.toNat_natCast, Nat.add_zero, b_ft, b_tf, Bool.false_eq_true]
    · rw [h, hAB]
      simp -implicitDefEqProofs only [hl, g4, Bool.and_false, ↓EvC_seq, ↓EvC_skip, ↓EvC_exit, ↓EvC_ret, ↓EvC_block, ↓EvC_cond, ↓ev_region, ↓runL_cons, ↓runL_nil, ↓stepO_none, ↓stepO_guard, ↓aop_move, ↓aop_assign, ↓aop_load, ↓aop_store, ↓aop_alloc, ↓aop_box, ↓aop_nilCheck, ↓aop_fieldAddr, ↓aop_field, ↓aop_indexAddr, ↓aop_binOp, ↓aop_pick, ↓aop_extract, ↓aop_buildSlice, ↓aop_slice, ↓aop_not, ↓aop_call, ↓callA_len, ↓callA_append, ev_tmp, ev_const, ofV_int, ofV_bool, ofV_str, ofV_nilSlice, ofV_nilPtr, putA_some, putA_none, gs_self, gs_ne, List.length_set, Option.bind_some, Option.map_some, intBinA, evL, evO, evP, ne_eq, not_false_eq_true, if_true, if_false, reduceCtorEq, ite_true, ite_false, reduceIte, put_app, AV.cells, and_true, true_and, and_self, decide_true, decide_false, ↓yielded_eq, yv_some, boolOf_bool, List.getElem?_toArray, List.getElem?_cons_zero, List.getElem?_cons_succ, Nat.reduceLT, Nat.reduceEqDiff, beq_self_eq_true, Option.some_beq_some, wr_app, wr_app0, rd_app, rd_app0, rdL_here, rdL_next, wrL_here, wrL_next, spl, List.all_cons, List.all_nil, AV.one, Bool.and_self, Bool.true_and, List.drop_zero, List.take_succ_cons, List.take_zero, List.drop_succ_cons, List.head?_cons, Nat.reduceAdd, Nat.reduceLeDiff, List.length_cons, List.length_nil, List.nil_append, List.cons_append, List.set_cons_zero, List.set_cons_succ, Int.toNat_natCast, Nat.add_zero, b_ft, b_tf, Bool.false_eq_true]
  · have hne : ((A.length : Int) != (B.length : Int)) = true := by simp; omega
    have hd : decide (A.length = B.length) = false := by simp [hAB]
    rw [hd]
    simp -implicitDefEqProofs only [c19, Try.f19, Option.getD_some, g0, g1, g2, hla, hlb, hne, Bool.false_and, ↓EvC_seq, ↓EvC_skip, ↓EvC_exit, ↓EvC_ret, ↓EvC_block, ↓EvC_cond, ↓ev_region, ↓runL_cons, ↓runL_nil, ↓stepO_none, ↓stepO_guard, ↓aop_move, ↓aop_assign, ↓aop_load, ↓aop_store, ↓aop_alloc, ↓aop_box, ↓aop_nilCheck, ↓aop_fieldAddr, ↓aop_field, ↓aop_indexAddr, ↓aop_binOp, ↓aop_pick, ↓aop_extract, ↓aop_buildSlice, ↓aop_slice, ↓aop_not, ↓aop_call, ↓callA_len, ↓callA_append, ev_tmp, ev_const, ofV_int, ofV_bool, ofV_str, ofV_nilSlice, ofV_nilPtr, putA_some, putA_none, gs_self, gs_ne, List.length_set, Option.bind_some, Option.map_some, intBinA, evL, evO, evP, ne_eq, not_false_eq_true, if_true, if_false, reduceCtorEq, ite_true, ite_false, reduceIte, put_app, AV.cells, and_true, true_and, and_self, decide_true, decide_false, ↓yielded_eq, yv_some, boolOf_bool, List.getElem?_toArray, List.getElem?_cons_zero, List.getElem?_cons_succ, Nat.reduceLT, Nat.reduceEqDiff, beq_self_eq_true, Option.some_beq_some, wr_app, wr_app0, rd_app, rd_app0, rdL_here, rdL_next, wrL_here, wrL_next, spl, List.all_cons, List.all_nil, AV.one, Bool.and_self, Bool.true_and, List.drop_zero, List.take_succ_cons, List.take_zero, List.drop_succ_cons, List.head?_cons, Nat.reduceAdd, Nat.reduceLeDiff, List.length_cons, List.length_nil, List.nil_append, List.cons_append, List.set_cons_zero, List.set_cons_succ, Int.toNat_natCast, Nat.add_zero, b_ft, b_tf, Bool.false_eq_true]

end Go.Dv

/- The plain law: race.Find and its reference find the same races (own work). -/
namespace Go.Dv
open Go.Proofs
set_option linter.unusedSimpArgs false
set_option linter.unusedVariables false

theorem evEqB_eq {a b c d e f a' b' c' d' e' f' : Int} (h : evEqB a b c d e f a' b' c' d' e' f' = true) : a = a' ∧ b = b' ∧ c = c' ∧ d = d' ∧ e = e' ∧ f = f' := by
  simp only [evEqB, Bool.and_eq_true, beq_iff_eq] at h
  obtain ⟨h1, h2, _⟩ := h
  obtain ⟨e1, e2, e3, e4, e5⟩ := accEqB_eq h1
  exact ⟨e1, e2, e3, e4, e5, h2⟩
theorem eqv_eq {x y : E6} (h : x.eqv y = true) : x = y := by
  obtain ⟨a, b, c, d, e, f⟩ := x
  obtain ⟨a', b', c', d', e', f'⟩ := y
  obtain ⟨rfl, rfl, rfl, rfl, rfl, rfl⟩ := evEqB_eq h
  rfl
theorem eqv_self (x : E6) : x.eqv x = true := by simp [E6.eqv, evEqB, accEqB]
theorem accEq_self (x : E6) : x.accEq x = true := by simp [E6.accEq, accEqB]
theorem raceEq_self (p : E6 × E6) : raceEq p p = true := by simp [raceEq, accEq_self]
theorem racesEq_self : ∀ A : List (E6 × E6), racesEq A A = true
  | [] => rfl
  | p :: A => by simp [racesEq, raceEq_self, racesEq_self A]

theorem spotEq_spot (x y : E6) : x.spotEq y = decide (x.spot = y.spot) := by
  rw [Bool.eq_iff_iff]
  simp [E6.spotEq, spotEqB, E6.spot]
theorem race_spot (x y : E6) : x.race y = (decide (x.spot = y.spot) && x.clash y) := by rw [← spot_clash, spotEq_spot]
theorem same_spot (x y : E6) : x.same y = decide (x.spot = y.spot) := by
  rw [Bool.eq_iff_iff]
  simp only [E6.same, sameB, E6.spot, Bool.and_eq_true, Bool.or_eq_true, beq_iff_eq, decide_eq_true_eq, S3.mk.injEq]
  by_cases h : x.sp < 0
  · constructor
    · rintro ⟨⟨e1, e2⟩, e3⟩
      have hy : y.sp < 0 := by omega
      refine ⟨e1, ?_, e2⟩
      simp only [h, hy, decide_true, cond_true]
      exact e3.resolve_left (by omega)
    · rintro ⟨e1, e2, e3⟩
      have hy : y.sp < 0 := by omega
      simp only [h, hy, decide_true, cond_true] at e2
      exact ⟨⟨e1, e3⟩, .inr e2⟩
  · constructor
    · rintro ⟨⟨e1, e2⟩, e3⟩
      have hy : ¬ y.sp < 0 := by omega
      refine ⟨e1, ?_, e2⟩
      simp only [h, hy, decide_false, cond_false]
    · rintro ⟨e1, e2, e3⟩
      exact ⟨⟨e1, e3⟩, .inl (by omega)⟩

theorem firstAt_find (p : E6 → Bool) : ∀ (l : List E6) (n : Nat), (firstAt p l n = none ↔ l.find? p = none) ∧ ∀ i, firstAt p l n = some i → n ≤ i ∧ l[i - n]? = l.find? p
  | [], n => by simp [firstAt]
  | x :: xs, n => by
    obtain ⟨h1, h2⟩ := firstAt_find p xs (n + 1)
    simp only [firstAt, List.find?_cons]
    cases hp : p x with
    | true => simp
    | false =>
      simp only [Bool.false_eq_true, if_false]
      refine ⟨h1, fun i hi => ?_⟩
      obtain ⟨a, b⟩ := h2 i hi
      exact ⟨by omega, by rw [show i - n = (i - (n + 1)) + 1 by omega]; exact b⟩

theorem firstAt_map (p : E6 → Bool) (l : List E6) (x : E6) : (match firstAt p l 0 with | some i => (l[i]?.map fun y => (y, x)).toList | none => []) = ((l.find? p).map fun y => (y, x)).toList := by
  obtain ⟨h1, h2⟩ := firstAt_find p l 0
  cases h : firstAt p l 0 with
  | none => rw [h1.1 h]; rfl
  | some i =>
    obtain ⟨_, b⟩ := h2 i h
    rw [Nat.sub_zero] at b
    simp only [b]

/-- The different events of a cell, in order. -/
def dd (s : S3) (p : List E6) : List E6 := p.foldl (fun acc e => if e.spot = s ∧ acc.any e.eqv = false then acc ++ [e] else acc) []
theorem dd_snoc (s : S3) (p : List E6) (e : E6) : dd s (p ++ [e]) = if e.spot = s ∧ (dd s p).any e.eqv = false then dd s p ++ [e] else dd s p := by simp [dd]

theorem snoc_ind {P : List E6 → Prop} (h0 : P []) (h1 : ∀ p e, P p → P (p ++ [e])) (l : List E6) : P l := by
  rw [← List.reverse_reverse l]
  induction l.reverse with
  | nil => exact h0
  | cons e r ih => rw [List.reverse_cons]; exact h1 _ _ ih

theorem dd_find (x : E6) (p : List E6) : p.find? (fun e => e.race x) = (dd x.spot p).find? (fun e => e.clash x) := by
  refine snoc_ind (P := fun p => p.find? (fun e => e.race x) = (dd x.spot p).find? (fun e => e.clash x)) rfl (fun p e ih => ?_) p
  simp only [List.find?_append, dd_snoc]
  rw [ih]
  cases hf : (dd x.spot p).find? (fun e => e.clash x) with
  | some y =>
    split
    · rw [List.find?_append, hf]; rfl
    · rw [hf]; rfl
  | none =>
    simp only [Option.none_or]
    by_cases hs : e.spot = x.spot
    · cases hc : e.clash x with
      | true =>
        have hr : e.race x = true := by rw [race_spot, hc, hs]; simp
        have hna : (dd x.spot p).any e.eqv = false := by
          rw [Bool.eq_false_iff]
          intro ha
          obtain ⟨y, hy, he⟩ := List.any_eq_true.1 ha
          have := eqv_eq he
          subst this
          have := List.find?_eq_none.1 hf _ hy
          exact this hc
        rw [if_pos ⟨hs, hna⟩, List.find?_append, hf]
        simp [hr, hc]
      | false =>
        have hr : e.race x = false := by rw [race_spot, hc]; simp
        split
        · rw [List.find?_append, hf]
          simp [hr, hc]
        · rw [hf]; simp [hr]
    · have hr : e.race x = false := by rw [race_spot]; simp [hs]
      rw [if_neg (fun h => hs h.1), hf]
      simp [hr]

theorem refStep_eq (pre : List E6) (O : List (E6 × E6)) (x : E6) : refStep pre O x = if O.any (fun p => p.2.same x) = true then O else O ++ ((pre.find? fun e => e.race x).map fun y => (y, x)).toList := by
  unfold refStep
  split
  · rfl
  · rw [← firstAt_map]
    cases firstAt (fun y => y.race x) pre 0 <;> simp

theorem step_eq (st : FS) (x : E6) : st.step x = if st.found x.spot = true then st else
    match (st.kept x.spot).find? (fun y => y.clash x) with
    | some y => { st with found := fun s => decide (s = x.spot) || st.found s, out := st.out ++ [(y, x)] }
    | none => if (st.kept x.spot).any x.eqv = true then st else { st with kept := fun s => if s = x.spot then st.kept s ++ [x] else st.kept s } := by
  unfold FS.step
  obtain ⟨h1, h2⟩ := firstAt_find (fun y => y.clash x) (st.kept x.spot) 0
  split
  · rfl
  · cases h : firstAt (fun y => y.clash x) (st.kept x.spot) 0 with
    | none => rw [h1.1 h]
    | some i =>
      obtain ⟨_, b⟩ := h2 i h
      rw [Nat.sub_zero] at b
      obtain ⟨y, hy⟩ : ∃ y, (st.kept x.spot).find? (fun y => y.clash x) = some y := by
        cases hf : (st.kept x.spot).find? (fun y => y.clash x) with
        | some y => exact ⟨y, rfl⟩
        | none => rw [h1.2 hf] at h; cases h
      rw [hy] at b
      simp only [hy, b]
      rfl

/-- What the program's state is behind a beginning of the list. -/
structure Rel (p : List E6) (st : FS) (O : List (E6 × E6)) : Prop where
  out : st.out = O
  found : ∀ s, st.found s = O.any fun q => decide (q.2.spot = s)
  kept : ∀ s, st.found s = false → st.kept s = dd s p

theorem Rel.step {p : List E6} {st : FS} {O : List (E6 × E6)} (h : Rel p st O) (x : E6) : Rel (p ++ [x]) (st.step x) (refStep p O x) := by
  have hmet : (O.any fun q => q.2.same x) = st.found x.spot := by
    rw [h.found]
    congr 1
    funext q
    exact same_spot q.2 x
  rw [refStep_eq, step_eq, hmet]
  cases hf : st.found x.spot with
  | true =>
    simp only [if_true]
    refine ⟨h.out, h.found, fun s hs => ?_⟩
    rw [dd_snoc, if_neg (fun hh => ?_)]
    · exact h.kept s hs
    · rw [← hh.1, hf] at hs; cases hs
  | false =>
    simp only [Bool.false_eq_true, if_false]
    rw [dd_find, ← h.kept _ hf]
    cases hy : (st.kept x.spot).find? (fun y => y.clash x) with
    | some y =>
      refine ⟨by simp [h.out], fun s => ?_, fun s hs => ?_⟩
      · simp only [Option.map_some, Option.toList_some, List.any_append, List.any_cons, List.any_nil, Bool.or_false, h.found s]
        rw [Bool.or_comm]
        congr 1
        simp [eq_comm]
      · simp only [Bool.or_eq_false_iff, decide_eq_false_iff_not] at hs
        have hne : ¬ (x.spot = s ∧ (dd s p).any x.eqv = false) := fun hh => hs.1 hh.1.symm
        rw [dd_snoc, if_neg hne]
        exact h.kept s hs.2
    | none =>
      simp only [Option.map_none, Option.toList_none, List.append_nil]
      cases ha : (st.kept x.spot).any x.eqv with
      | true =>
        simp only [if_true]
        refine ⟨h.out, h.found, fun s hs => ?_⟩
        rw [dd_snoc, if_neg (fun hh => ?_)]
        · exact h.kept s hs
        · obtain ⟨rfl, h2⟩ := hh
          rw [← h.kept _ hs, ha] at h2
          cases h2
      | false =>
        simp only [Bool.false_eq_true, if_false]
        refine ⟨h.out, h.found, fun s hs => ?_⟩
        rw [dd_snoc]
        by_cases e : x.spot = s
        · subst e
          rw [← h.kept _ hs, if_pos ⟨rfl, ha⟩]
          simp
        · have hne : ¬ (x.spot = s ∧ (dd s p).any x.eqv = false) := fun hh => e hh.1
          have hne' : ¬ (s = x.spot) := fun hh => e hh.symm
          rw [if_neg hne]
          simp only [hne', if_false]
          exact h.kept s hs

theorem Rel.from {l : List E6} : ∀ (r : List E6) (p : List E6) (st : FS) (O : List (E6 × E6)), l = p ++ r → Rel p st O → Rel l (r.foldl FS.step st) (refFrom l r p.length O)
  | [], p, st, O, hl, h => by rw [List.append_nil] at hl; subst hl; exact h
  | x :: r, p, st, O, hl, h => by
    simp only [List.foldl_cons, refFrom]
    have ht : l.take p.length = p := by rw [hl]; simp
    rw [ht]
    have := Rel.from (l := l) r (p ++ [x]) (st.step x) (refStep p O x) (by rw [hl]; simp) (h.step x)
    simpa using this

theorem find_ref (l : List E6) : findS l = refS l := by
  have h0 : Rel [] (absF [] [] []) [] := ⟨rfl, fun s => by simp [absF], fun s _ => by simp [absF, keptL, at?, dd]⟩
  exact (Rel.from l [] _ _ (by simp) h0).out

end Go.Dv

/- The law RaceFind on abstract heaps (printed by t54.py, own work). -/
namespace Go.Dv
open Go.Proofs
set_option maxRecDepth 100000
set_option linter.unusedSimpArgs false
set_option linter.unusedVariables false
attribute [local congr] bind_congr_first

theorem law3_ev (H : AH) (v : AV) (l : List E6) (hl : l.length < 2 ^ 62) (hv : EvS H v l) : ∃ H', Ev Try.prog C4 3 [v] H = some (.bool true, H') := by
  have g0 : ([v] ++ List.replicate (52 - [v].length) undefA).length = 52 := by simp
  have g1 : ([v] ++ List.replicate (52 - [v].length) undefA).getD 0 undefA = v := rfl
  have hla := hv.evs.len
  have hln : ∀ H, lenA Try.prog 24 H .nilSlice = some (I 0) := fun H => ln24n H
  rw [fe3]
  generalize [v] ++ List.replicate (52 - [v].length) undefA = tm at *
  by_cases hmid : 150 < l.length ∧ l.length ≤ 4000
  · have h1 : decide ((l.length : Int) > 150) = true := by simp; omega
    have h2 : decide ((l.length : Int) ≤ 4000) = true := by simp; omega
    apply Exists.intro
    simp -implicitDefEqProofs only [c3, Try.f3, Option.getD_some, g0, g1, hla, h1, h2, k4_awake, ↓fc15, Bool.not_true, Bool.not_false, Bool.true_and, Bool.and_true, Bool.false_and, Bool.and_false, cond_true, cond_false, boolOf_undef, nb, beq_self_eq_true, Bool.and_self, z_e1, z_e0, ↓EvC_seq, ↓EvC_skip, ↓EvC_exit, ↓EvC_ret, ↓EvC_block, ↓EvC_cond, ↓ev_region, ↓runL_cons, ↓runL_nil, ↓stepO_none, ↓stepO_guard, ↓aop_move, ↓aop_assign, ↓aop_load, ↓aop_store, ↓aop_alloc, ↓aop_box, ↓aop_nilCheck, ↓aop_fieldAddr, ↓aop_field, ↓aop_indexAddr, ↓aop_binOp, ↓aop_pick, ↓aop_extract, ↓aop_buildSlice, ↓aop_slice, ↓aop_not, ↓aop_call, ↓callA_len, ↓callA_append, ev_tmp, ev_const, ofV_int, ofV_bool, ofV_str, ofV_nilSlice, ofV_nilPtr, putA_some, putA_none, gs_self, gs_ne, List.length_set, Option.bind_some, Option.map_some, intBinA, evL, evO, evP, ne_eq, not_false_eq_true, if_true, if_false, reduceCtorEq, ite_true, ite_false, reduceIte, put_app, AV.cells, and_true, true_and, and_self, decide_true, decide_false, ↓yielded_eq, yv_some, boolOf_bool, List.getElem?_toArray, List.getElem?_cons_zero, List.getElem?_cons_succ, Nat.reduceLT, Nat.reduceEqDiff, beq_self_eq_true, Option.some_beq_some, wr_app, wr_app0, rd_app, rd_app0, rdL_here, rdL_next, wrL_here, wrL_next, spl, List.all_cons, List.all_nil, AV.one, Bool.and_self, Bool.true_and, List.drop_zero, List.take_succ_cons, List.take_zero, List.drop_succ_cons, List.head?_cons, Nat.reduceAdd, Nat.reduceLeDiff, List.length_cons, List.length_nil, List.nil_append, List.cons_append, List.set_cons_zero, List.set_cons_succ, Int.toNat_natCast, Nat.add_zero, b_ft, b_tf, Bool.false_eq_true]
    with_reducible rfl
  · have hgo : (decide ((l.length : Int) > 150) = false) ∨ (decide ((l.length : Int) > 150) = true ∧ decide ((l.length : Int) ≤ 4000) = false) := by
      by_cases h : 150 < l.length
      · exact .inr ⟨by simp; omega, by simp; omega⟩
      · exact .inl (by simp; omega)
    cases hb : (!(decide ((l.length : Int) > 4000)) && !(l.any E6.bad))
    · have e1 := find_bad_ev hv hl hb
      have e2 := k4_valid hv.evs hl
      have e3 := k4_ref_valid hv.evs hl
      have e4 : (decide ((l.length : Int) ≤ 4000) && !(l.any E6.bad)) = false := by rw [← hb]; congr 1; rw [Bool.eq_iff_iff]; simp
      rw [hb] at e2
      rw [e4] at e3
      rcases hgo with h1 | ⟨h1, h2⟩
      · apply Exists.intro
        simp -implicitDefEqProofs only [c3, Try.f3, Option.getD_some, g0, g1, hla, hln, h1, e1, e2, e3, k4_awake, ↓fc15, ↓fc16, ↓fc17, ↓fc18, Bool.not_true, Bool.not_false, Bool.true_and, Bool.and_true, Bool.false_and, Bool.and_false, cond_true, cond_false, boolOf_undef, nb, beq_self_eq_true, Bool.and_self, z_e1, z_e0, ↓EvC_seq, ↓EvC_skip, ↓EvC_exit, ↓EvC_ret, ↓EvC_block, ↓EvC_cond, ↓ev_region, ↓runL_cons, ↓runL_nil, ↓stepO_none, ↓stepO_guard, ↓aop_move, ↓aop_assign, ↓aop_load, ↓aop_store, ↓aop_alloc, ↓aop_box, ↓aop_nilCheck, ↓aop_fieldAddr, ↓aop_field, ↓aop_indexAddr, ↓aop_binOp, ↓aop_pick, ↓aop_extract, ↓aop_buildSlice, ↓aop_slice, ↓aop_not, ↓aop_call, ↓callA_len, ↓callA_append, ev_tmp, ev_const, ofV_int, ofV_bool, ofV_str, ofV_nilSlice, ofV_nilPtr, putA_some, putA_none, gs_self, gs_ne, List.length_set, Option.bind_some, Option.map_some, intBinA, evL, evO, evP, ne_eq, not_false_eq_true, if_true, if_false, reduceCtorEq, ite_true, ite_false, reduceIte, put_app, AV.cells, and_true, true_and, and_self, decide_true, decide_false, ↓yielded_eq, yv_some, boolOf_bool, List.getElem?_toArray, List.getElem?_cons_zero, List.getElem?_cons_succ, Nat.reduceLT, Nat.reduceEqDiff, beq_self_eq_true, Option.some_beq_some, wr_app, wr_app0, rd_app, rd_app0, rdL_here, rdL_next, wrL_here, wrL_next, spl, List.all_cons, List.all_nil, AV.one, Bool.and_self, Bool.true_and, List.drop_zero, List.take_succ_cons, List.take_zero, List.drop_succ_cons, List.head?_cons, Nat.reduceAdd, Nat.reduceLeDiff, List.length_cons, List.length_nil, List.nil_append, List.cons_append, List.set_cons_zero, List.set_cons_succ, Int.toNat_natCast, Nat.add_zero, b_ft, b_tf, Bool.false_eq_true]
        with_reducible rfl
      · apply Exists.intro
        simp -implicitDefEqProofs only [c3, Try.f3, Option.getD_some, g0, g1, hla, hln, h1, h2, e1, e2, e3, k4_awake, ↓fc15, ↓fc16, ↓fc17, ↓fc18, Bool.not_true, Bool.not_false, Bool.true_and, Bool.and_true, Bool.false_and, Bool.and_false, cond_true, cond_false, boolOf_undef, nb, beq_self_eq_true, Bool.and_self, z_e1, z_e0, ↓EvC_seq, ↓EvC_skip, ↓EvC_exit, ↓EvC_ret, ↓EvC_block, ↓EvC_cond, ↓ev_region, ↓runL_cons, ↓runL_nil, ↓stepO_none, ↓stepO_guard, ↓aop_move, ↓aop_assign, ↓aop_load, ↓aop_store, ↓aop_alloc, ↓aop_box, ↓aop_nilCheck, ↓aop_fieldAddr, ↓aop_field, ↓aop_indexAddr, ↓aop_binOp, ↓aop_pick, ↓aop_extract, ↓aop_buildSlice, ↓aop_slice, ↓aop_not, ↓aop_call, ↓callA_len, ↓callA_append, ev_tmp, ev_const, ofV_int, ofV_bool, ofV_str, ofV_nilSlice, ofV_nilPtr, putA_some, putA_none, gs_self, gs_ne, List.length_set, Option.bind_some, Option.map_some, intBinA, evL, evO, evP, ne_eq, not_false_eq_true, if_true, if_false, reduceCtorEq, ite_true, ite_false, reduceIte, put_app, AV.cells, and_true, true_and, and_self, decide_true, decide_false, ↓yielded_eq, yv_some, boolOf_bool, List.getElem?_toArray, List.getElem?_cons_zero, List.getElem?_cons_succ, Nat.reduceLT, Nat.reduceEqDiff, beq_self_eq_true, Option.some_beq_some, wr_app, wr_app0, rd_app, rd_app0, rdL_here, rdL_next, wrL_here, wrL_next, spl, List.all_cons, List.all_nil, AV.one, Bool.and_self, Bool.true_and, List.drop_zero, List.take_succ_cons, List.take_zero, List.drop_succ_cons, List.head?_cons, Nat.reduceAdd, Nat.reduceLeDiff, List.length_cons, List.length_nil, List.nil_append, List.cons_append, List.set_cons_zero, List.set_cons_succ, Int.toNat_natCast, Nat.add_zero, b_ft, b_tf, Bool.false_eq_true]
        with_reducible rfl
    · have h4000 : l.length ≤ 4000 := by simp at hb; omega
      obtain ⟨H1, ov, k1, n1, good, _⟩ := find_ev hv (by omega)
      obtain ⟨r1, rl1, e1⟩ := good hb
      have hv1 := hv.same k1
      have e2 := k4_valid hv1.evs hl
      have e3 := k4_ref_valid hv1.evs hl
      have e4 : (decide ((l.length : Int) ≤ 4000) && !(l.any E6.bad)) = true := by rw [← hb]; congr 1; rw [Bool.eq_iff_iff]; simp
      rw [hb] at e2
      rw [e4] at e3
      obtain ⟨H2, ov2, k2, n2, r2, rl2, e5⟩ := ref_find_ev hv1 (by omega)
      have e6 := same_ev ((r1.keeps k2).row) r2.row (by omega)
      have e7 : (decide ((findS l).length = (refS l).length) && racesEq (findS l) (refS l)) = true := by rw [find_ref]; simp [racesEq_self]
      rw [e7] at e6
      rcases hgo with h1 | ⟨h1, h2⟩
      · apply Exists.intro
        simp -implicitDefEqProofs only [c3, Try.f3, Option.getD_some, g0, g1, hla, h1, e1, e2, e3, e5, e6, k4_awake, ↓fc15, ↓fc16, ↓fc17, ↓fc18, ↓fc19, ↓fc20, Bool.not_true, Bool.not_false, Bool.true_and, Bool.and_true, Bool.false_and, Bool.and_false, cond_true, cond_false, boolOf_undef, nb, beq_self_eq_true, Bool.and_self, z_e1, z_e0, ↓EvC_seq, ↓EvC_skip, ↓EvC_exit, ↓EvC_ret, ↓EvC_block, ↓EvC_cond, ↓ev_region, ↓runL_cons, ↓runL_nil, ↓stepO_none, ↓stepO_guard, ↓aop_move, ↓aop_assign, ↓aop_load, ↓aop_store, ↓aop_alloc, ↓aop_box, ↓aop_nilCheck, ↓aop_fieldAddr, ↓aop_field, ↓aop_indexAddr, ↓aop_binOp, ↓aop_pick, ↓aop_extract, ↓aop_buildSlice, ↓aop_slice, ↓aop_not, ↓aop_call, ↓callA_len, ↓callA_append, ev_tmp, ev_const, ofV_int, ofV_bool, ofV_str, ofV_nilSlice, ofV_nilPtr, putA_some, putA_none, gs_self, gs_ne, List.length_set, Option.bind_some, Option.map_some, intBinA, evL, evO, evP, ne_eq, not_false_eq_true, if_true, if_false, reduceCtorEq, ite_true, ite_false, reduceIte, put_app, AV.cells, and_true, true_and, and_self, decide_true, decide_false, ↓yielded_eq, yv_some, boolOf_bool, List.getElem?_toArray, List.getElem?_cons_zero, List.getElem?_cons_succ, Nat.reduceLT, Nat.reduceEqDiff, beq_self_eq_true, Option.some_beq_some, wr_app, wr_app0, rd_app, rd_app0, rdL_here, rdL_next, wrL_here, wrL_next, spl, List.all_cons, List.all_nil, AV.one, Bool.and_self, Bool.true_and, List.drop_zero, List.take_succ_cons, List.take_zero, List.drop_succ_cons, List.head?_cons, Nat.reduceAdd, Nat.reduceLeDiff, List.length_cons, List.length_nil, List.nil_append, List.cons_append, List.set_cons_zero, List.set_cons_succ, Int.toNat_natCast, Nat.add_zero, b_ft, b_tf, Bool.false_eq_true]
        with_reducible rfl
      · exfalso; simp at h2; omega

end Go.Dv
