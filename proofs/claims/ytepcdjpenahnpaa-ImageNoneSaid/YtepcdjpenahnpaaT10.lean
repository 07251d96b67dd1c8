/- image.Sum and its reference (own work). -/
import Derived.Test.YtepcdjpenahnpaaCfg
import Derived.Test.YtepcdjpenahnpaaN2
namespace Go.Dv
open Go.Proofs
set_option maxRecDepth 100000
set_option linter.unusedSimpArgs false
set_option linter.unusedVariables false
attribute [local congr] bind_congr_first

theorem und9 : Try.prog.underlying 9 = some .string := by kernel_rfl
theorem und5 : Try.prog.underlying 5 = some (.int .u8) := by kernel_rfl
theorem und78 : Try.prog.underlying 78 = some (.int .u32) := by kernel_rfl
theorem ln9 (H : AH) (s : ByteArray) : lenA Try.prog 9 H (.str s) = some (.int .i64 s.size) := by kernel_rfl

/-- The check word of the bytes from j on, d of them. -/
def sumFrom (s : ByteArray) : Nat → Nat → Int → Int
  | 0, _, acc => acc
  | d + 1, j, acc => sumFrom s d (j + 1) (IntKind.u32.wrap (IntKind.u32.wrap (acc * 31) + IntKind.u32.wrap (byteAt s j)))

theorem sum_loop {s : ByteArray} {H : AH} (hs : s.size < 2 ^ 62) : ∀ (d j : Nat) (acc : Int) (tm : List AV), s.size - j = d → j ≤ s.size →
    tm.length = 19 → tm.getD 0 undefA = .str s → tm.getD 6 undefA = I s.size → tm.getD 7 undefA = I j → tm.getD 3 undefA = .int .u32 acc →
    ∃ tm', EvC Try.prog C0 l38_0 (tm, H) = some (.exit 0, (tm', H)) ∧ tm'.length = 19 ∧ tm'.getD 3 undefA = .int .u32 (sumFrom s d j acc) := by
  intro d
  induction d with
  | zero =>
    intro j acc tm hd hj hlen h0 h6 h7 h3
    have hjl : j = s.size := by omega
    subst hjl
    have hlt : decide ((s.size : Int) < (s.size : Int)) = false := by simp
    rw [el38_0]
    simp -implicitDefEqProofs only [b38_0, atPath, Try.f38, Option.getD_some, hlen, h0, h6, h7, h3, hlt, ↓EvC_seq, ↓EvC_skip, ↓EvC_exit, ↓EvC_ret, ↓EvC_block, ↓EvC_cond, ↓ev_region, ↓runL_cons, ↓runL_nil, ↓stepO_none, ↓stepO_guard, ↓aop_move, ↓aop_assign, ↓aop_load, ↓aop_store, ↓aop_alloc, ↓aop_box, ↓aop_nilCheck, ↓aop_fieldAddr, ↓aop_field, ↓aop_indexAddr, ↓aop_binOp, ↓aop_pick, ↓aop_extract, ↓aop_buildSlice, ↓aop_slice, ↓aop_not, ↓aop_call, ↓callA_len, ↓callA_append, ev_tmp, ev_const, ofV_int, ofV_bool, ofV_str, ofV_nilSlice, ofV_nilPtr, putA_some, putA_none, gs_self, gs_ne, List.length_set, Option.bind_some, Option.map_some, intBinA, evL, evO, evP, ne_eq, not_false_eq_true, if_true, if_false, reduceCtorEq, ite_true, ite_false, reduceIte, put_app, AV.cells, and_true, true_and, and_self, decide_true, decide_false, ↓yielded_eq, yv_some, boolOf_bool, List.getElem?_toArray, List.getElem?_cons_zero, List.getElem?_cons_succ, Nat.reduceLT, Nat.reduceEqDiff, beq_self_eq_true, Option.some_beq_some, wr_app, wr_app0, rd_app, rd_app0, rdL_here, rdL_next, wrL_here, wrL_next, spl, List.all_cons, List.all_nil, AV.one, Bool.and_self, Bool.true_and, List.drop_zero, List.take_succ_cons, List.take_zero, List.drop_succ_cons, List.head?_cons, Nat.reduceAdd, Nat.reduceLeDiff, List.length_cons, List.length_nil, List.nil_append, List.cons_append, List.set_cons_zero, List.set_cons_succ, Int.toNat_natCast, Nat.add_zero, b_ft, b_tf, Bool.false_eq_true]
    refine ⟨_, rfl, by simp only [List.length_set, hlen], ?_⟩
    simp only [hlen, h3, gs_self, gs_ne, List.length_set, ne_eq, Nat.reduceEqDiff, Nat.reduceLT, not_false_eq_true, sumFrom]
  | succ d ih =>
    intro j acc tm hd hj hlen h0 h6 h7 h3
    have hlt : decide ((j : Int) < (s.size : Int)) = true := by simp; omega
    have hjj : ((0 : Int) ≤ (j : Int) ∧ (j : Int) < (s.size : Int)) = True := eq_true (by omega)
    have hw : IntKind.i64.wrap ((j : Int) + 1) = ((j + 1 : Nat) : Int) := by rw [IntWalk.i64_in _ (by omega)]; omega
    rw [el38_0]
    simp -implicitDefEqProofs only [b38_0, atPath, Try.f38, Option.getD_some, hlen, h0, h6, h7, h3, hlt, hjj, hw, ↓aop_index_str und9, ↓aop_conv und5 und78, ↓EvC_seq, ↓EvC_skip, ↓EvC_exit, ↓EvC_ret, ↓EvC_block, ↓EvC_cond, ↓ev_region, ↓runL_cons, ↓runL_nil, ↓stepO_none, ↓stepO_guard, ↓aop_move, ↓aop_assign, ↓aop_load, ↓aop_store, ↓aop_alloc, ↓aop_box, ↓aop_nilCheck, ↓aop_fieldAddr, ↓aop_field, ↓aop_indexAddr, ↓aop_binOp, ↓aop_pick, ↓aop_extract, ↓aop_buildSlice, ↓aop_slice, ↓aop_not, ↓aop_call, ↓callA_len, ↓callA_append, ev_tmp, ev_const, ofV_int, ofV_bool, ofV_str, ofV_nilSlice, ofV_nilPtr, putA_some, putA_none, gs_self, gs_ne, List.length_set, Option.bind_some, Option.map_some, intBinA, evL, evO, evP, ne_eq, not_false_eq_true, if_true, if_false, reduceCtorEq, ite_true, ite_false, reduceIte, put_app, AV.cells, and_true, true_and, and_self, decide_true, decide_false, ↓yielded_eq, yv_some, boolOf_bool, List.getElem?_toArray, List.getElem?_cons_zero, List.getElem?_cons_succ, Nat.reduceLT, Nat.reduceEqDiff, beq_self_eq_true, Option.some_beq_some, wr_app, wr_app0, rd_app, rd_app0, rdL_here, rdL_next, wrL_here, wrL_next, spl, List.all_cons, List.all_nil, AV.one, Bool.and_self, Bool.true_and, List.drop_zero, List.take_succ_cons, List.take_zero, List.drop_succ_cons, List.head?_cons, Nat.reduceAdd, Nat.reduceLeDiff, List.length_cons, List.length_nil, List.nil_append, List.cons_append, List.set_cons_zero, List.set_cons_succ, Int.toNat_natCast, Nat.add_zero, b_ft, b_tf, Bool.false_eq_true]
    generalize hX : EvC Try.prog C0 _ _ = X
    have key : ∀ (tm1 : List AV), EvC Try.prog C0 l38_0 (tm1, H) = X → tm1.length = 19 → tm1.getD 0 undefA = .str s → tm1.getD 6 undefA = I s.size → tm1.getD 7 undefA = I ((j + 1 : Nat) : Int) →
        tm1.getD 3 undefA = .int .u32 (IntKind.u32.wrap (IntKind.u32.wrap (acc * 31) + IntKind.u32.wrap (byteAt s j))) →
        ∃ tm', X = some (.exit 0, (tm', H)) ∧ tm'.length = 19 ∧ tm'.getD 3 undefA = .int .u32 (sumFrom s (d + 1) j acc) := by
      intro tm1 h g0 g1 g2 g3 g4
      obtain ⟨tm', he, hr⟩ := ih (j + 1) _ tm1 (by omega) (by omega) g0 g1 g2 g3 g4
      exact ⟨tm', h.symm.trans he, hr⟩
    exact key _ hX (by simp only [List.length_set, hlen]) (by simp only [hlen, h0, gs_self, gs_ne, List.length_set, ne_eq, Nat.reduceEqDiff, Nat.reduceLT, not_false_eq_true]) (by simp only [hlen, h6, gs_self, gs_ne, List.length_set, ne_eq, Nat.reduceEqDiff, Nat.reduceLT, not_false_eq_true]) (by simp only [hlen, gs_self, gs_ne, List.length_set, ne_eq, Nat.reduceEqDiff, Nat.reduceLT, not_false_eq_true]) (by simp only [hlen, gs_self, gs_ne, List.length_set, ne_eq, Nat.reduceEqDiff, Nat.reduceLT, not_false_eq_true])

theorem sum_ref_loop {s : ByteArray} {H : AH} (hs : s.size < 2 ^ 62) : ∀ (d j : Nat) (acc : Int) (tm : List AV), s.size - j = d → j ≤ s.size →
    tm.length = 19 → tm.getD 0 undefA = .str s → tm.getD 4 undefA = I j → tm.getD 3 undefA = .int .u32 acc →
    ∃ tm', EvC Try.prog C0 l39_0 (tm, H) = some (.exit 0, (tm', H)) ∧ tm'.length = 19 ∧ tm'.getD 3 undefA = .int .u32 (sumFrom s d j acc) := by
  intro d
  induction d with
  | zero =>
    intro j acc tm hd hj hlen h0 h7 h3
    have hjl : j = s.size := by omega
    subst hjl
    have hlt : decide ((s.size : Int) < (s.size : Int)) = false := by simp
    rw [el39_0]
    simp -implicitDefEqProofs only [b39_0, atPath, Try.f39, Option.getD_some, hlen, h0, h7, h3, hlt, ln9, ↓EvC_seq, ↓EvC_skip, ↓EvC_exit, ↓EvC_ret, ↓EvC_block, ↓EvC_cond, ↓ev_region, ↓runL_cons, ↓runL_nil, ↓stepO_none, ↓stepO_guard, ↓aop_move, ↓aop_assign, ↓aop_load, ↓aop_store, ↓aop_alloc, ↓aop_box, ↓aop_nilCheck, ↓aop_fieldAddr, ↓aop_field, ↓aop_indexAddr, ↓aop_binOp, ↓aop_pick, ↓aop_extract, ↓aop_buildSlice, ↓aop_slice, ↓aop_not, ↓aop_call, ↓callA_len, ↓callA_append, ev_tmp, ev_const, ofV_int, ofV_bool, ofV_str, ofV_nilSlice, ofV_nilPtr, putA_some, putA_none, gs_self, gs_ne, List.length_set, Option.bind_some, Option.map_some, intBinA, evL, evO, evP, ne_eq, not_false_eq_true, if_true, if_false, reduceCtorEq, ite_true, ite_false, reduceIte, put_app, AV.cells, and_true, true_and, and_self, decide_true, decide_false, ↓yielded_eq, yv_some, boolOf_bool, List.getElem?_toArray, List.getElem?_cons_zero, List.getElem?_cons_succ, Nat.reduceLT, Nat.reduceEqDiff, beq_self_eq_true, Option.some_beq_some, wr_app, wr_app0, rd_app, rd_app0, rdL_here, rdL_next, wrL_here, wrL_next, spl, List.all_cons, List.all_nil, AV.one, Bool.and_self, Bool.true_and, List.drop_zero, List.take_succ_cons, List.take_zero, List.drop_succ_cons, List.head?_cons, Nat.reduceAdd, Nat.reduceLeDiff, List.length_cons, List.length_nil, List.nil_append, List.cons_append, List.set_cons_zero, List.set_cons_succ, Int.toNat_natCast, Nat.add_zero, b_ft, b_tf, Bool.false_eq_true]
    refine ⟨_, rfl, by simp only [List.length_set, hlen], ?_⟩
    simp only [hlen, h3, gs_self, gs_ne, List.length_set, ne_eq, Nat.reduceEqDiff, Nat.reduceLT, not_false_eq_true, sumFrom]
  | succ d ih =>
    intro j acc tm hd hj hlen h0 h7 h3
    have hlt : decide ((j : Int) < (s.size : Int)) = true := by simp; omega
    have hjj : ((0 : Int) ≤ (j : Int) ∧ (j : Int) < (s.size : Int)) = True := eq_true (by omega)
    have hw : IntKind.i64.wrap ((j : Int) + 1) = ((j + 1 : Nat) : Int) := by rw [IntWalk.i64_in _ (by omega)]; omega
    have hc : (31 : Int) * acc = acc * 31 := Int.mul_comm _ _
    rw [el39_0]
    simp -implicitDefEqProofs only [b39_0, atPath, Try.f39, Option.getD_some, hlen, h0, h7, h3, hlt, hjj, hw, hc, ln9, ↓aop_index_str und9, ↓aop_conv und5 und78, ↓EvC_seq, ↓EvC_skip, ↓EvC_exit, ↓EvC_ret, ↓EvC_block, ↓EvC_cond, ↓ev_region, ↓runL_cons, ↓runL_nil, ↓stepO_none, ↓stepO_guard, ↓aop_move, ↓aop_assign, ↓aop_load, ↓aop_store, ↓aop_alloc, ↓aop_box, ↓aop_nilCheck, ↓aop_fieldAddr, ↓aop_field, ↓aop_indexAddr, ↓aop_binOp, ↓aop_pick, ↓aop_extract, ↓aop_buildSlice, ↓aop_slice, ↓aop_not, ↓aop_call, ↓callA_len, ↓callA_append, ev_tmp, ev_const, ofV_int, ofV_bool, ofV_str, ofV_nilSlice, ofV_nilPtr, putA_some, putA_none, gs_self, gs_ne, List.length_set, Option.bind_some, Option.map_some, intBinA, evL, evO, evP, ne_eq, not_false_eq_true, if_true, if_false, reduceCtorEq, ite_true, ite_false, reduceIte, put_app, AV.cells, and_true, true_and, and_self, decide_true, decide_false, ↓yielded_eq, yv_some, boolOf_bool, List.getElem?_toArray, List.getElem?_cons_zero, List.getElem?_cons_succ, Nat.reduceLT, Nat.reduceEqDiff, beq_self_eq_true, Option.some_beq_some, wr_app, wr_app0, rd_app, rd_app0, rdL_here, rdL_next, wrL_here, wrL_next, spl, List.all_cons, List.all_nil, AV.one, Bool.and_self, Bool.true_and, List.drop_zero, List.take_succ_cons, List.take_zero, List.drop_succ_cons, List.head?_cons, Nat.reduceAdd, Nat.reduceLeDiff, List.length_cons, List.length_nil, List.nil_append, List.cons_append, List.set_cons_zero, List.set_cons_succ, Int.toNat_natCast, Nat.add_zero, b_ft, b_tf, Bool.false_eq_true]
    generalize hX : EvC Try.prog C0 _ _ = X
    have key : ∀ (tm1 : List AV), EvC Try.prog C0 l39_0 (tm1, H) = X → tm1.length = 19 → tm1.getD 0 undefA = .str s → tm1.getD 4 undefA = I ((j + 1 : Nat) : Int) →
        tm1.getD 3 undefA = .int .u32 (IntKind.u32.wrap (IntKind.u32.wrap (acc * 31) + IntKind.u32.wrap (byteAt s j))) →
        ∃ tm', X = some (.exit 0, (tm', H)) ∧ tm'.length = 19 ∧ tm'.getD 3 undefA = .int .u32 (sumFrom s (d + 1) j acc) := by
      intro tm1 h g0 g1 g3 g4
      obtain ⟨tm', he, hr⟩ := ih (j + 1) _ tm1 (by omega) (by omega) g0 g1 g3 g4
      exact ⟨tm', h.symm.trans he, hr⟩
    exact key _ hX (by simp only [List.length_set, hlen]) (by simp only [hlen, h0, gs_self, gs_ne, List.length_set, ne_eq, Nat.reduceEqDiff, Nat.reduceLT, not_false_eq_true]) (by simp only [hlen, gs_self, gs_ne, List.length_set, ne_eq, Nat.reduceEqDiff, Nat.reduceLT, not_false_eq_true]) (by simp only [hlen, gs_self, gs_ne, List.length_set, ne_eq, Nat.reduceEqDiff, Nat.reduceLT, not_false_eq_true])

theorem sum_loop' {s : ByteArray} {H : AH} {tm : List AV} {X : Option (AExit × St)} (hX : EvC Try.prog C0 l38_0 (tm, H) = X) (hs : s.size < 2 ^ 62) (h : tm.length = 19) (h0 : tm.getD 0 undefA = .str s) (h6 : tm.getD 6 undefA = I s.size) (h7 : tm.getD 7 undefA = I ((0 : Nat) : Int)) (h3 : tm.getD 3 undefA = .int .u32 5) :
    ∃ tm', X = some (.exit 0, (tm', H)) ∧ tm'.length = 19 ∧ tm'.getD 3 undefA = .int .u32 (sumFrom s s.size 0 5) := by
  subst hX
  exact sum_loop hs s.size 0 5 tm (by omega) (by omega) h h0 h6 h7 h3
theorem sum_ref_loop' {s : ByteArray} {H : AH} {tm : List AV} {X : Option (AExit × St)} (hX : EvC Try.prog C0 l39_0 (tm, H) = X) (hs : s.size < 2 ^ 62) (h : tm.length = 19) (h0 : tm.getD 0 undefA = .str s) (h7 : tm.getD 4 undefA = I ((0 : Nat) : Int)) (h3 : tm.getD 3 undefA = .int .u32 5) :
    ∃ tm', X = some (.exit 0, (tm', H)) ∧ tm'.length = 19 ∧ tm'.getD 3 undefA = .int .u32 (sumFrom s s.size 0 5) := by
  subst hX
  exact sum_ref_loop hs s.size 0 5 tm (by omega) (by omega) h h0 h7 h3

theorem sum_ev {s : ByteArray} (H : AH) (hs : s.size < 2 ^ 62) : Ev Try.prog C0 38 [.str s] H = some (.int .u32 (sumFrom s s.size 0 5), H) := by
  have g0 : ([AV.str s] ++ List.replicate (19 - [AV.str s].length) undefA).length = 19 := by simp
  have g1 : ([AV.str s] ++ List.replicate (19 - [AV.str s].length) undefA).getD 0 undefA = .str s := rfl
  rw [fe38]
  generalize [AV.str s] ++ List.replicate (19 - [AV.str s].length) undefA = tm at *
  simp -implicitDefEqProofs only [c38, Try.f38, Option.getD_some, g0, g1, ln9, ↓EvC_seq, ↓EvC_skip, ↓EvC_exit, ↓EvC_ret, ↓EvC_block, ↓EvC_cond, ↓ev_region, ↓runL_cons, ↓runL_nil, ↓stepO_none, ↓stepO_guard, ↓aop_move, ↓aop_assign, ↓aop_load, ↓aop_store, ↓aop_alloc, ↓aop_box, ↓aop_nilCheck, ↓aop_fieldAddr, ↓aop_field, ↓aop_indexAddr, ↓aop_binOp, ↓aop_pick, ↓aop_extract, ↓aop_buildSlice, ↓aop_slice, ↓aop_not, ↓aop_call, ↓callA_len, ↓callA_append, ev_tmp, ev_const, ofV_int, ofV_bool, ofV_str, ofV_nilSlice, ofV_nilPtr, putA_some, putA_none, gs_self, gs_ne, List.length_set, Option.bind_some, Option.map_some, intBinA, evL, evO, evP, ne_eq, not_false_eq_true, if_true, if_false, reduceCtorEq, ite_true, ite_false, reduceIte, put_app, AV.cells, and_true, true_and, and_self, decide_true, decide_false, ↓yielded_eq, yv_some, boolOf_bool, List.getElem?_toArray, List.getElem?_cons_zero, List.getElem?_cons_succ, Nat.reduceLT, Nat.reduceEqDiff, beq_self_eq_true, Option.some_beq_some, wr_app, wr_app0, rd_app, rd_app0, rdL_here, rdL_next, wrL_here, wrL_next, spl, List.all_cons, List.all_nil, AV.one, Bool.and_self, Bool.true_and, List.drop_zero, List.take_succ_cons, List.take_zero, List.drop_succ_cons, List.head?_cons, Nat.reduceAdd, Nat.reduceLeDiff, List.length_cons, List.length_nil, List.nil_append, List.cons_append, List.set_cons_zero, List.set_cons_succ, Int.toNat_natCast, Nat.add_zero, b_ft, b_tf, Bool.false_eq_true]
  generalize hX : EvC Try.prog C0 (Code.loop _) _ = X
  obtain ⟨tm', he, hl', h3⟩ := sum_loop' hX hs (by simp only [List.length_set, g0]) (by simp only [g0, g1, gs_self, gs_ne, List.length_set, ne_eq, Nat.reduceEqDiff, Nat.reduceLT, not_false_eq_true]) (by simp only [g0, gs_self, gs_ne, List.length_set, ne_eq, Nat.reduceEqDiff, Nat.reduceLT, not_false_eq_true] <;> rfl) (by simp only [g0, gs_self, gs_ne, List.length_set, ne_eq, Nat.reduceEqDiff, Nat.reduceLT, not_false_eq_true] <;> rfl) (by simp only [g0, gs_self, gs_ne, List.length_set, ne_eq, Nat.reduceEqDiff, Nat.reduceLT, not_false_eq_true] <;> rfl)
  subst he
  simp -implicitDefEqProofs only [hl', h3, ↓EvC_seq, ↓EvC_skip, ↓EvC_exit, ↓EvC_ret, ↓EvC_block, ↓EvC_cond, ↓ev_region, ↓runL_cons, ↓runL_nil, ↓stepO_none, ↓stepO_guard, ↓aop_move, ↓aop_assign, ↓aop_load, ↓aop_store, ↓aop_alloc, ↓aop_box, ↓aop_nilCheck, ↓aop_fieldAddr, ↓aop_field, ↓aop_indexAddr, ↓aop_binOp, ↓aop_pick, ↓aop_extract, ↓aop_buildSlice, ↓aop_slice, ↓aop_not, ↓aop_call, ↓callA_len, ↓callA_append, ev_tmp, ev_const, ofV_int, ofV_bool, ofV_str, ofV_nilSlice, ofV_nilPtr, putA_some, putA_none, gs_self, gs_ne, List.length_set, Option.bind_some, Option.map_some, intBinA, evL, evO, evP, ne_eq, not_false_eq_true, if_true, if_false, reduceCtorEq, ite_true, ite_false, reduceIte, put_app, AV.cells, and_true, true_and, and_self, decide_true, decide_false, ↓yielded_eq, yv_some, boolOf_bool, List.getElem?_toArray, List.getElem?_cons_zero, List.getElem?_cons_succ, Nat.reduceLT, Nat.reduceEqDiff, beq_self_eq_true, Option.some_beq_some, wr_app, wr_app0, rd_app, rd_app0, rdL_here, rdL_next, wrL_here, wrL_next, spl, List.all_cons, List.all_nil, AV.one, Bool.and_self, Bool.true_and, List.drop_zero, List.take_succ_cons, List.take_zero, List.drop_succ_cons, List.head?_cons, Nat.reduceAdd, Nat.reduceLeDiff, List.length_cons, List.length_nil, List.nil_append, List.cons_append, List.set_cons_zero, List.set_cons_succ, Int.toNat_natCast, Nat.add_zero, b_ft, b_tf, Bool.false_eq_true]

theorem sum_ref_ev {s : ByteArray} (H : AH) (hs : s.size < 2 ^ 62) : Ev Try.prog C0 39 [.str s] H = some (.int .u32 (sumFrom s s.size 0 5), H) := by
  have g0 : ([AV.str s] ++ List.replicate (19 - [AV.str s].length) undefA).length = 19 := by simp
  have g1 : ([AV.str s] ++ List.replicate (19 - [AV.str s].length) undefA).getD 0 undefA = .str s := rfl
  rw [fe39]
  generalize [AV.str s] ++ List.replicate (19 - [AV.str s].length) undefA = tm at *
  simp -implicitDefEqProofs only [c39, Try.f39, Option.getD_some, g0, g1, ln9, ↓EvC_seq, ↓EvC_skip, ↓EvC_exit, ↓EvC_ret, ↓EvC_block, ↓EvC_cond, ↓ev_region, ↓runL_cons, ↓runL_nil, ↓stepO_none, ↓stepO_guard, ↓aop_move, ↓aop_assign, ↓aop_load, ↓aop_store, ↓aop_alloc, ↓aop_box, ↓aop_nilCheck, ↓aop_fieldAddr, ↓aop_field, ↓aop_indexAddr, ↓aop_binOp, ↓aop_pick, ↓aop_extract, ↓aop_buildSlice, ↓aop_slice, ↓aop_not, ↓aop_call, ↓callA_len, ↓callA_append, ev_tmp, ev_const, ofV_int, ofV_bool, ofV_str, ofV_nilSlice, ofV_nilPtr, putA_some, putA_none, gs_self, gs_ne, List.length_set, Option.bind_some, Option.map_some, intBinA, evL, evO, evP, ne_eq, not_false_eq_true, if_true, if_false, reduceCtorEq, ite_true, ite_false, reduceIte, put_app, AV.cells, and_true, true_and, and_self, decide_true, decide_false, ↓yielded_eq, yv_some, boolOf_bool, List.getElem?_toArray, List.getElem?_cons_zero, List.getElem?_cons_succ, Nat.reduceLT, Nat.reduceEqDiff, beq_self_eq_true, Option.some_beq_some, wr_app, wr_app0, rd_app, rd_app0, rdL_here, rdL_next, wrL_here, wrL_next, spl, List.all_cons, List.all_nil, AV.one, Bool.and_self, Bool.true_and, List.drop_zero, List.take_succ_cons, List.take_zero, List.drop_succ_cons, List.head?_cons, Nat.reduceAdd, Nat.reduceLeDiff, List.length_cons, List.length_nil, List.nil_append, List.cons_append, List.set_cons_zero, List.set_cons_succ, Int.toNat_natCast, Nat.add_zero, b_ft, b_tf, Bool.false_eq_true]
  generalize hX : EvC Try.prog C0 (Code.loop _) _ = X
  obtain ⟨tm', he, hl', h3⟩ := sum_ref_loop' hX hs (by simp only [List.length_set, g0]) (by simp only [g0, g1, gs_self, gs_ne, List.length_set, ne_eq, Nat.reduceEqDiff, Nat.reduceLT, not_false_eq_true]) (by simp only [g0, gs_self, gs_ne, List.length_set, ne_eq, Nat.reduceEqDiff, Nat.reduceLT, not_false_eq_true] <;> rfl) (by simp only [g0, gs_self, gs_ne, List.length_set, ne_eq, Nat.reduceEqDiff, Nat.reduceLT, not_false_eq_true] <;> rfl)
  subst he
  simp -implicitDefEqProofs only [hl', h3, ↓EvC_seq, ↓EvC_skip, ↓EvC_exit, ↓EvC_ret, ↓EvC_block, ↓EvC_cond, ↓ev_region, ↓runL_cons, ↓runL_nil, ↓stepO_none, ↓stepO_guard, ↓aop_move, ↓aop_assign, ↓aop_load, ↓aop_store, ↓aop_alloc, ↓aop_box, ↓aop_nilCheck, ↓aop_fieldAddr, ↓aop_field, ↓aop_indexAddr, ↓aop_binOp, ↓aop_pick, ↓aop_extract, ↓aop_buildSlice, ↓aop_slice, ↓aop_not, ↓aop_call, ↓callA_len, ↓callA_append, ev_tmp, ev_const, ofV_int, ofV_bool, ofV_str, ofV_nilSlice, ofV_nilPtr, putA_some, putA_none, gs_self, gs_ne, List.length_set, Option.bind_some, Option.map_some, intBinA, evL, evO, evP, ne_eq, not_false_eq_true, if_true, if_false, reduceCtorEq, ite_true, ite_false, reduceIte, put_app, AV.cells, and_true, true_and, and_self, decide_true, decide_false, ↓yielded_eq, yv_some, boolOf_bool, List.getElem?_toArray, List.getElem?_cons_zero, List.getElem?_cons_succ, Nat.reduceLT, Nat.reduceEqDiff, beq_self_eq_true, Option.some_beq_some, wr_app, wr_app0, rd_app, rd_app0, rdL_here, rdL_next, wrL_here, wrL_next, spl, List.all_cons, List.all_nil, AV.one, Bool.and_self, Bool.true_and, List.drop_zero, List.take_succ_cons, List.take_zero, List.drop_succ_cons, List.head?_cons, Nat.reduceAdd, Nat.reduceLeDiff, List.length_cons, List.length_nil, List.nil_append, List.cons_append, List.set_cons_zero, List.set_cons_succ, Int.toNat_natCast, Nat.add_zero, b_ft, b_tf, Bool.false_eq_true]
end Go.Dv
