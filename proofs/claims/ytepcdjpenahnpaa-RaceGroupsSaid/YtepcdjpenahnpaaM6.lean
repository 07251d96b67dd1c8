/- Texts of the evaluator and of the laws' walks, put together in the order of their build: T30, T31, T32, T33, T34, T35, T36 (own work). -/
import Derived.Test.YtepcdjpenahnpaaM5
import Derived.WalkKit
import Derived.ProofKit
import Derived.OpenShut
import Derived.ShutString
import Derived.ChangeOld
import Derived.Below
import Derived.SizedLaws

/- One round of the inner loop of race.Witness (printed by t30.py, own work). -/
namespace Go.Dv
open Go.Proofs
set_option maxRecDepth 100000
set_option linter.unusedSimpArgs false
set_option linter.unusedVariables false
attribute [local congr] bind_congr_first
theorem fa38_0 (i k : Nat) : fieldAddrA Try.prog 38 (.ptr i k) 0 = some (.ptr i k) := by kernel_rfl
theorem fa38_1 (i k : Nat) : fieldAddrA Try.prog 38 (.ptr i k) 1 = some (.ptr i (k + 5)) := by kernel_rfl
def accEqB (a b c d e a' b' c' d' e' : Int) : Bool := a == a' && (b == b' && (c == c' && (d == d' && (e == e' && true))))
def spotEqB (a b c a' b' c' : Int) : Bool := a == a' && (b == b' && (c == c' && true))
theorem eqa34 (a b c d e a' b' c' d' e' : Int) : eqVG Try.prog 34 (acc a b c d e) (acc a' b' c' d' e') = some (accEqB a b c d e a' b' c' d' e') := by kernel_rfl
theorem eqa89 (a b c a' b' c' : Int) : eqVG Try.prog 89 (.agg [I a, I b, I c]) (.agg [I a', I b', I c']) = some (spotEqB a b c a' b' c') := by kernel_rfl
def E6.accEq (x a : E6) : Bool := accEqB x.sp x.bl x.ce x.th x.ki a.sp a.bl a.ce a.th a.ki
def E6.spotEq (a b : E6) : Bool := spotEqB a.sp (bif decide (a.sp < 0) then a.bl else 0) a.ce b.sp (bif decide (b.sp < 0) then b.bl else 0) b.ce
def E6.clash (x y : E6) : Bool := clashB x.bl x.th x.ki x.ph y.bl y.th y.ki y.ph
def E6.wit (x y a b : E6) : Bool := x.accEq a && (y.accEq b && (a.spotEq b && x.clash y))
set_option maxHeartbeats 8000000 in
theorem wit_round {v : AV} {H : AH} {n : Nat} {tm : List AV} {j kk : Nat} {x y a b : E6} {i k r iy : Nat} (hi : indexAddrA Try.prog 22 v (I j) = some (.ptr i k)) (hrd : ∀ L, rdCells (H ++ L) i k 6 = some [I x.sp, I x.bl, I x.ce, I x.th, I x.ki, I x.ph])
    (hA : ∀ L, rdCells (H ++ L) r 0 5 = some [I a.sp, I a.bl, I a.ce, I a.th, I a.ki]) (hB : ∀ L, rdCells (H ++ L) r 5 5 = some [I b.sp, I b.bl, I b.ce, I b.th, I b.ki])
    (hy : ∀ L, rdCells (H ++ L) iy 0 6 = some [I y.sp, I y.bl, I y.ce, I y.th, I y.ki, I y.ph]) (hy5 : ∀ L, rdCells (H ++ L) iy 0 5 = some [I y.sp, I y.bl, I y.ce, I y.th, I y.ki]) (hj : j < n) (hn : n < 2 ^ 62)
    (hlen : tm.length = 61) (h3 : tm.getD 3 undefA = .ptr r 0) (h8 : tm.getD 8 undefA = I kk) (h9 : tm.getD 9 undefA = .ptr iy 0) (h24 : tm.getD 24 undefA = v) (h25 : tm.getD 25 undefA = I n) (h26 : tm.getD 26 undefA = I j) :
    (x.wit y a b = true ∧ ∃ tm' L, EvC Try.prog C3 l22_0 (tm, H) = some (.ret, (tm', H ++ L)) ∧ tm'.length = 61 ∧ tm'.getD 4 undefA = I j ∧ tm'.getD 5 undefA = I kk ∧ tm'.getD 6 undefA = .bool true ∧ tm'.getD 7 undefA = I 0) ∨
    (x.wit y a b = false ∧ ∃ tm' L, EvC Try.prog C3 l22_0 (tm, H) = EvC Try.prog C3 l22_0 (tm', H ++ L) ∧ tm'.length = 61 ∧ (∀ t ∈ [0, 3, 8, 9, 15, 16, 17, 24, 25], tm'.getD t undefA = tm.getD t undefA) ∧ tm'.getD 26 undefA = I ((j + 1 : Nat) : Int)) := by
  have hlt : decide ((j : Int) < (n : Int)) = true := by simp; omega
  have hw : IntKind.i64.wrap ((j : Int) + 1) = ((j + 1 : Nat) : Int) := by rw [IntWalk.i64_in _ (by omega)]; omega
  have hH : (tm, H) = (tm, H ++ []) := by simp
  have d9 := ed22_9
  simp only [d22_9, opsAt, atPath, Try.f22, Option.getD_some] at d9
  have k1 : ∀ H, Ev Try.prog C3 44 [acc a.sp a.bl a.ce a.th a.ki] H = some (.agg [I a.sp, I (bif decide (a.sp < 0) then a.bl else 0), I a.ce], H) := fun H => k3_cell H a.sp a.bl a.ce a.th a.ki
  have k2 : ∀ H, Ev Try.prog C3 44 [acc b.sp b.bl b.ce b.th b.ki] H = some (.agg [I b.sp, I (bif decide (b.sp < 0) then b.bl else 0), I b.ce], H) := fun H => k3_cell H b.sp b.bl b.ce b.th b.ki
  rw [el22_0, hH]
  · cases q0 : (accEqB x.sp x.bl x.ce x.th x.ki a.sp a.bl a.ce a.th a.ki : Bool)
    · refine .inr ⟨by simp only [E6.wit, E6.accEq, E6.spotEq, E6.clash, q0, Bool.and_self, Bool.true_and, Bool.false_and, Bool.and_true, Bool.and_false], ?_⟩
      simp -implicitDefEqProofs only [b22_0, atPath, Try.f22, Option.getD_some, hlen, h3, h8, h9, h24, h25, h26, hlt, hw, hi, hrd, hA, hB, hy, hy5, ↓fc44, ↓fc47, k1, k2, k3_clash, q0, ↓d9, ↓ld36, ↓ld34, ↓ld3, ↓st36, ↓st34, ↓st3, z36, z34, fa36_0, fa36_1, fa34_0, fa34_1, fa34_2, fa34_3, fa34_4, fa38_0, fa38_1, eqa34, eqa89, boolOf_undef, nb, ↓EvC_seq, ↓EvC_skip, ↓EvC_exit, ↓EvC_ret, ↓EvC_block, ↓EvC_cond, ↓ev_region, ↓runL_cons, ↓runL_nil, ↓stepO_none, ↓stepO_guard, ↓aop_move, ↓aop_assign, ↓aop_load, ↓aop_store, ↓aop_alloc, ↓aop_box, ↓aop_nilCheck, ↓aop_fieldAddr, ↓aop_field, ↓aop_indexAddr, ↓aop_binOp, ↓aop_pick, ↓aop_extract, ↓aop_buildSlice, ↓aop_slice, ↓aop_not, ↓aop_call, ↓callA_len, ↓callA_append, ev_tmp, ev_const, ofV_int, ofV_bool, ofV_str, ofV_nilSlice, ofV_nilPtr, putA_some, putA_none, gs_self, gs_ne, List.length_set, Option.bind_some, Option.map_some, intBinA, evL, evO, evP, ne_eq, not_false_eq_true, if_true, if_false, reduceCtorEq, ite_true, ite_false, reduceIte, put_app, AV.cells, and_true, true_and, and_self, decide_true, decide_false, ↓yielded_eq, yv_some, boolOf_bool, List.getElem?_toArray, List.getElem?_cons_zero, List.getElem?_cons_succ, Nat.reduceLT, Nat.reduceEqDiff, beq_self_eq_true, Option.some_beq_some, wr_app, wr_app0, rd_app, rd_app0, rdL_here, rdL_next, wrL_here, wrL_next, spl, List.all_cons, List.all_nil, AV.one, Bool.and_self, Bool.true_and, List.drop_zero, List.take_succ_cons, List.take_zero, List.drop_succ_cons, List.head?_cons, Nat.reduceAdd, Nat.reduceLeDiff, List.length_cons, List.length_nil, List.nil_append, List.cons_append, List.set_cons_zero, List.set_cons_succ, Int.toNat_natCast, Nat.add_zero, b_ft, b_tf, Bool.false_eq_true, ↓rp_done, ↓rp_take, ↓rp_all, ↓ra_nil, ↓ra_first, ↓ra_next, ↓quietO_none, ↓quietO_guard, ↓q_move, ↓q_assign, ↓q_pick, ↓q_binOp, ↓q_field, ↓q_fieldAddr, ↓q_indexAddr, ↓q_nilCheck, set_order, keepV_eq, stBeq_self, ↓rp_graft, put_slot, put_slot_app, List.length_append, List.append_assoc, Nat.add_assoc, ↓aop_build, evP, Bool.true_and, Bool.and_true, Bool.false_and, Bool.and_false, Bool.true_or, Bool.or_true, Bool.false_or, Bool.or_false, Bool.not_true, Bool.not_false]
      refine ⟨_, _, rfl, by simp only [List.length_set, hlen], fun t ht => ?_, by simp only [hlen, gs_self, gs_ne, List.length_set, ne_eq, Nat.reduceEqDiff, Nat.reduceLT, not_false_eq_true]⟩
      simp only [List.mem_cons, List.not_mem_nil, or_false] at ht
      rcases ht with rfl | rfl | rfl | rfl | rfl | rfl | rfl | rfl | rfl <;> simp only [hlen, gs_self, gs_ne, List.length_set, ne_eq, Nat.reduceEqDiff, Nat.reduceLT, not_false_eq_true]
    · cases q1 : (accEqB y.sp y.bl y.ce y.th y.ki b.sp b.bl b.ce b.th b.ki : Bool)
      · refine .inr ⟨by simp only [E6.wit, E6.accEq, E6.spotEq, E6.clash, q0, q1, Bool.and_self, Bool.true_and, Bool.false_and, Bool.and_true, Bool.and_false], ?_⟩
        simp -implicitDefEqProofs only [b22_0, atPath, Try.f22, Option.getD_some, hlen, h3, h8, h9, h24, h25, h26, hlt, hw, hi, hrd, hA, hB, hy, hy5, ↓fc44, ↓fc47, k1, k2, k3_clash, q0, q1, ↓d9, ↓ld36, ↓ld34, ↓ld3, ↓st36, ↓st34, ↓st3, z36, z34, fa36_0, fa36_1, fa34_0, fa34_1, fa34_2, fa34_3, fa34_4, fa38_0, fa38_1, eqa34, eqa89, boolOf_undef, nb, ↓EvC_seq, ↓EvC_skip, ↓EvC_exit, ↓EvC_ret, ↓EvC_block, ↓EvC_cond, ↓ev_region, ↓runL_cons, ↓runL_nil, ↓stepO_none, ↓stepO_guard, ↓aop_move, ↓aop_assign, ↓aop_load, ↓aop_store, ↓aop_alloc, ↓aop_box, ↓aop_nilCheck, ↓aop_fieldAddr, ↓aop_field, ↓aop_indexAddr, ↓aop_binOp, ↓aop_pick, ↓aop_extract, ↓aop_buildSlice, ↓aop_slice, ↓aop_not, ↓aop_call, ↓callA_len, ↓callA_append, ev_tmp, ev_const, ofV_int, ofV_bool, ofV_str, ofV_nilSlice, ofV_nilPtr, putA_some, putA_none, gs_self, gs_ne, List.length_set, Option.bind_some, Option.map_some, intBinA, evL, evO, evP, ne_eq, not_false_eq_true, if_true, if_false, reduceCtorEq, ite_true, ite_false, reduceIte, put_app, AV.cells, and_true, true_and, and_self, decide_true, decide_false, ↓yielded_eq, yv_some, boolOf_bool, List.getElem?_toArray, List.getElem?_cons_zero, List.getElem?_cons_succ, Nat.reduceLT, Nat.reduceEqDiff, beq_self_eq_true, Option.some_beq_some, wr_app, wr_app0, rd_app, rd_app0, rdL_here, rdL_next, wrL_here, wrL_next, spl, List.all_cons, List.all_nil, AV.one, Bool.and_self, Bool.true_and, List.drop_zero, List.take_succ_cons, List.take_zero, List.drop_succ_cons, List.head?_cons, Nat.reduceAdd, Nat.reduceLeDiff, List.length_cons, List.length_nil, List.nil_append, List.cons_append, List.set_cons_zero, List.set_cons_succ, Int.toNat_natCast, Nat.add_zero, b_ft, b_tf, Bool.false_eq_true, ↓rp_done, ↓rp_take, ↓rp_all, ↓ra_nil, ↓ra_first, ↓ra_next, ↓quietO_none, ↓quietO_guard, ↓q_move, ↓q_assign, ↓q_pick, ↓q_binOp, ↓q_field, ↓q_fieldAddr, ↓q_indexAddr, ↓q_nilCheck, set_order, keepV_eq, stBeq_self, ↓rp_graft, put_slot, put_slot_app, List.length_append, List.append_assoc, Nat.add_assoc, ↓aop_build, evP, Bool.true_and, Bool.and_true, Bool.false_and, Bool.and_false, Bool.true_or, Bool.or_true, Bool.false_or, Bool.or_false, Bool.not_true, Bool.not_false]
        refine ⟨_, _, rfl, by simp only [List.length_set, hlen], fun t ht => ?_, by simp only [hlen, gs_self, gs_ne, List.length_set, ne_eq, Nat.reduceEqDiff, Nat.reduceLT, not_false_eq_true]⟩
        simp only [List.mem_cons, List.not_mem_nil, or_false] at ht
        rcases ht with rfl | rfl | rfl | rfl | rfl | rfl | rfl | rfl | rfl <;> simp only [hlen, gs_self, gs_ne, List.length_set, ne_eq, Nat.reduceEqDiff, Nat.reduceLT, not_false_eq_true]
      · cases q2 : (spotEqB a.sp (bif decide (a.sp < 0) then a.bl else 0) a.ce b.sp (bif decide (b.sp < 0) then b.bl else 0) b.ce : Bool)
        · refine .inr ⟨by simp only [E6.wit, E6.accEq, E6.spotEq, E6.clash, q0, q1, q2, Bool.and_self, Bool.true_and, Bool.false_and, Bool.and_true, Bool.and_false], ?_⟩
          simp -implicitDefEqProofs only [b22_0, atPath, Try.f22, Option.getD_some, hlen, h3, h8, h9, h24, h25, h26, hlt, hw, hi, hrd, hA, hB, hy, hy5, ↓fc44, ↓fc47, k1, k2, k3_clash, q0, q1, q2, ↓d9, ↓ld36, ↓ld34, ↓ld3, ↓st36, ↓st34, ↓st3, z36, z34, fa36_0, fa36_1, fa34_0, fa34_1, fa34_2, fa34_3, fa34_4, fa38_0, fa38_1, eqa34, eqa89, boolOf_undef, nb, ↓EvC_seq, ↓EvC_skip, ↓EvC_exit, ↓EvC_ret, ↓EvC_block, ↓EvC_cond, ↓ev_region, ↓runL_cons, ↓runL_nil, ↓stepO_none, ↓stepO_guard, ↓aop_move, ↓aop_assign, ↓aop_load, ↓aop_store, ↓aop_alloc, ↓aop_box, ↓aop_nilCheck, ↓aop_fieldAddr, ↓aop_field, ↓aop_indexAddr, ↓aop_binOp, ↓aop_pick, ↓aop_extract, ↓aop_buildSlice, ↓aop_slice, ↓aop_not, ↓aop_call, ↓callA_len, ↓callA_append, ev_tmp, ev_const, ofV_int, ofV_bool, ofV_str, ofV_nilSlice, ofV_nilPtr, putA_some, putA_none, gs_self, gs_ne, List.length_set, Option.bind_some, Option.map_some, intBinA, evL, evO, evP, ne_eq, not_false_eq_true, if_true, if_false, reduceCtorEq, ite_true, ite_false, reduceIte, put_app, AV.cells, and_true, true_and, and_self, decide_true, decide_false, ↓yielded_eq, yv_some, boolOf_bool, List.getElem?_toArray, List.getElem?_cons_zero, List.getElem?_cons_succ, Nat.reduceLT, Nat.reduceEqDiff, beq_self_eq_true, Option.some_beq_some, wr_app, wr_app0, rd_app, rd_app0, rdL_here, rdL_next, wrL_here, wrL_next, spl, List.all_cons, List.all_nil, AV.one, Bool.and_self, Bool.true_and, List.drop_zero, List.take_succ_cons, List.take_zero, List.drop_succ_cons, List.head?_cons, Nat.reduceAdd, Nat.reduceLeDiff, List.length_cons, List.length_nil, List.nil_append, List.cons_append, List.set_cons_zero, List.set_cons_succ, Int.toNat_natCast, Nat.add_zero, b_ft, b_tf, Bool.false_eq_true, ↓rp_done, ↓rp_take, ↓rp_all, ↓ra_nil, ↓ra_first, ↓ra_next, ↓quietO_none, ↓quietO_guard, ↓q_move, ↓q_assign, ↓q_pick, ↓q_binOp, ↓q_field, ↓q_fieldAddr, ↓q_indexAddr, ↓q_nilCheck, set_order, keepV_eq, stBeq_self, ↓rp_graft, put_slot, put_slot_app, List.length_append, List.append_assoc, Nat.add_assoc, ↓aop_build, evP, Bool.true_and, Bool.and_true, Bool.false_and, Bool.and_false, Bool.true_or, Bool.or_true, Bool.false_or, Bool.or_false, Bool.not_true, Bool.not_false]
          refine ⟨_, _, rfl, by simp only [List.length_set, hlen], fun t ht => ?_, by simp only [hlen, gs_self, gs_ne, List.length_set, ne_eq, Nat.reduceEqDiff, Nat.reduceLT, not_false_eq_true]⟩
          simp only [List.mem_cons, List.not_mem_nil, or_false] at ht
          rcases ht with rfl | rfl | rfl | rfl | rfl | rfl | rfl | rfl | rfl <;> simp only [hlen, gs_self, gs_ne, List.length_set, ne_eq, Nat.reduceEqDiff, Nat.reduceLT, not_false_eq_true]
        · cases q3 : (clashB x.bl x.th x.ki x.ph y.bl y.th y.ki y.ph : Bool)
          · refine .inr ⟨by simp only [E6.wit, E6.accEq, E6.spotEq, E6.clash, q0, q1, q2, q3, Bool.and_self, Bool.true_and, Bool.false_and, Bool.and_true, Bool.and_false], ?_⟩
            simp -implicitDefEqProofs only [b22_0, atPath, Try.f22, Option.getD_some, hlen, h3, h8, h9, h24, h25, h26, hlt, hw, hi, hrd, hA, hB, hy, hy5, ↓fc44, ↓fc47, k1, k2, k3_clash, q0, q1, q2, q3, ↓d9, ↓ld36, ↓ld34, ↓ld3, ↓st36, ↓st34, ↓st3, z36, z34, fa36_0, fa36_1, fa34_0, fa34_1, fa34_2, fa34_3, fa34_4, fa38_0, fa38_1, eqa34, eqa89, boolOf_undef, nb, ↓EvC_seq, ↓EvC_skip, ↓EvC_exit, ↓EvC_ret, ↓EvC_block, ↓EvC_cond, ↓ev_region, ↓runL_cons, ↓runL_nil, ↓stepO_none, ↓stepO_guard, ↓aop_move, ↓aop_assign, ↓aop_load, ↓aop_store, ↓aop_alloc, ↓aop_box, ↓aop_nilCheck, ↓aop_fieldAddr, ↓aop_field, ↓aop_indexAddr, ↓aop_binOp, ↓aop_pick, ↓aop_extract, ↓aop_buildSlice, ↓aop_slice, ↓aop_not, ↓aop_call, ↓callA_len, ↓callA_append, ev_tmp, ev_const, ofV_int, ofV_bool, ofV_str, ofV_nilSlice, ofV_nilPtr, putA_some, putA_none, gs_self, gs_ne, List.length_set, Option.bind_some, Option.map_some, intBinA, evL, evO, evP, ne_eq, not_false_eq_true, if_true, if_false, reduceCtorEq, ite_true, ite_false, reduceIte, put_app, AV.cells, and_true, true_and, and_self, decide_true, decide_false, ↓yielded_eq, yv_some, boolOf_bool, List.getElem?_toArray, List.getElem?_cons_zero, List.getElem?_cons_succ, Nat.reduceLT, Nat.reduceEqDiff, beq_self_eq_true, Option.some_beq_some, wr_app, wr_app0, rd_app, rd_app0, rdL_here, rdL_next, wrL_here, wrL_next, spl, List.all_cons, List.all_nil, AV.one, Bool.and_self, Bool.true_and, List.drop_zero, List.take_succ_cons, List.take_zero, List.drop_succ_cons, List.head?_cons, Nat.reduceAdd, Nat.reduceLeDiff, List.length_cons, List.length_nil, List.nil_append, List.cons_append, List.set_cons_zero, List.set_cons_succ, Int.toNat_natCast, Nat.add_zero, b_ft, b_tf, Bool.false_eq_true, ↓rp_done, ↓rp_take, ↓rp_all, ↓ra_nil, ↓ra_first, ↓ra_next, ↓quietO_none, ↓quietO_guard, ↓q_move, ↓q_assign, ↓q_pick, ↓q_binOp, ↓q_field, ↓q_fieldAddr, ↓q_indexAddr, ↓q_nilCheck, set_order, keepV_eq, stBeq_self, ↓rp_graft, put_slot, put_slot_app, List.length_append, List.append_assoc, Nat.add_assoc, ↓aop_build, evP, Bool.true_and, Bool.and_true, Bool.false_and, Bool.and_false, Bool.true_or, Bool.or_true, Bool.false_or, Bool.or_false, Bool.not_true, Bool.not_false]
            refine ⟨_, _, rfl, by simp only [List.length_set, hlen], fun t ht => ?_, by simp only [hlen, gs_self, gs_ne, List.length_set, ne_eq, Nat.reduceEqDiff, Nat.reduceLT, not_false_eq_true]⟩
            simp only [List.mem_cons, List.not_mem_nil, or_false] at ht
            rcases ht with rfl | rfl | rfl | rfl | rfl | rfl | rfl | rfl | rfl <;> simp only [hlen, gs_self, gs_ne, List.length_set, ne_eq, Nat.reduceEqDiff, Nat.reduceLT, not_false_eq_true]
          · refine .inl ⟨by simp only [E6.wit, E6.accEq, E6.spotEq, E6.clash, q0, q1, q2, q3, Bool.and_self, Bool.true_and, Bool.false_and, Bool.and_true, Bool.and_false], ?_⟩
            simp -implicitDefEqProofs only [b22_0, atPath, Try.f22, Option.getD_some, hlen, h3, h8, h9, h24, h25, h26, hlt, hw, hi, hrd, hA, hB, hy, hy5, ↓fc44, ↓fc47, k1, k2, k3_clash, q0, q1, q2, q3, ↓d9, ↓ld36, ↓ld34, ↓ld3, ↓st36, ↓st34, ↓st3, z36, z34, fa36_0, fa36_1, fa34_0, fa34_1, fa34_2, fa34_3, fa34_4, fa38_0, fa38_1, eqa34, eqa89, boolOf_undef, nb, ↓EvC_seq, ↓EvC_skip, ↓EvC_exit, ↓EvC_ret, ↓EvC_block, ↓EvC_cond, ↓ev_region, ↓runL_cons, ↓runL_nil, ↓stepO_none, ↓stepO_guard, ↓aop_move, ↓aop_assign, ↓aop_load, ↓aop_store, ↓aop_alloc, ↓aop_box, ↓aop_nilCheck, ↓aop_fieldAddr, ↓aop_field, ↓aop_indexAddr, ↓aop_binOp, ↓aop_pick, ↓aop_extract, ↓aop_buildSlice, ↓aop_slice, ↓aop_not, ↓aop_call, ↓callA_len, ↓callA_append, ev_tmp, ev_const, ofV_int, ofV_bool, ofV_str, ofV_nilSlice, ofV_nilPtr, putA_some, putA_none, gs_self, gs_ne, List.length_set, Option.bind_some, Option.map_some, intBinA, evL, evO, evP, ne_eq, not_false_eq_true, if_true, if_false, reduceCtorEq, ite_true, ite_false, reduceIte, put_app, AV.cells, and_true, true_and, and_self, decide_true, decide_false, ↓yielded_eq, yv_some, boolOf_bool, List.getElem?_toArray, List.getElem?_cons_zero, List.getElem?_cons_succ, Nat.reduceLT, Nat.reduceEqDiff, beq_self_eq_true, Option.some_beq_some, wr_app, wr_app0, rd_app, rd_app0, rdL_here, rdL_next, wrL_here, wrL_next, spl, List.all_cons, List.all_nil, AV.one, Bool.and_self, Bool.true_and, List.drop_zero, List.take_succ_cons, List.take_zero, List.drop_succ_cons, List.head?_cons, Nat.reduceAdd, Nat.reduceLeDiff, List.length_cons, List.length_nil, List.nil_append, List.cons_append, List.set_cons_zero, List.set_cons_succ, Int.toNat_natCast, Nat.add_zero, b_ft, b_tf, Bool.false_eq_true, ↓rp_done, ↓rp_take, ↓rp_all, ↓ra_nil, ↓ra_first, ↓ra_next, ↓quietO_none, ↓quietO_guard, ↓q_move, ↓q_assign, ↓q_pick, ↓q_binOp, ↓q_field, ↓q_fieldAddr, ↓q_indexAddr, ↓q_nilCheck, set_order, keepV_eq, stBeq_self, ↓rp_graft, put_slot, put_slot_app, List.length_append, List.append_assoc, Nat.add_assoc, ↓aop_build, evP, Bool.true_and, Bool.and_true, Bool.false_and, Bool.and_false, Bool.true_or, Bool.or_true, Bool.false_or, Bool.or_false, Bool.not_true, Bool.not_false]
            exact ⟨_, _, rfl, by simp only [List.length_set, hlen], by simp only [hlen, gs_self, gs_ne, List.length_set, ne_eq, Nat.reduceEqDiff, Nat.reduceLT, not_false_eq_true], by simp only [hlen, gs_self, gs_ne, List.length_set, ne_eq, Nat.reduceEqDiff, Nat.reduceLT, not_false_eq_true], by simp only [hlen, gs_self, gs_ne, List.length_set, ne_eq, Nat.reduceEqDiff, Nat.reduceLT, not_false_eq_true], by simp only [hlen, gs_self, gs_ne, List.length_set, ne_eq, Nat.reduceEqDiff, Nat.reduceLT, not_false_eq_true]⟩
end Go.Dv

/- One round of the inner loop of ref21.Witness (printed by t31.py, own work). -/
namespace Go.Dv
open Go.Proofs
set_option maxRecDepth 100000
set_option linter.unusedSimpArgs false
set_option linter.unusedVariables false
attribute [local congr] bind_congr_first
def E6.race (x y : E6) : Bool := raceB x.sp x.bl x.ce x.th x.ki x.ph y.sp y.bl y.ce y.th y.ki y.ph
def E6.wit' (x y a b : E6) : Bool := x.accEq a && (y.accEq b && x.race y)
set_option maxHeartbeats 8000000 in
theorem ref_wit_round {v : AV} {H : AH} {tm : List AV} {j kk : Nat} {x y a b : E6} {i k r i' k' : Nat} (hi : indexAddrA Try.prog 22 v (I j) = some (.ptr i k)) (hrd : ∀ L, rdCells (H ++ L) i k 6 = some [I x.sp, I x.bl, I x.ce, I x.th, I x.ki, I x.ph])
    (hrd5 : ∀ L, rdCells (H ++ L) i k 5 = some [I x.sp, I x.bl, I x.ce, I x.th, I x.ki])
    (hA : ∀ L, rdCells (H ++ L) r 0 5 = some [I a.sp, I a.bl, I a.ce, I a.th, I a.ki]) (hB : ∀ L, rdCells (H ++ L) r 5 5 = some [I b.sp, I b.bl, I b.ce, I b.th, I b.ki])
    (hi' : indexAddrA Try.prog 22 v (I kk) = some (.ptr i' k')) (hy : ∀ L, rdCells (H ++ L) i' k' 6 = some [I y.sp, I y.bl, I y.ce, I y.th, I y.ki, I y.ph]) (hy5 : ∀ L, rdCells (H ++ L) i' k' 5 = some [I y.sp, I y.bl, I y.ce, I y.th, I y.ki]) (hj : j < kk) (hn : kk < 2 ^ 62)
    (hlen : tm.length = 51) (h0 : tm.getD 0 undefA = v) (h3 : tm.getD 3 undefA = .ptr r 0) (h7 : tm.getD 7 undefA = I kk) (h8 : tm.getD 8 undefA = I j) :
    (x.wit' y a b = true ∧ ∃ tm' L, EvC Try.prog C3 l23_0 (tm, H) = some (.ret, (tm', H ++ L)) ∧ tm'.length = 51 ∧ tm'.getD 4 undefA = I j ∧ tm'.getD 5 undefA = I kk ∧ tm'.getD 6 undefA = .bool true) ∨
    (x.wit' y a b = false ∧ ∃ tm' L, EvC Try.prog C3 l23_0 (tm, H) = EvC Try.prog C3 l23_0 (tm', H ++ L) ∧ tm'.length = 51 ∧ (∀ t ∈ [0, 3, 7], tm'.getD t undefA = tm.getD t undefA) ∧ tm'.getD 8 undefA = I ((j + 1 : Nat) : Int)) := by
  have hlt : decide ((j : Int) < (kk : Int)) = true := by simp; omega
  have hw : IntKind.i64.wrap ((j : Int) + 1) = ((j + 1 : Nat) : Int) := by rw [IntWalk.i64_in _ (by omega)]; omega
  have hH : (tm, H) = (tm, H ++ []) := by simp
  have d9 := ed23_7
  simp only [d23_7, opsAt, atPath, Try.f23, Option.getD_some] at d9
  rw [el23_0, hH]
  · cases q0 : (accEqB x.sp x.bl x.ce x.th x.ki a.sp a.bl a.ce a.th a.ki : Bool)
    · refine .inr ⟨by simp only [E6.wit', E6.accEq, E6.race, q0, Bool.and_self, Bool.true_and, Bool.false_and, Bool.and_true, Bool.and_false], ?_⟩
      simp -implicitDefEqProofs only [b23_0, atPath, Try.f23, Option.getD_some, hlen, h0, h3, h7, h8, hlt, hw, hi, hi', hrd, hrd5, hA, hB, hy, hy5, ↓fc24, k3_race, q0, ↓d9, ↓ld36, ↓ld34, ↓ld3, ↓st36, ↓st34, ↓st3, z36, z34, fa36_0, fa36_1, fa34_0, fa34_1, fa34_2, fa34_3, fa34_4, fa38_0, fa38_1, eqa34, eqa89, boolOf_undef, nb, ↓EvC_seq, ↓EvC_skip, ↓EvC_exit, ↓EvC_ret, ↓EvC_block, ↓EvC_cond, ↓ev_region, ↓runL_cons, ↓runL_nil, ↓stepO_none, ↓stepO_guard, ↓aop_move, ↓aop_assign, ↓aop_load, ↓aop_store, ↓aop_alloc, ↓aop_box, ↓aop_nilCheck, ↓aop_fieldAddr, ↓aop_field, ↓aop_indexAddr, ↓aop_binOp, ↓aop_pick, ↓aop_extract, ↓aop_buildSlice, ↓aop_slice, ↓aop_not, ↓aop_call, ↓callA_len, ↓callA_append, ev_tmp, ev_const, ofV_int, ofV_bool, ofV_str, ofV_nilSlice, ofV_nilPtr, putA_some, putA_none, gs_self, gs_ne, List.length_set, Option.bind_some, Option.map_some, intBinA, evL, evO, evP, ne_eq, not_false_eq_true, if_true, if_false, reduceCtorEq, ite_true, ite_false, reduceIte, put_app, AV.cells, and_true, true_and, and_self, decide_true, decide_false, ↓yielded_eq, yv_some, boolOf_bool, List.getElem?_toArray, List.getElem?_cons_zero, List.getElem?_cons_succ, Nat.reduceLT, Nat.reduceEqDiff, beq_self_eq_true, Option.some_beq_some, wr_app, wr_app0, rd_app, rd_app0, rdL_here, rdL_next, wrL_here, wrL_next, spl, List.all_cons, List.all_nil, AV.one, Bool.and_self, Bool.true_and, List.drop_zero, List.take_succ_cons, List.take_zero, List.drop_succ_cons, List.head?_cons, Nat.reduceAdd, Nat.reduceLeDiff, List.length_cons, List.length_nil, List.nil_append, List.cons_append, List.set_cons_zero, List.set_cons_succ, Int.toNat_natCast, Nat.add_zero, b_ft, b_tf, Bool.false_eq_true, ↓rp_done, ↓rp_take, ↓rp_all, ↓ra_nil, ↓ra_first, ↓ra_next, ↓quietO_none, ↓quietO_guard, ↓q_move, ↓q_assign, ↓q_pick, ↓q_binOp, ↓q_field, ↓q_fieldAddr, ↓q_indexAddr, ↓q_nilCheck, set_order, keepV_eq, stBeq_self, ↓rp_graft, put_slot, put_slot_app, List.length_append, List.append_assoc, Nat.add_assoc, ↓aop_build, evP, Bool.true_and, Bool.and_true, Bool.false_and, Bool.and_false, Bool.true_or, Bool.or_true, Bool.false_or, Bool.or_false, Bool.not_true, Bool.not_false]
      refine ⟨_, _, rfl, by simp only [List.length_set, hlen], fun t ht => ?_, by simp only [hlen, gs_self, gs_ne, List.length_set, ne_eq, Nat.reduceEqDiff, Nat.reduceLT, not_false_eq_true]⟩
      simp only [List.mem_cons, List.not_mem_nil, or_false] at ht
      rcases ht with rfl | rfl | rfl <;> simp only [hlen, gs_self, gs_ne, List.length_set, ne_eq, Nat.reduceEqDiff, Nat.reduceLT, not_false_eq_true]
    · cases q1 : (accEqB y.sp y.bl y.ce y.th y.ki b.sp b.bl b.ce b.th b.ki : Bool)
      · refine .inr ⟨by simp only [E6.wit', E6.accEq, E6.race, q0, q1, Bool.and_self, Bool.true_and, Bool.false_and, Bool.and_true, Bool.and_false], ?_⟩
        simp -implicitDefEqProofs only [b23_0, atPath, Try.f23, Option.getD_some, hlen, h0, h3, h7, h8, hlt, hw, hi, hi', hrd, hrd5, hA, hB, hy, hy5, ↓fc24, k3_race, q0, q1, ↓d9, ↓ld36, ↓ld34, ↓ld3, ↓st36, ↓st34, ↓st3, z36, z34, fa36_0, fa36_1, fa34_0, fa34_1, fa34_2, fa34_3, fa34_4, fa38_0, fa38_1, eqa34, eqa89, boolOf_undef, nb, ↓EvC_seq, ↓EvC_skip, ↓EvC_exit, ↓EvC_ret, ↓EvC_block, ↓EvC_cond, ↓ev_region, ↓runL_cons, ↓runL_nil, ↓stepO_none, ↓stepO_guard, ↓aop_move, ↓aop_assign, ↓aop_load, ↓aop_store, ↓aop_alloc, ↓aop_box, ↓aop_nilCheck, ↓aop_fieldAddr, ↓aop_field, ↓aop_indexAddr, ↓aop_binOp, ↓aop_pick, ↓aop_extract, ↓aop_buildSlice, ↓aop_slice, ↓aop_not, ↓aop_call, ↓callA_len, ↓callA_append, ev_tmp, ev_const, ofV_int, ofV_bool, ofV_str, ofV_nilSlice, ofV_nilPtr, putA_some, putA_none, gs_self, gs_ne, List.length_set, Option.bind_some, Option.map_some, intBinA, evL, evO, evP, ne_eq, not_false_eq_true, if_true, if_false, reduceCtorEq, ite_true, ite_false, reduceIte, put_app, AV.cells, and_true, true_and, and_self, decide_true, decide_false, ↓yielded_eq, yv_some, boolOf_bool, List.getElem?_toArray, List.getElem?_cons_zero, List.getElem?_cons_succ, Nat.reduceLT, Nat.reduceEqDiff, beq_self_eq_true, Option.some_beq_some, wr_app, wr_app0, rd_app, rd_app0, rdL_here, rdL_next, wrL_here, wrL_next, spl, List.all_cons, List.all_nil, AV.one, Bool.and_self, Bool.true_and, List.drop_zero, List.take_succ_cons, List.take_zero, List.drop_succ_cons, List.head?_cons, Nat.reduceAdd, Nat.reduceLeDiff, List.length_cons, List.length_nil, List.nil_append, List.cons_append, List.set_cons_zero, List.set_cons_succ, Int.toNat_natCast, Nat.add_zero, b_ft, b_tf, Bool.false_eq_true, ↓rp_done, ↓rp_take, ↓rp_all, ↓ra_nil, ↓ra_first, ↓ra_next, ↓quietO_none, ↓quietO_guard, ↓q_move, ↓q_assign, ↓q_pick, ↓q_binOp, ↓q_field, ↓q_fieldAddr, ↓q_indexAddr, ↓q_nilCheck, set_order, keepV_eq, stBeq_self, ↓rp_graft, put_slot, put_slot_app, List.length_append, List.append_assoc, Nat.add_assoc, ↓aop_build, evP, Bool.true_and, Bool.and_true, Bool.false_and, Bool.and_false, Bool.true_or, Bool.or_true, Bool.false_or, Bool.or_false, Bool.not_true, Bool.not_false]
        refine ⟨_, _, rfl, by simp only [List.length_set, hlen], fun t ht => ?_, by simp only [hlen, gs_self, gs_ne, List.length_set, ne_eq, Nat.reduceEqDiff, Nat.reduceLT, not_false_eq_true]⟩
        simp only [List.mem_cons, List.not_mem_nil, or_false] at ht
        rcases ht with rfl | rfl | rfl <;> simp only [hlen, gs_self, gs_ne, List.length_set, ne_eq, Nat.reduceEqDiff, Nat.reduceLT, not_false_eq_true]
      · cases q2 : (raceB x.sp x.bl x.ce x.th x.ki x.ph y.sp y.bl y.ce y.th y.ki y.ph : Bool)
        · refine .inr ⟨by simp only [E6.wit', E6.accEq, E6.race, q0, q1, q2, Bool.and_self, Bool.true_and, Bool.false_and, Bool.and_true, Bool.and_false], ?_⟩
          simp -implicitDefEqProofs only [b23_0, atPath, Try.f23, Option.getD_some, hlen, h0, h3, h7, h8, hlt, hw, hi, hi', hrd, hrd5, hA, hB, hy, hy5, ↓fc24, k3_race, q0, q1, q2, ↓d9, ↓ld36, ↓ld34, ↓ld3, ↓st36, ↓st34, ↓st3, z36, z34, fa36_0, fa36_1, fa34_0, fa34_1, fa34_2, fa34_3, fa34_4, fa38_0, fa38_1, eqa34, eqa89, boolOf_undef, nb, ↓EvC_seq, ↓EvC_skip, ↓EvC_exit, ↓EvC_ret, ↓EvC_block, ↓EvC_cond, ↓ev_region, ↓runL_cons, ↓runL_nil, ↓stepO_none, ↓stepO_guard, ↓aop_move, ↓aop_assign, ↓aop_load, ↓aop_store, ↓aop_alloc, ↓aop_box, ↓aop_nilCheck, ↓aop_fieldAddr, ↓aop_field, ↓aop_indexAddr, ↓aop_binOp, ↓aop_pick, ↓aop_extract, ↓aop_buildSlice, ↓aop_slice, ↓aop_not, ↓aop_call, ↓callA_len, ↓callA_append, ev_tmp, ev_const, ofV_int, ofV_bool, ofV_str, ofV_nilSlice, ofV_nilPtr, putA_some, putA_none, gs_self, gs_ne, List.length_set, Option.bind_some, Option.map_some, intBinA, evL, evO, evP, ne_eq, not_false_eq_true, if_true, if_false, reduceCtorEq, ite_true, ite_false, reduceIte, put_app, AV.cells, and_true, true_and, and_self, decide_true, decide_false, ↓yielded_eq, yv_some, boolOf_bool, List.getElem?_toArray, List.getElem?_cons_zero, List.getElem?_cons_succ, Nat.reduceLT, Nat.reduceEqDiff, beq_self_eq_true, Option.some_beq_some, wr_app, wr_app0, rd_app, rd_app0, rdL_here, rdL_next, wrL_here, wrL_next, spl, List.all_cons, List.all_nil, AV.one, Bool.and_self, Bool.true_and, List.drop_zero, List.take_succ_cons, List.take_zero, List.drop_succ_cons, List.head?_cons, Nat.reduceAdd, Nat.reduceLeDiff, List.length_cons, List.length_nil, List.nil_append, List.cons_append, List.set_cons_zero, List.set_cons_succ, Int.toNat_natCast, Nat.add_zero, b_ft, b_tf, Bool.false_eq_true, ↓rp_done, ↓rp_take, ↓rp_all, ↓ra_nil, ↓ra_first, ↓ra_next, ↓quietO_none, ↓quietO_guard, ↓q_move, ↓q_assign, ↓q_pick, ↓q_binOp, ↓q_field, ↓q_fieldAddr, ↓q_indexAddr, ↓q_nilCheck, set_order, keepV_eq, stBeq_self, ↓rp_graft, put_slot, put_slot_app, List.length_append, List.append_assoc, Nat.add_assoc, ↓aop_build, evP, Bool.true_and, Bool.and_true, Bool.false_and, Bool.and_false, Bool.true_or, Bool.or_true, Bool.false_or, Bool.or_false, Bool.not_true, Bool.not_false]
          refine ⟨_, _, rfl, by simp only [List.length_set, hlen], fun t ht => ?_, by simp only [hlen, gs_self, gs_ne, List.length_set, ne_eq, Nat.reduceEqDiff, Nat.reduceLT, not_false_eq_true]⟩
          simp only [List.mem_cons, List.not_mem_nil, or_false] at ht
          rcases ht with rfl | rfl | rfl <;> simp only [hlen, gs_self, gs_ne, List.length_set, ne_eq, Nat.reduceEqDiff, Nat.reduceLT, not_false_eq_true]
        · refine .inl ⟨by simp only [E6.wit', E6.accEq, E6.race, q0, q1, q2, Bool.and_self, Bool.true_and, Bool.false_and, Bool.and_true, Bool.and_false], ?_⟩
          simp -implicitDefEqProofs only [b23_0, atPath, Try.f23, Option.getD_some, hlen, h0, h3, h7, h8, hlt, hw, hi, hi', hrd, hrd5, hA, hB, hy, hy5, ↓fc24, k3_race, q0, q1, q2, ↓d9, ↓ld36, ↓ld34, ↓ld3, ↓st36, ↓st34, ↓st3, z36, z34, fa36_0, fa36_1, fa34_0, fa34_1, fa34_2, fa34_3, fa34_4, fa38_0, fa38_1, eqa34, eqa89, boolOf_undef, nb, ↓EvC_seq, ↓EvC_skip, ↓EvC_exit, ↓EvC_ret, ↓EvC_block, ↓EvC_cond, ↓ev_region, ↓runL_cons, ↓runL_nil, ↓stepO_none, ↓stepO_guard, ↓aop_move, ↓aop_assign, ↓aop_load, ↓aop_store, ↓aop_alloc, ↓aop_box, ↓aop_nilCheck, ↓aop_fieldAddr, ↓aop_field, ↓aop_indexAddr, ↓aop_binOp, ↓aop_pick, ↓aop_extract, ↓aop_buildSlice, ↓aop_slice, ↓aop_not, ↓aop_call, ↓callA_len, ↓callA_append, ev_tmp, ev_const, ofV_int, ofV_bool, ofV_str, ofV_nilSlice, ofV_nilPtr, putA_some, putA_none, gs_self, gs_ne, List.length_set, Option.bind_some, Option.map_some, intBinA, evL, evO, evP, ne_eq, not_false_eq_true, if_true, if_false, reduceCtorEq, ite_true, ite_false, reduceIte, put_app, AV.cells, and_true, true_and, and_self, decide_true, decide_false, ↓yielded_eq, yv_some, boolOf_bool, List.getElem?_toArray, List.getElem?_cons_zero, List.getElem?_cons_succ, Nat.reduceLT, Nat.reduceEqDiff, beq_self_eq_true, Option.some_beq_some, wr_app, wr_app0, rd_app, rd_app0, rdL_here, rdL_next, wrL_here, wrL_next, spl, List.all_cons, List.all_nil, AV.one, Bool.and_self, Bool.true_and, List.drop_zero, List.take_succ_cons, List.take_zero, List.drop_succ_cons, List.head?_cons, Nat.reduceAdd, Nat.reduceLeDiff, List.length_cons, List.length_nil, List.nil_append, List.cons_append, List.set_cons_zero, List.set_cons_succ, Int.toNat_natCast, Nat.add_zero, b_ft, b_tf, Bool.false_eq_true, ↓rp_done, ↓rp_take, ↓rp_all, ↓ra_nil, ↓ra_first, ↓ra_next, ↓quietO_none, ↓quietO_guard, ↓q_move, ↓q_assign, ↓q_pick, ↓q_binOp, ↓q_field, ↓q_fieldAddr, ↓q_indexAddr, ↓q_nilCheck, set_order, keepV_eq, stBeq_self, ↓rp_graft, put_slot, put_slot_app, List.length_append, List.append_assoc, Nat.add_assoc, ↓aop_build, evP, Bool.true_and, Bool.and_true, Bool.false_and, Bool.and_false, Bool.true_or, Bool.or_true, Bool.false_or, Bool.or_false, Bool.not_true, Bool.not_false]
          exact ⟨_, _, rfl, by simp only [List.length_set, hlen], by simp only [hlen, gs_self, gs_ne, List.length_set, ne_eq, Nat.reduceEqDiff, Nat.reduceLT, not_false_eq_true], by simp only [hlen, gs_self, gs_ne, List.length_set, ne_eq, Nat.reduceEqDiff, Nat.reduceLT, not_false_eq_true], by simp only [hlen, gs_self, gs_ne, List.length_set, ne_eq, Nat.reduceEqDiff, Nat.reduceLT, not_false_eq_true]⟩
end Go.Dv

/- The inner loops of race.Witness and ref21.Witness (printed by t32.py, own work). -/
namespace Go.Dv
open Go.Proofs
set_option maxRecDepth 100000
set_option linter.unusedSimpArgs false
set_option linter.unusedVariables false
attribute [local congr] bind_congr_first

/-- The first place, counted from n, of an element with p. -/
def firstAt (p : E6 → Bool) : List E6 → Nat → Option Nat
  | [], _ => none
  | x :: xs, n => if p x = true then some n else firstAt p xs (n + 1)

/-- A slice of events that can be cut. -/
def EvS (H : AH) (v : AV) (l : List E6) : Prop := (v = .nilSlice ∧ l = []) ∨ ∃ i k cap ex, v = .slice i k 6 l.length cap ex ∧ l.length ≤ cap ∧ ∀ j e, l[j]? = some e → rdCells H i (k + j * 6) 6 = some e.cells

theorem EvS.more {H : AH} {v : AV} {l : List E6} (h : EvS H v l) (L : AH) : EvS (H ++ L) v l := by
  rcases h with h | ⟨i, k, cap, ex, hv, hc, hr⟩
  · exact .inl h
  · exact .inr ⟨i, k, cap, ex, hv, hc, fun j e he => rd_old (hr j e he) L⟩

theorem EvS.evs {H : AH} {v : AV} {l : List E6} (h : EvS H v l) : Evs H v l := by
  rcases h with ⟨rfl, rfl⟩ | ⟨i, k, cap, ex, rfl, hc, hr⟩
  · exact ⟨fun H => ln22n H, fun j e he => by simp at he⟩
  · refine ⟨fun H => ln22 H .., fun j e he => ?_⟩
    have hj : j < l.length := (List.getElem?_eq_some_iff.1 he).1
    refine ⟨i, k + j * 6, ?_, hr j e he⟩
    rw [ia22, if_pos ⟨by omega, by omega, rfl⟩]
    simp

theorem un22 : Try.prog.underlying 22 = some (.slice 36) := by kernel_rfl
theorem ce36 : Try.prog.cellsOf 36 = 6 := by kernel_rfl
theorem in36 : (Try.prog.info? 36).isSome = true := by kernel_rfl
theorem sl22 (H : AH) (i k len cap : Nat) (ex : Bool) (n : Nat) (h : n ≤ cap) : sliceA Try.prog 22 H (.slice i k 6 len cap ex) none (some (I n)) none = some (.slice i k 6 n cap ex) := by
  obtain ⟨f, hf⟩ := Option.isSome_iff_exists.1 in36
  unfold sliceA
  simp [un22, ce36, boundA, h, hf]
theorem sl22n (H : AH) : sliceA Try.prog 22 H .nilSlice none (some (I ((0 : Nat) : Int))) none = some .nilSlice := by kernel_rfl

theorem EvS.pre {H : AH} {v : AV} {l : List E6} (h : EvS H v l) {n : Nat} (hn : n ≤ l.length) : ∃ v', (∀ H', sliceA Try.prog 22 H' v none (some (I n)) none = some v') ∧ EvS H v' (l.take n) := by
  rcases h with ⟨rfl, rfl⟩ | ⟨i, k, cap, ex, rfl, hc, hr⟩
  · obtain rfl : n = 0 := by simpa using hn
    exact ⟨_, fun H' => sl22n H', .inl ⟨rfl, rfl⟩⟩
  · have hl : (l.take n).length = n := by simp; omega
    refine ⟨_, fun H' => sl22 H' _ _ _ _ _ n (by omega), .inr ⟨i, k, cap, ex, by rw [hl], by omega, fun j e he => hr j e ?_⟩⟩
    rw [List.getElem?_take] at he
    split at he
    · exact he
    · cases he

theorem rd5 {H : AH} {i k : Nat} {e : E6} (h : rdCells H i k 6 = some e.cells) (L : AH) : rdCells (H ++ L) i k 5 = some [I e.sp, I e.bl, I e.ce, I e.th, I e.ki] := by
  have := rd_sub (rd_old h L) 0 5 (by omega); simpa [E6.cells] using this

theorem rd_grow {H : AH} {i k n : Nat} {xs : List AV} (h : ∀ L, rdCells (H ++ L) i k n = some xs) (L : AH) : ∀ L', rdCells ((H ++ L) ++ L') i k n = some xs := fun L' => by rw [List.append_assoc]; exact h _


theorem wit_end {v : AV} {H : AH} {tm : List AV} {n : Nat} (hlen : tm.length = 61) (h25 : tm.getD 25 undefA = I n) (h26 : tm.getD 26 undefA = I n) : ∃ tm', EvC Try.prog C3 l22_0 (tm, H) = some (.exit 2, (tm', H)) ∧ tm'.length = 61 ∧ (∀ t ∈ [0, 3, 8, 9, 15, 16, 17, 24, 25], tm'.getD t undefA = tm.getD t undefA) := by
  have hlt : decide ((n : Int) < (n : Int)) = false := by simp
  rw [el22_0]
  simp -implicitDefEqProofs only [b22_0, atPath, Try.f22, Option.getD_some, hlen, h25, h26, hlt, ↓EvC_seq, ↓EvC_skip, ↓EvC_exit, ↓EvC_ret, ↓EvC_block, ↓EvC_cond, ↓ev_region, ↓runL_cons, ↓runL_nil, ↓stepO_none, ↓stepO_guard, ↓aop_move, ↓aop_assign, ↓aop_load, ↓aop_store, ↓aop_alloc, ↓aop_box, ↓aop_nilCheck, ↓aop_fieldAddr, ↓aop_field, ↓aop_indexAddr, ↓aop_binOp, ↓aop_pick, ↓aop_extract, ↓aop_buildSlice, ↓aop_slice, ↓aop_not, ↓aop_call, ↓callA_len, ↓callA_append, ev_tmp, ev_const, ofV_int, ofV_bool, ofV_str, ofV_nilSlice, ofV_nilPtr, putA_some, putA_none, gs_self, gs_ne, List.length_set, Option.bind_some, Option.map_some, intBinA, evL, evO, evP, ne_eq, not_false_eq_true, if_true, if_false, reduceCtorEq, ite_true, ite_false, reduceIte, put_app, AV.cells, and_true, true_and, and_self, decide_true, decide_false, ↓yielded_eq, yv_some, boolOf_bool, List.getElem?_toArray, List.getElem?_cons_zero, List.getElem?_cons_succ, Nat.reduceLT, Nat.reduceEqDiff, beq_self_eq_true, Option.some_beq_some, wr_app, wr_app0, rd_app, rd_app0, rdL_here, rdL_next, wrL_here, wrL_next, spl, List.all_cons, List.all_nil, AV.one, Bool.and_self, Bool.true_and, List.drop_zero, List.take_succ_cons, List.take_zero, List.drop_succ_cons, List.head?_cons, Nat.reduceAdd, Nat.reduceLeDiff, List.length_cons, List.length_nil, List.nil_append, List.cons_append, List.set_cons_zero, List.set_cons_succ, Int.toNat_natCast, Nat.add_zero, b_ft, b_tf, Bool.false_eq_true]
  refine ⟨_, rfl, by simp only [List.length_set, hlen], fun t ht => ?_⟩
  simp only [List.mem_cons, List.not_mem_nil, or_false] at ht
  rcases ht with rfl | rfl | rfl | rfl | rfl | rfl | rfl | rfl | rfl <;> simp only [hlen, gs_self, gs_ne, List.length_set, ne_eq, Nat.reduceEqDiff, Nat.reduceLT, not_false_eq_true]


theorem ref_wit_end {v : AV} {H : AH} {tm : List AV} {n : Nat} (hlen : tm.length = 51) (h7 : tm.getD 7 undefA = I n) (h8 : tm.getD 8 undefA = I n) : ∃ tm', EvC Try.prog C3 l23_0 (tm, H) = some (.exit 2, (tm', H)) ∧ tm'.length = 51 ∧ (∀ t ∈ [0, 3, 7], tm'.getD t undefA = tm.getD t undefA) := by
  have hlt : decide ((n : Int) < (n : Int)) = false := by simp
  rw [el23_0]
  simp -implicitDefEqProofs only [b23_0, atPath, Try.f23, Option.getD_some, hlen, h7, h8, hlt, ↓EvC_seq, ↓EvC_skip, ↓EvC_exit, ↓EvC_ret, ↓EvC_block, ↓EvC_cond, ↓ev_region, ↓runL_cons, ↓runL_nil, ↓stepO_none, ↓stepO_guard, ↓aop_move, ↓aop_assign, ↓aop_load, ↓aop_store, ↓aop_alloc, ↓aop_box, ↓aop_nilCheck, ↓aop_fieldAddr, ↓aop_field, ↓aop_indexAddr, ↓aop_binOp, ↓aop_pick, ↓aop_extract, ↓aop_buildSlice, ↓aop_slice, ↓aop_not, ↓aop_call, ↓callA_len, ↓callA_append, ev_tmp, ev_const, ofV_int, ofV_bool, ofV_str, ofV_nilSlice, ofV_nilPtr, putA_some, putA_none, gs_self, gs_ne, List.length_set, Option.bind_some, Option.map_some, intBinA, evL, evO, evP, ne_eq, not_false_eq_true, if_true, if_false, reduceCtorEq, ite_true, ite_false, reduceIte, put_app, AV.cells, and_true, true_and, and_self, decide_true, decide_false, ↓yielded_eq, yv_some, boolOf_bool, List.getElem?_toArray, List.getElem?_cons_zero, List.getElem?_cons_succ, Nat.reduceLT, Nat.reduceEqDiff, beq_self_eq_true, Option.some_beq_some, wr_app, wr_app0, rd_app, rd_app0, rdL_here, rdL_next, wrL_here, wrL_next, spl, List.all_cons, List.all_nil, AV.one, Bool.and_self, Bool.true_and, List.drop_zero, List.take_succ_cons, List.take_zero, List.drop_succ_cons, List.head?_cons, Nat.reduceAdd, Nat.reduceLeDiff, List.length_cons, List.length_nil, List.nil_append, List.cons_append, List.set_cons_zero, List.set_cons_succ, Int.toNat_natCast, Nat.add_zero, b_ft, b_tf, Bool.false_eq_true]
  refine ⟨_, rfl, by simp only [List.length_set, hlen], fun t ht => ?_⟩
  simp only [List.mem_cons, List.not_mem_nil, or_false] at ht
  rcases ht with rfl | rfl | rfl <;> simp only [hlen, gs_self, gs_ne, List.length_set, ne_eq, Nat.reduceEqDiff, Nat.reduceLT, not_false_eq_true]


theorem wit_inner {v : AV} {p : List E6} {kk : Nat} {y a b : E6} {r iy : Nat} (hn : p.length < 2 ^ 62) : ∀ (d j : Nat) (tm : List AV) (H : AH), p.length - j = d → j ≤ p.length → EvS H v p →
    (∀ L, rdCells (H ++ L) r 0 5 = some [I a.sp, I a.bl, I a.ce, I a.th, I a.ki]) → (∀ L, rdCells (H ++ L) r 5 5 = some [I b.sp, I b.bl, I b.ce, I b.th, I b.ki]) →
    (∀ L, rdCells (H ++ L) iy 0 6 = some [I y.sp, I y.bl, I y.ce, I y.th, I y.ki, I y.ph]) → (∀ L, rdCells (H ++ L) iy 0 5 = some [I y.sp, I y.bl, I y.ce, I y.th, I y.ki]) →
    tm.length = 61 → tm.getD 3 undefA = .ptr r 0 → tm.getD 8 undefA = I kk → tm.getD 9 undefA = .ptr iy 0 → tm.getD 24 undefA = v → tm.getD 25 undefA = I p.length → tm.getD 26 undefA = I j →
    ∃ e tm' L, EvC Try.prog C3 l22_0 (tm, H) = some (e, (tm', H ++ L)) ∧ tm'.length = 61 ∧
      ((∃ i, firstAt (fun x => x.wit y a b) (p.drop j) j = some i ∧ e = .ret ∧ tm'.getD 4 undefA = I i ∧ tm'.getD 5 undefA = I kk ∧ tm'.getD 6 undefA = .bool true ∧ tm'.getD 7 undefA = I 0) ∨
       (firstAt (fun x => x.wit y a b) (p.drop j) j = none ∧ e = .exit 2 ∧ (∀ t ∈ [0, 3, 8, 9, 15, 16, 17, 24, 25], tm'.getD t undefA = tm.getD t undefA))) := by
  intro d
  induction d with
  | zero =>
    intro j tm H hd hj hv hA hB hy hy5 hlen h3 h8 h9 h24 h25 h26
    obtain rfl : j = p.length := by omega
    obtain ⟨tm', he, hl, hk⟩ := wit_end (v := v) (H := H) hlen h25 h26
    exact ⟨_, tm', [], by rw [List.append_nil]; exact he, hl, .inr ⟨by simp [firstAt], rfl, hk⟩⟩
  | succ d ih =>
    intro j tm H hd hj hv hA hB hy hy5 hlen h3 h8 h9 h24 h25 h26
    obtain ⟨x, hx⟩ : ∃ x, p[j]? = some x := ⟨_, List.getElem?_eq_getElem (by omega)⟩
    obtain ⟨i, k, hi, hr⟩ := hv.evs.ix j x hx
    have hdl : p.drop j = x :: p.drop (j + 1) := by rw [List.drop_eq_getElem_cons (by omega)]; congr 1; rw [List.getElem?_eq_getElem (by omega)] at hx; exact Option.some.inj hx
    rw [hdl]
    rcases wit_round hi (fun L => rd_old hr L) hA hB hy hy5 (by omega : j < p.length) hn hlen h3 h8 h9 h24 h25 h26 with ⟨hb, tm', L, hev, hl', g4, g5, g6, g7⟩ | ⟨hb, tm', L, hev, hl', hk, g26⟩
    · exact ⟨_, tm', L, hev, hl', .inl ⟨j, by simp only [firstAt]; rw [if_pos hb], rfl, g4, g5, g6, g7⟩⟩
    · have k' : ∀ t ∈ [0, 3, 8, 9, 15, 16, 17, 24, 25], tm'.getD t undefA = tm.getD t undefA := hk
      obtain ⟨e', tm2, L2, hev2, hl2, hc⟩ := ih (j + 1) tm' (H ++ L) (by omega) (by omega) (hv.more L) (rd_grow hA L) (rd_grow hB L) (rd_grow hy L) (rd_grow hy5 L) hl' ((hk 3 (by simp)).trans h3) ((hk 8 (by simp)).trans h8) ((hk 9 (by simp)).trans h9) ((hk 24 (by simp)).trans h24) ((hk 25 (by simp)).trans h25) g26
      refine ⟨e', tm2, L ++ L2, by rw [hev, hev2, List.append_assoc], hl2, ?_⟩
      simp only [firstAt]
      rw [if_neg (by simp [hb])]
      rcases hc with hc | ⟨h1, h2, h3⟩
      · exact .inl hc
      · exact .inr ⟨h1, h2, fun t ht => (h3 t ht).trans (hk t ht)⟩

theorem ref_wit_inner {v : AV} {l : List E6} {kk : Nat} {y a b : E6} {r : Nat} (hkk : kk < l.length) (hn : l.length < 2 ^ 62) (hyk : l[kk]? = some y) : ∀ (d j : Nat) (tm : List AV) (H : AH), kk - j = d → j ≤ kk → EvS H v l →
    (∀ L, rdCells (H ++ L) r 0 5 = some [I a.sp, I a.bl, I a.ce, I a.th, I a.ki]) → (∀ L, rdCells (H ++ L) r 5 5 = some [I b.sp, I b.bl, I b.ce, I b.th, I b.ki]) →
    tm.length = 51 → tm.getD 0 undefA = v → tm.getD 3 undefA = .ptr r 0 → tm.getD 7 undefA = I kk → tm.getD 8 undefA = I j →
    ∃ e tm' L, EvC Try.prog C3 l23_0 (tm, H) = some (e, (tm', H ++ L)) ∧ tm'.length = 51 ∧
      ((∃ i, firstAt (fun x => x.wit' y a b) ((l.take kk).drop j) j = some i ∧ e = .ret ∧ tm'.getD 4 undefA = I i ∧ tm'.getD 5 undefA = I kk ∧ tm'.getD 6 undefA = .bool true) ∨
       (firstAt (fun x => x.wit' y a b) ((l.take kk).drop j) j = none ∧ e = .exit 2 ∧ (∀ t ∈ [0, 3, 7], tm'.getD t undefA = tm.getD t undefA))) := by
  have hpl : (l.take kk).length = kk := by simp; omega
  intro d
  induction d with
  | zero =>
    intro j tm H hd hj hv hA hB hlen h0 h3 h7 h8
    obtain rfl : j = kk := by omega
    obtain ⟨tm', he, hl, hk⟩ := ref_wit_end (v := v) (H := H) hlen h7 h8
    exact ⟨_, tm', [], by rw [List.append_nil]; exact he, hl, .inr ⟨by rw [List.drop_eq_nil_of_le (by omega)]; rfl, rfl, hk⟩⟩
  | succ d ih =>
    intro j tm H hd hj hv hA hB hlen h0 h3 h7 h8
    obtain ⟨x, hx⟩ : ∃ x, l[j]? = some x := ⟨_, List.getElem?_eq_getElem (by omega)⟩
    obtain ⟨i, k, hi, hr⟩ := hv.evs.ix j x hx
    obtain ⟨i', k', hi', hr'⟩ := hv.evs.ix kk y hyk
    have hdl : (l.take kk).drop j = x :: (l.take kk).drop (j + 1) := by
      rw [List.drop_eq_getElem_cons (by omega)]; congr 1
      rw [List.getElem?_eq_getElem (by omega)] at hx
      simpa using Option.some.inj hx
    rw [hdl]
    rcases ref_wit_round (a := a) (b := b) hi (fun L => rd_old hr L) (fun L => rd5 hr L) hA hB hi' (fun L => rd_old hr' L) (fun L => rd5 hr' L) (by omega : j < kk) (by omega) hlen h0 h3 h7 h8 with ⟨hb, tm', L, hev, hl', g4, g5, g6⟩ | ⟨hb, tm', L, hev, hl', hk, g8⟩
    · exact ⟨_, tm', L, hev, hl', .inl ⟨j, by simp only [firstAt]; rw [if_pos hb], rfl, g4, g5, g6⟩⟩
    · obtain ⟨e', tm2, L2, hev2, hl2, hc⟩ := ih (j + 1) tm' (H ++ L) (by omega) (by omega) (hv.more L) (rd_grow hA L) (rd_grow hB L) hl' ((hk 0 (by simp)).trans h0) ((hk 3 (by simp)).trans h3) ((hk 7 (by simp)).trans h7) g8
      refine ⟨e', tm2, L ++ L2, by rw [hev, hev2, List.append_assoc], hl2, ?_⟩
      simp only [firstAt]
      rw [if_neg (by simp [hb])]
      rcases hc with hc | ⟨h1, h2, h3⟩
      · exact .inl hc
      · exact .inr ⟨h1, h2, fun t ht => (h3 t ht).trans (hk t ht)⟩

end Go.Dv

/- The outer loops of race.Witness and ref21.Witness (printed by t33.py, own work). -/
namespace Go.Dv
open Go.Proofs
set_option maxRecDepth 100000
set_option linter.unusedSimpArgs false
set_option linter.unusedVariables false
attribute [local congr] bind_congr_first

/-- The first pair, by its later place, from the later place n on. -/
def firstPair (p : E6 → E6 → Bool) (l : List E6) : List E6 → Nat → Option (Nat × Nat)
  | [], _ => none
  | y :: ys, n => match firstAt (fun x => p x y) (l.take n) 0 with
    | some i => some (i, n)
    | none => firstPair p l ys (n + 1)

theorem wit_inner' {v : AV} {p : List E6} {kk : Nat} {y a b : E6} {r iy : Nat} {tm : List AV} {H : AH} {X : Option (AExit × St)} (hX : EvC Try.prog C3 l22_0 (tm, H) = X) (hn : p.length < 2 ^ 62) (hv : EvS H v p)
    (hA : ∀ L, rdCells (H ++ L) r 0 5 = some [I a.sp, I a.bl, I a.ce, I a.th, I a.ki]) (hB : ∀ L, rdCells (H ++ L) r 5 5 = some [I b.sp, I b.bl, I b.ce, I b.th, I b.ki])
    (hy : ∀ L, rdCells (H ++ L) iy 0 6 = some [I y.sp, I y.bl, I y.ce, I y.th, I y.ki, I y.ph]) (hy5 : ∀ L, rdCells (H ++ L) iy 0 5 = some [I y.sp, I y.bl, I y.ce, I y.th, I y.ki])
    (hlen : tm.length = 61) (h3 : tm.getD 3 undefA = .ptr r 0) (h8 : tm.getD 8 undefA = I kk) (h9 : tm.getD 9 undefA = .ptr iy 0) (h24 : tm.getD 24 undefA = v) (h25 : tm.getD 25 undefA = I p.length) (h26 : tm.getD 26 undefA = I ((0 : Nat) : Int)) :
    ∃ e tm' L, X = some (e, (tm', H ++ L)) ∧ tm'.length = 61 ∧
      ((∃ i, firstAt (fun x => x.wit y a b) p 0 = some i ∧ e = .ret ∧ tm'.getD 4 undefA = I i ∧ tm'.getD 5 undefA = I kk ∧ tm'.getD 6 undefA = .bool true ∧ tm'.getD 7 undefA = I 0) ∨
       (firstAt (fun x => x.wit y a b) p 0 = none ∧ e = .exit 2 ∧ (∀ t ∈ [0, 3, 8, 9, 15, 16, 17, 24, 25], tm'.getD t undefA = tm.getD t undefA))) := by
  subst hX
  have := wit_inner (a := a) (b := b) (y := y) (kk := kk) hn p.length 0 tm H (by omega) (by omega) hv hA hB hy hy5 hlen h3 h8 h9 h24 h25 h26
  simpa using this

theorem wit_outer_round {v : AV} {H : AH} {l : List E6} {tm : List AV} {k r : Nat} {y a b : E6} (hv : EvS H v l) (hk : k < l.length) (hl : l.length < 2 ^ 62) (hyk : l[k]? = some y)
    (hA : ∀ L, rdCells (H ++ L) r 0 5 = some [I a.sp, I a.bl, I a.ce, I a.th, I a.ki]) (hB : ∀ L, rdCells (H ++ L) r 5 5 = some [I b.sp, I b.bl, I b.ce, I b.th, I b.ki])
    (hlen : tm.length = 61) (h0 : tm.getD 0 undefA = v) (h3 : tm.getD 3 undefA = .ptr r 0) (h15 : tm.getD 15 undefA = v) (h16 : tm.getD 16 undefA = I l.length) (h17 : tm.getD 17 undefA = I k) :
    (∃ i, firstAt (fun x => x.wit y a b) (l.take k) 0 = some i ∧ ∃ tm' L, EvC Try.prog C3 l22_1 (tm, H) = some (.ret, (tm', H ++ L)) ∧ tm'.length = 61 ∧ tm'.getD 4 undefA = I i ∧ tm'.getD 5 undefA = I k ∧ tm'.getD 6 undefA = .bool true ∧ tm'.getD 7 undefA = I 0) ∨
    (firstAt (fun x => x.wit y a b) (l.take k) 0 = none ∧ ∃ tm' L, EvC Try.prog C3 l22_1 (tm, H) = EvC Try.prog C3 l22_1 (tm', H ++ L) ∧ tm'.length = 61 ∧ (∀ t ∈ [0, 3, 15, 16], tm'.getD t undefA = tm.getD t undefA) ∧ tm'.getD 17 undefA = I ((k + 1 : Nat) : Int)) := by
  obtain ⟨i, kc, hi, hr⟩ := hv.evs.ix k y hyk
  obtain ⟨v', hsl, hv'⟩ := hv.pre (n := k) (by omega)
  have hpl : (l.take k).length = k := by simp; omega
  have hla := hv'.evs.len
  rw [hpl] at hla
  have hlt : decide ((k : Int) < (l.length : Int)) = true := by simp; omega
  have hw : IntKind.i64.wrap ((k : Int) + 1) = ((k + 1 : Nat) : Int) := by rw [IntWalk.i64_in _ (by omega)]; omega
  have hrd : ∀ L, rdCells (H ++ L) i kc 6 = some [I y.sp, I y.bl, I y.ce, I y.th, I y.ki, I y.ph] := fun L => rd_old hr L
  have hH : (tm, H) = (tm, H ++ []) := by simp
  rw [el22_1, hH]
  simp -implicitDefEqProofs only [b22_1, atPath, Try.f22, Option.getD_some, hlen, h0, h3, h15, h16, h17, hlt, hi, hrd, hsl, hla, ↓ld36, ↓ld34, ↓ld3, ↓st36, ↓st34, ↓st3, z36, z34, fa36_0, fa36_1, fa38_0, fa38_1, ↓EvC_seq, ↓EvC_skip, ↓EvC_exit, ↓EvC_ret, ↓EvC_block, ↓EvC_cond, ↓ev_region, ↓runL_cons, ↓runL_nil, ↓stepO_none, ↓stepO_guard, ↓aop_move, ↓aop_assign, ↓aop_load, ↓aop_store, ↓aop_alloc, ↓aop_box, ↓aop_nilCheck, ↓aop_fieldAddr, ↓aop_field, ↓aop_indexAddr, ↓aop_binOp, ↓aop_pick, ↓aop_extract, ↓aop_buildSlice, ↓aop_slice, ↓aop_not, ↓aop_call, ↓callA_len, ↓callA_append, ev_tmp, ev_const, ofV_int, ofV_bool, ofV_str, ofV_nilSlice, ofV_nilPtr, putA_some, putA_none, gs_self, gs_ne, List.length_set, Option.bind_some, Option.map_some, intBinA, evL, evO, evP, ne_eq, not_false_eq_true, if_true, if_false, reduceCtorEq, ite_true, ite_false, reduceIte, put_app, AV.cells, and_true, true_and, and_self, decide_true, decide_false, ↓yielded_eq, yv_some, boolOf_bool, List.getElem?_toArray, List.getElem?_cons_zero, List.getElem?_cons_succ, Nat.reduceLT, Nat.reduceEqDiff, beq_self_eq_true, Option.some_beq_some, wr_app, wr_app0, rd_app, rd_app0, rdL_here, rdL_next, wrL_here, wrL_next, spl, List.all_cons, List.all_nil, AV.one, Bool.and_self, Bool.true_and, List.drop_zero, List.take_succ_cons, List.take_zero, List.drop_succ_cons, List.head?_cons, Nat.reduceAdd, Nat.reduceLeDiff, List.length_cons, List.length_nil, List.nil_append, List.cons_append, List.set_cons_zero, List.set_cons_succ, Int.toNat_natCast, Nat.add_zero, b_ft, b_tf, Bool.false_eq_true]
  generalize hX : EvC Try.prog C3 (Code.loop _) _ = X
  have hiy : ∀ L, rdCells ((H ++ [.cells [I y.sp, I y.bl, I y.ce, I y.th, I y.ki, I y.ph] 36]) ++ L) H.length 0 6 = some [I y.sp, I y.bl, I y.ce, I y.th, I y.ki, I y.ph] := fun L => by rw [List.append_assoc, rd_app0]; rfl
  have hiy5 : ∀ L, rdCells ((H ++ [.cells [I y.sp, I y.bl, I y.ce, I y.th, I y.ki, I y.ph] 36]) ++ L) H.length 0 5 = some [I y.sp, I y.bl, I y.ce, I y.th, I y.ki] := fun L => by rw [List.append_assoc, rd_app0]; rfl
  obtain ⟨e, tm', L, he, hl', hc⟩ := wit_inner' (a := a) (b := b) (y := y) (kk := k) (r := r) (iy := H.length) hX (by omega) (hv'.more _) (rd_grow hA _) (rd_grow hB _) hiy hiy5 (by simp only [List.length_set, hlen]) (by simp only [hlen, h3, gs_self, gs_ne, List.length_set, ne_eq, Nat.reduceEqDiff, Nat.reduceLT, not_false_eq_true]) (by simp only [hlen, gs_self, gs_ne, List.length_set, ne_eq, Nat.reduceEqDiff, Nat.reduceLT, not_false_eq_true]) (by simp only [hlen, gs_self, gs_ne, List.length_set, ne_eq, Nat.reduceEqDiff, Nat.reduceLT, not_false_eq_true]) (by simp only [hlen, gs_self, gs_ne, List.length_set, ne_eq, Nat.reduceEqDiff, Nat.reduceLT, not_false_eq_true]) (by simp only [hlen, hpl, gs_self, gs_ne, List.length_set, ne_eq, Nat.reduceEqDiff, Nat.reduceLT, not_false_eq_true]) (by simp only [hlen, gs_self, gs_ne, List.length_set, ne_eq, Nat.reduceEqDiff, Nat.reduceLT, not_false_eq_true] <;> rfl)
  subst he
  rcases hc with ⟨i', hf, rfl, g4, g5, g6, g7⟩ | ⟨hf, rfl, hkeep⟩
  · refine .inl ⟨i', hf, ?_⟩
    simp -implicitDefEqProofs only [↓EvC_seq, ↓EvC_skip, ↓EvC_exit, ↓EvC_ret, ↓EvC_block, ↓EvC_cond, ↓ev_region, ↓runL_cons, ↓runL_nil, ↓stepO_none, ↓stepO_guard, ↓aop_move, ↓aop_assign, ↓aop_load, ↓aop_store, ↓aop_alloc, ↓aop_box, ↓aop_nilCheck, ↓aop_fieldAddr, ↓aop_field, ↓aop_indexAddr, ↓aop_binOp, ↓aop_pick, ↓aop_extract, ↓aop_buildSlice, ↓aop_slice, ↓aop_not, ↓aop_call, ↓callA_len, ↓callA_append, ev_tmp, ev_const, ofV_int, ofV_bool, ofV_str, ofV_nilSlice, ofV_nilPtr, putA_some, putA_none, gs_self, gs_ne, List.length_set, Option.bind_some, Option.map_some, intBinA, evL, evO, evP, ne_eq, not_false_eq_true, if_true, if_false, reduceCtorEq, ite_true, ite_false, reduceIte, put_app, AV.cells, and_true, true_and, and_self, decide_true, decide_false, ↓yielded_eq, yv_some, boolOf_bool, List.getElem?_toArray, List.getElem?_cons_zero, List.getElem?_cons_succ, Nat.reduceLT, Nat.reduceEqDiff, beq_self_eq_true, Option.some_beq_some, wr_app, wr_app0, rd_app, rd_app0, rdL_here, rdL_next, wrL_here, wrL_next, spl, List.all_cons, List.all_nil, AV.one, Bool.and_self, Bool.true_and, List.drop_zero, List.take_succ_cons, List.take_zero, List.drop_succ_cons, List.head?_cons, Nat.reduceAdd, Nat.reduceLeDiff, List.length_cons, List.length_nil, List.nil_append, List.cons_append, List.set_cons_zero, List.set_cons_succ, Int.toNat_natCast, Nat.add_zero, b_ft, b_tf, Bool.false_eq_true]
    exact ⟨_, _, by rw [List.append_assoc], hl', g4, g5, g6, g7⟩
  · refine .inr ⟨hf, ?_⟩
    have z0 := hkeep 0 (by simp)
    have z3 := hkeep 3 (by simp)
    have z15 := hkeep 15 (by simp)
    have z16 := hkeep 16 (by simp)
    have z17 := hkeep 17 (by simp)
    simp only [hlen, gs_self, gs_ne, List.length_set, ne_eq, Nat.reduceEqDiff, Nat.reduceLT, not_false_eq_true] at z0 z3 z15 z16 z17
    simp -implicitDefEqProofs only [hl', z17, h17, hw, ↓EvC_seq, ↓EvC_skip, ↓EvC_exit, ↓EvC_ret, ↓EvC_block, ↓EvC_cond, ↓ev_region, ↓runL_cons, ↓runL_nil, ↓stepO_none, ↓stepO_guard, ↓aop_move, ↓aop_assign, ↓aop_load, ↓aop_store, ↓aop_alloc, ↓aop_box, ↓aop_nilCheck, ↓aop_fieldAddr, ↓aop_field, ↓aop_indexAddr, ↓aop_binOp, ↓aop_pick, ↓aop_extract, ↓aop_buildSlice, ↓aop_slice, ↓aop_not, ↓aop_call, ↓callA_len, ↓callA_append, ev_tmp, ev_const, ofV_int, ofV_bool, ofV_str, ofV_nilSlice, ofV_nilPtr, putA_some, putA_none, gs_self, gs_ne, List.length_set, Option.bind_some, Option.map_some, intBinA, evL, evO, evP, ne_eq, not_false_eq_true, if_true, if_false, reduceCtorEq, ite_true, ite_false, reduceIte, put_app, AV.cells, and_true, true_and, and_self, decide_true, decide_false, ↓yielded_eq, yv_some, boolOf_bool, List.getElem?_toArray, List.getElem?_cons_zero, List.getElem?_cons_succ, Nat.reduceLT, Nat.reduceEqDiff, beq_self_eq_true, Option.some_beq_some, wr_app, wr_app0, rd_app, rd_app0, rdL_here, rdL_next, wrL_here, wrL_next, spl, List.all_cons, List.all_nil, AV.one, Bool.and_self, Bool.true_and, List.drop_zero, List.take_succ_cons, List.take_zero, List.drop_succ_cons, List.head?_cons, Nat.reduceAdd, Nat.reduceLeDiff, List.length_cons, List.length_nil, List.nil_append, List.cons_append, List.set_cons_zero, List.set_cons_succ, Int.toNat_natCast, Nat.add_zero, b_ft, b_tf, Bool.false_eq_true]
    refine ⟨_, _, by rw [List.append_assoc], by simp only [List.length_set, hl'], fun t ht => ?_, by simp only [hl', gs_self, gs_ne, List.length_set, ne_eq, Nat.reduceEqDiff, Nat.reduceLT, not_false_eq_true]⟩
    simp only [List.mem_cons, List.not_mem_nil, or_false] at ht
    rcases ht with rfl | rfl | rfl | rfl <;> simp only [hl', z0, z3, z15, z16, gs_self, gs_ne, List.length_set, ne_eq, Nat.reduceEqDiff, Nat.reduceLT, not_false_eq_true]

theorem wit_outer_end {H : AH} {tm : List AV} {n : Nat} (hlen : tm.length = 61) (h16 : tm.getD 16 undefA = I n) (h17 : tm.getD 17 undefA = I n) : ∃ tm', EvC Try.prog C3 l22_1 (tm, H) = some (.exit 0, (tm', H)) ∧ tm'.length = 61 := by
  have hlt : decide ((n : Int) < (n : Int)) = false := by simp
  rw [el22_1]
  simp -implicitDefEqProofs only [b22_1, atPath, Try.f22, Option.getD_some, hlen, h16, h17, hlt, ↓EvC_seq, ↓EvC_skip, ↓EvC_exit, ↓EvC_ret, ↓EvC_block, ↓EvC_cond, ↓ev_region, ↓runL_cons, ↓runL_nil, ↓stepO_none, ↓stepO_guard, ↓aop_move, ↓aop_assign, ↓aop_load, ↓aop_store, ↓aop_alloc, ↓aop_box, ↓aop_nilCheck, ↓aop_fieldAddr, ↓aop_field, ↓aop_indexAddr, ↓aop_binOp, ↓aop_pick, ↓aop_extract, ↓aop_buildSlice, ↓aop_slice, ↓aop_not, ↓aop_call, ↓callA_len, ↓callA_append, ev_tmp, ev_const, ofV_int, ofV_bool, ofV_str, ofV_nilSlice, ofV_nilPtr, putA_some, putA_none, gs_self, gs_ne, List.length_set, Option.bind_some, Option.map_some, intBinA, evL, evO, evP, ne_eq, not_false_eq_true, if_true, if_false, reduceCtorEq, ite_true, ite_false, reduceIte, put_app, AV.cells, and_true, true_and, and_self, decide_true, decide_false, ↓yielded_eq, yv_some, boolOf_bool, List.getElem?_toArray, List.getElem?_cons_zero, List.getElem?_cons_succ, Nat.reduceLT, Nat.reduceEqDiff, beq_self_eq_true, Option.some_beq_some, wr_app, wr_app0, rd_app, rd_app0, rdL_here, rdL_next, wrL_here, wrL_next, spl, List.all_cons, List.all_nil, AV.one, Bool.and_self, Bool.true_and, List.drop_zero, List.take_succ_cons, List.take_zero, List.drop_succ_cons, List.head?_cons, Nat.reduceAdd, Nat.reduceLeDiff, List.length_cons, List.length_nil, List.nil_append, List.cons_append, List.set_cons_zero, List.set_cons_succ, Int.toNat_natCast, Nat.add_zero, b_ft, b_tf, Bool.false_eq_true]
  exact ⟨_, rfl, by simp only [List.length_set, hlen]⟩

theorem wit_outer {v : AV} {l : List E6} {a b : E6} {r : Nat} (hl : l.length < 2 ^ 62) : ∀ (d k : Nat) (tm : List AV) (H : AH), l.length - k = d → k ≤ l.length → EvS H v l →
    (∀ L, rdCells (H ++ L) r 0 5 = some [I a.sp, I a.bl, I a.ce, I a.th, I a.ki]) → (∀ L, rdCells (H ++ L) r 5 5 = some [I b.sp, I b.bl, I b.ce, I b.th, I b.ki]) →
    tm.length = 61 → tm.getD 0 undefA = v → tm.getD 3 undefA = .ptr r 0 → tm.getD 15 undefA = v → tm.getD 16 undefA = I l.length → tm.getD 17 undefA = I k →
    ∃ e tm' L, EvC Try.prog C3 l22_1 (tm, H) = some (e, (tm', H ++ L)) ∧ tm'.length = 61 ∧
      ((∃ i n, firstPair (fun x y => x.wit y a b) l (l.drop k) k = some (i, n) ∧ e = .ret ∧ tm'.getD 4 undefA = I i ∧ tm'.getD 5 undefA = I n ∧ tm'.getD 6 undefA = .bool true ∧ tm'.getD 7 undefA = I 0) ∨
       (firstPair (fun x y => x.wit y a b) l (l.drop k) k = none ∧ e = .exit 0)) := by
  intro d
  induction d with
  | zero =>
    intro k tm H hd hk hv hA hB hlen h0 h3 h15 h16 h17
    obtain rfl : k = l.length := by omega
    obtain ⟨tm', he, hl'⟩ := wit_outer_end (H := H) hlen h16 h17
    exact ⟨_, tm', [], by rw [List.append_nil]; exact he, hl', .inr ⟨by simp [firstPair], rfl⟩⟩
  | succ d ih =>
    intro k tm H hd hk hv hA hB hlen h0 h3 h15 h16 h17
    obtain ⟨y, hy⟩ : ∃ y, l[k]? = some y := ⟨_, List.getElem?_eq_getElem (by omega)⟩
    have hdl : l.drop k = y :: l.drop (k + 1) := by rw [List.drop_eq_getElem_cons (by omega)]; congr 1; rw [List.getElem?_eq_getElem (by omega)] at hy; exact Option.some.inj hy
    rw [hdl]
    simp only [firstPair]
    rcases wit_outer_round (a := a) (b := b) hv (by omega) hl hy hA hB hlen h0 h3 h15 h16 h17 with ⟨i, hf, tm', L, hev, hl', g4, g5, g6, g7⟩ | ⟨hf, tm', L, hev, hl', hkeep, g17⟩
    · rw [hf]
      exact ⟨_, tm', L, hev, hl', .inl ⟨i, k, rfl, rfl, g4, g5, g6, g7⟩⟩
    · rw [hf]
      obtain ⟨e', tm2, L2, hev2, hl2, hc⟩ := ih (k + 1) tm' (H ++ L) (by omega) (by omega) (hv.more L) (rd_grow hA L) (rd_grow hB L) hl' ((hkeep 0 (by simp)).trans h0) ((hkeep 3 (by simp)).trans h3) ((hkeep 15 (by simp)).trans h15) ((hkeep 16 (by simp)).trans h16) g17
      exact ⟨e', tm2, L ++ L2, by rw [hev, hev2, List.append_assoc], hl2, hc⟩

theorem ref_wit_inner' {v : AV} {l : List E6} {kk : Nat} {y a b : E6} {r : Nat} {tm : List AV} {H : AH} {X : Option (AExit × St)} (hX : EvC Try.prog C3 l23_0 (tm, H) = X) (hkk : kk < l.length) (hn : l.length < 2 ^ 62) (hyk : l[kk]? = some y) (hv : EvS H v l)
    (hA : ∀ L, rdCells (H ++ L) r 0 5 = some [I a.sp, I a.bl, I a.ce, I a.th, I a.ki]) (hB : ∀ L, rdCells (H ++ L) r 5 5 = some [I b.sp, I b.bl, I b.ce, I b.th, I b.ki])
    (hlen : tm.length = 51) (h0 : tm.getD 0 undefA = v) (h3 : tm.getD 3 undefA = .ptr r 0) (h7 : tm.getD 7 undefA = I kk) (h8 : tm.getD 8 undefA = I ((0 : Nat) : Int)) :
    ∃ e tm' L, X = some (e, (tm', H ++ L)) ∧ tm'.length = 51 ∧
      ((∃ i, firstAt (fun x => x.wit' y a b) (l.take kk) 0 = some i ∧ e = .ret ∧ tm'.getD 4 undefA = I i ∧ tm'.getD 5 undefA = I kk ∧ tm'.getD 6 undefA = .bool true) ∨
       (firstAt (fun x => x.wit' y a b) (l.take kk) 0 = none ∧ e = .exit 2 ∧ (∀ t ∈ [0, 3, 7], tm'.getD t undefA = tm.getD t undefA))) := by
  subst hX
  have := ref_wit_inner (a := a) (b := b) (y := y) hkk hn hyk kk 0 tm H (by omega) (by omega) hv hA hB hlen h0 h3 h7 h8
  simpa using this

theorem ref_wit_outer_round {v : AV} {H : AH} {l : List E6} {tm : List AV} {k r : Nat} {y a b : E6} (hv : EvS H v l) (hk : k < l.length) (hl : l.length < 2 ^ 62) (hyk : l[k]? = some y)
    (hA : ∀ L, rdCells (H ++ L) r 0 5 = some [I a.sp, I a.bl, I a.ce, I a.th, I a.ki]) (hB : ∀ L, rdCells (H ++ L) r 5 5 = some [I b.sp, I b.bl, I b.ce, I b.th, I b.ki])
    (hlen : tm.length = 51) (h0 : tm.getD 0 undefA = v) (h3 : tm.getD 3 undefA = .ptr r 0) (h7 : tm.getD 7 undefA = I k) :
    (∃ i, firstAt (fun x => x.wit' y a b) (l.take k) 0 = some i ∧ ∃ tm' L, EvC Try.prog C3 l23_1 (tm, H) = some (.ret, (tm', H ++ L)) ∧ tm'.length = 51 ∧ tm'.getD 4 undefA = I i ∧ tm'.getD 5 undefA = I k ∧ tm'.getD 6 undefA = .bool true) ∨
    (firstAt (fun x => x.wit' y a b) (l.take k) 0 = none ∧ ∃ tm' L, EvC Try.prog C3 l23_1 (tm, H) = EvC Try.prog C3 l23_1 (tm', H ++ L) ∧ tm'.length = 51 ∧ (∀ t ∈ [0, 3], tm'.getD t undefA = tm.getD t undefA) ∧ tm'.getD 7 undefA = I ((k + 1 : Nat) : Int)) := by
  have hla := hv.evs.len
  have hlt : decide ((k : Int) < (l.length : Int)) = true := by simp; omega
  have hw : IntKind.i64.wrap ((k : Int) + 1) = ((k + 1 : Nat) : Int) := by rw [IntWalk.i64_in _ (by omega)]; omega
  rw [el23_1]
  simp -implicitDefEqProofs only [b23_1, atPath, Try.f23, Option.getD_some, hlen, h0, h3, h7, hlt, hla, ↓ld36, ↓ld34, ↓ld3, ↓st36, ↓st34, ↓st3, z36, z34, fa36_0, fa36_1, fa38_0, fa38_1, ↓EvC_seq, ↓EvC_skip, ↓EvC_exit, ↓EvC_ret, ↓EvC_block, ↓EvC_cond, ↓ev_region, ↓runL_cons, ↓runL_nil, ↓stepO_none, ↓stepO_guard, ↓aop_move, ↓aop_assign, ↓aop_load, ↓aop_store, ↓aop_alloc, ↓aop_box, ↓aop_nilCheck, ↓aop_fieldAddr, ↓aop_field, ↓aop_indexAddr, ↓aop_binOp, ↓aop_pick, ↓aop_extract, ↓aop_buildSlice, ↓aop_slice, ↓aop_not, ↓aop_call, ↓callA_len, ↓callA_append, ev_tmp, ev_const, ofV_int, ofV_bool, ofV_str, ofV_nilSlice, ofV_nilPtr, putA_some, putA_none, gs_self, gs_ne, List.length_set, Option.bind_some, Option.map_some, intBinA, evL, evO, evP, ne_eq, not_false_eq_true, if_true, if_false, reduceCtorEq, ite_true, ite_false, reduceIte, put_app, AV.cells, and_true, true_and, and_self, decide_true, decide_false, ↓yielded_eq, yv_some, boolOf_bool, List.getElem?_toArray, List.getElem?_cons_zero, List.getElem?_cons_succ, Nat.reduceLT, Nat.reduceEqDiff, beq_self_eq_true, Option.some_beq_some, wr_app, wr_app0, rd_app, rd_app0, rdL_here, rdL_next, wrL_here, wrL_next, spl, List.all_cons, List.all_nil, AV.one, Bool.and_self, Bool.true_and, List.drop_zero, List.take_succ_cons, List.take_zero, List.drop_succ_cons, List.head?_cons, Nat.reduceAdd, Nat.reduceLeDiff, List.length_cons, List.length_nil, List.nil_append, List.cons_append, List.set_cons_zero, List.set_cons_succ, Int.toNat_natCast, Nat.add_zero, b_ft, b_tf, Bool.false_eq_true]
  generalize hX : EvC Try.prog C3 (Code.loop _) _ = X
  obtain ⟨e, tm', L, he, hl', hc⟩ := ref_wit_inner' (a := a) (b := b) (y := y) (kk := k) (r := r) hX hk hl hyk hv hA hB (by simp only [List.length_set, hlen]) (by simp only [hlen, h0, gs_self, gs_ne, List.length_set, ne_eq, Nat.reduceEqDiff, Nat.reduceLT, not_false_eq_true]) (by simp only [hlen, h3, gs_self, gs_ne, List.length_set, ne_eq, Nat.reduceEqDiff, Nat.reduceLT, not_false_eq_true]) (by simp only [hlen, h7, gs_self, gs_ne, List.length_set, ne_eq, Nat.reduceEqDiff, Nat.reduceLT, not_false_eq_true]) (by simp only [hlen, gs_self, gs_ne, List.length_set, ne_eq, Nat.reduceEqDiff, Nat.reduceLT, not_false_eq_true] <;> rfl)
  subst he
  rcases hc with ⟨i', hf, rfl, g4, g5, g6⟩ | ⟨hf, rfl, hkeep⟩
  · refine .inl ⟨i', hf, ?_⟩
    simp -implicitDefEqProofs only [↓EvC_seq, ↓EvC_skip, ↓EvC_exit, ↓EvC_ret, ↓EvC_block, ↓EvC_cond, ↓ev_region, ↓runL_cons, ↓runL_nil, ↓stepO_none, ↓stepO_guard, ↓aop_move, ↓aop_assign, ↓aop_load, ↓aop_store, ↓aop_alloc, ↓aop_box, ↓aop_nilCheck, ↓aop_fieldAddr, ↓aop_field, ↓aop_indexAddr, ↓aop_binOp, ↓aop_pick, ↓aop_extract, ↓aop_buildSlice, ↓aop_slice, ↓aop_not, ↓aop_call, ↓callA_len, ↓callA_append, ev_tmp, ev_const, ofV_int, ofV_bool, ofV_str, ofV_nilSlice, ofV_nilPtr, putA_some, putA_none, gs_self, gs_ne, List.length_set, Option.bind_some, Option.map_some, intBinA, evL, evO, evP, ne_eq, not_false_eq_true, if_true, if_false, reduceCtorEq, ite_true, ite_false, reduceIte, put_app, AV.cells, and_true, true_and, and_self, decide_true, decide_false, ↓yielded_eq, yv_some, boolOf_bool, List.getElem?_toArray, List.getElem?_cons_zero, List.getElem?_cons_succ, Nat.reduceLT, Nat.reduceEqDiff, beq_self_eq_true, Option.some_beq_some, wr_app, wr_app0, rd_app, rd_app0, rdL_here, rdL_next, wrL_here, wrL_next, spl, List.all_cons, List.all_nil, AV.one, Bool.and_self, Bool.true_and, List.drop_zero, List.take_succ_cons, List.take_zero, List.drop_succ_cons, List.head?_cons, Nat.reduceAdd, Nat.reduceLeDiff, List.length_cons, List.length_nil, List.nil_append, List.cons_append, List.set_cons_zero, List.set_cons_succ, Int.toNat_natCast, Nat.add_zero, b_ft, b_tf, Bool.false_eq_true]
    exact ⟨_, _, rfl, hl', g4, g5, g6⟩
  · refine .inr ⟨hf, ?_⟩
    have z0 := hkeep 0 (by simp)
    have z3 := hkeep 3 (by simp)
    have z7 := hkeep 7 (by simp)
    simp only [hlen, gs_self, gs_ne, List.length_set, ne_eq, Nat.reduceEqDiff, Nat.reduceLT, not_false_eq_true] at z0 z3 z7
    simp -implicitDefEqProofs only [hl', z7, h7, hw, ↓EvC_seq, ↓EvC_skip, ↓EvC_exit, ↓EvC_ret, ↓EvC_block, ↓EvC_cond, ↓ev_region, ↓runL_cons, ↓runL_nil, ↓stepO_none, ↓stepO_guard, ↓aop_move, ↓aop_assign, ↓aop_load, ↓aop_store, ↓aop_alloc, ↓aop_box, ↓aop_nilCheck, ↓aop_fieldAddr, ↓aop_field, ↓aop_indexAddr, ↓aop_binOp, ↓aop_pick, ↓aop_extract, ↓aop_buildSlice, ↓aop_slice, ↓aop_not, ↓aop_call, ↓callA_len, ↓callA_append, ev_tmp, ev_const, ofV_int, ofV_bool, ofV_str, ofV_nilSlice, ofV_nilPtr, putA_some, putA_none, gs_self, gs_ne, List.length_set, Option.bind_some, Option.map_some, intBinA, evL, evO, evP, ne_eq, not_false_eq_true, if_true, if_false, reduceCtorEq, ite_true, ite_false, reduceIte, put_app, AV.cells, and_true, true_and, and_self, decide_true, decide_false, ↓yielded_eq, yv_some, boolOf_bool, List.getElem?_toArray, List.getElem?_cons_zero, List.getElem?_cons_succ, Nat.reduceLT, Nat.reduceEqDiff, beq_self_eq_true, Option.some_beq_some, wr_app, wr_app0, rd_app, rd_app0, rdL_here, rdL_next, wrL_here, wrL_next, spl, List.all_cons, List.all_nil, AV.one, Bool.and_self, Bool.true_and, List.drop_zero, List.take_succ_cons, List.take_zero, List.drop_succ_cons, List.head?_cons, Nat.reduceAdd, Nat.reduceLeDiff, List.length_cons, List.length_nil, List.nil_append, List.cons_append, List.set_cons_zero, List.set_cons_succ, Int.toNat_natCast, Nat.add_zero, b_ft, b_tf, Bool.false_eq_true]
    refine ⟨_, _, rfl, by simp only [List.length_set, hl'], fun t ht => ?_, by simp only [hl', gs_self, gs_ne, List.length_set, ne_eq, Nat.reduceEqDiff, Nat.reduceLT, not_false_eq_true]⟩
    simp only [List.mem_cons, List.not_mem_nil, or_false] at ht
    rcases ht with rfl | rfl <;> simp only [hl', z0, z3, gs_self, gs_ne, List.length_set, ne_eq, Nat.reduceEqDiff, Nat.reduceLT, not_false_eq_true]

theorem ref_wit_outer_end {v : AV} {l : List E6} {H : AH} {tm : List AV} (hv : EvS H v l) (hlen : tm.length = 51) (h0 : tm.getD 0 undefA = v) (h7 : tm.getD 7 undefA = I l.length) : ∃ tm', EvC Try.prog C3 l23_1 (tm, H) = some (.exit 0, (tm', H)) ∧ tm'.length = 51 := by
  have hla := hv.evs.len
  have hlt : decide ((l.length : Int) < (l.length : Int)) = false := by simp
  rw [el23_1]
  simp -implicitDefEqProofs only [b23_1, atPath, Try.f23, Option.getD_some, hlen, h0, h7, hlt, hla, ↓EvC_seq, ↓EvC_skip, ↓EvC_exit, ↓EvC_ret, ↓EvC_block, ↓EvC_cond, ↓ev_region, ↓runL_cons, ↓runL_nil, ↓stepO_none, ↓stepO_guard, ↓aop_move, ↓aop_assign, ↓aop_load, ↓aop_store, ↓aop_alloc, ↓aop_box, ↓aop_nilCheck, ↓aop_fieldAddr, ↓aop_field, ↓aop_indexAddr, ↓aop_binOp, ↓aop_pick, ↓aop_extract, ↓aop_buildSlice, ↓aop_slice, ↓aop_not, ↓aop_call, ↓callA_len, ↓callA_append, ev_tmp, ev_const, ofV_int, ofV_bool, ofV_str, ofV_nilSlice, ofV_nilPtr, putA_some, putA_none, gs_self, gs_ne, List.length_set, Option.bind_some, Option.map_some, intBinA, evL, evO, evP, ne_eq, not_false_eq_true, if_true, if_false, reduceCtorEq, ite_true, ite_false, reduceIte, put_app, AV.cells, and_true, true_and, and_self, decide_true, decide_false, ↓yielded_eq, yv_some, boolOf_bool, List.getElem?_toArray, List.getElem?_cons_zero, List.getElem?_cons_succ, Nat.reduceLT, Nat.reduceEqDiff, beq_self_eq_true, Option.some_beq_some, wr_app, wr_app0, rd_app, rd_app0, rdL_here, rdL_next, wrL_here, wrL_next, spl, List.all_cons, List.all_nil, AV.one, Bool.and_self, Bool.true_and, List.drop_zero, List.take_succ_cons, List.take_zero, List.drop_succ_cons, List.head?_cons, Nat.reduceAdd, Nat.reduceLeDiff, List.length_cons, List.length_nil, List.nil_append, List.cons_append, List.set_cons_zero, List.set_cons_succ, Int.toNat_natCast, Nat.add_zero, b_ft, b_tf, Bool.false_eq_true]
  exact ⟨_, rfl, by simp only [List.length_set, hlen]⟩

theorem ref_wit_outer {v : AV} {l : List E6} {a b : E6} {r : Nat} (hl : l.length < 2 ^ 62) : ∀ (d k : Nat) (tm : List AV) (H : AH), l.length - k = d → k ≤ l.length → EvS H v l →
    (∀ L, rdCells (H ++ L) r 0 5 = some [I a.sp, I a.bl, I a.ce, I a.th, I a.ki]) → (∀ L, rdCells (H ++ L) r 5 5 = some [I b.sp, I b.bl, I b.ce, I b.th, I b.ki]) →
    tm.length = 51 → tm.getD 0 undefA = v → tm.getD 3 undefA = .ptr r 0 → tm.getD 7 undefA = I k →
    ∃ e tm' L, EvC Try.prog C3 l23_1 (tm, H) = some (e, (tm', H ++ L)) ∧ tm'.length = 51 ∧
      ((∃ i n, firstPair (fun x y => x.wit' y a b) l (l.drop k) k = some (i, n) ∧ e = .ret ∧ tm'.getD 4 undefA = I i ∧ tm'.getD 5 undefA = I n ∧ tm'.getD 6 undefA = .bool true) ∨
       (firstPair (fun x y => x.wit' y a b) l (l.drop k) k = none ∧ e = .exit 0)) := by
  intro d
  induction d with
  | zero =>
    intro k tm H hd hk hv hA hB hlen h0 h3 h7
    obtain rfl : k = l.length := by omega
    obtain ⟨tm', he, hl'⟩ := ref_wit_outer_end hv hlen h0 h7
    exact ⟨_, tm', [], by rw [List.append_nil]; exact he, hl', .inr ⟨by simp [firstPair], rfl⟩⟩
  | succ d ih =>
    intro k tm H hd hk hv hA hB hlen h0 h3 h7
    obtain ⟨y, hy⟩ : ∃ y, l[k]? = some y := ⟨_, List.getElem?_eq_getElem (by omega)⟩
    have hdl : l.drop k = y :: l.drop (k + 1) := by rw [List.drop_eq_getElem_cons (by omega)]; congr 1; rw [List.getElem?_eq_getElem (by omega)] at hy; exact Option.some.inj hy
    rw [hdl]
    simp only [firstPair]
    rcases ref_wit_outer_round (a := a) (b := b) hv (by omega) hl hy hA hB hlen h0 h3 h7 with ⟨i, hf, tm', L, hev, hl', g4, g5, g6⟩ | ⟨hf, tm', L, hev, hl', hkeep, g7⟩
    · rw [hf]
      exact ⟨_, tm', L, hev, hl', .inl ⟨i, k, rfl, rfl, g4, g5, g6⟩⟩
    · rw [hf]
      obtain ⟨e', tm2, L2, hev2, hl2, hc⟩ := ih (k + 1) tm' (H ++ L) (by omega) (by omega) (hv.more L) (rd_grow hA L) (rd_grow hB L) hl' ((hkeep 0 (by simp)).trans h0) ((hkeep 3 (by simp)).trans h3) g7
      exact ⟨e', tm2, L ++ L2, by rw [hev, hev2, List.append_assoc], hl2, hc⟩

end Go.Dv

/- race.Witness and ref21.Witness, whole; the law RaceWitness on abstract heaps (printed by t34.py, own work). -/
namespace Go.Dv
open Go.Proofs
set_option maxRecDepth 100000
set_option linter.unusedSimpArgs false
set_option linter.unusedVariables false
attribute [local congr] bind_congr_first

def rcells (a b : E6) : List AV := [I a.sp, I a.bl, I a.ce, I a.th, I a.ki, I b.sp, I b.bl, I b.ce, I b.th, I b.ki]
theorem wit_outer' {v : AV} {l : List E6} {a b : E6} {r : Nat} {tm : List AV} {H : AH} {X : Option (AExit × St)} (hX : EvC Try.prog C3 l22_1 (tm, H) = X) (hl : l.length < 2 ^ 62) (hv : EvS H v l)
    (hA : ∀ L, rdCells (H ++ L) r 0 5 = some [I a.sp, I a.bl, I a.ce, I a.th, I a.ki]) (hB : ∀ L, rdCells (H ++ L) r 5 5 = some [I b.sp, I b.bl, I b.ce, I b.th, I b.ki])
    (hlen : tm.length = 61) (h0 : tm.getD 0 undefA = v) (h3 : tm.getD 3 undefA = .ptr r 0) (h15 : tm.getD 15 undefA = v) (h16 : tm.getD 16 undefA = I l.length) (h17 : tm.getD 17 undefA = I ((0 : Nat) : Int)) :
    ∃ e tm' L, X = some (e, (tm', H ++ L)) ∧ tm'.length = 61 ∧
      ((∃ i n, firstPair (fun x y => x.wit y a b) l l 0 = some (i, n) ∧ e = .ret ∧ tm'.getD 4 undefA = I i ∧ tm'.getD 5 undefA = I n ∧ tm'.getD 6 undefA = .bool true ∧ tm'.getD 7 undefA = I 0) ∨
       (firstPair (fun x y => x.wit y a b) l l 0 = none ∧ e = .exit 0)) := by
  subst hX
  have := wit_outer (a := a) (b := b) hl l.length 0 tm H (by omega) (by omega) hv hA hB hlen h0 h3 h15 h16 h17
  simpa using this

theorem ref_wit_outer' {v : AV} {l : List E6} {a b : E6} {r : Nat} {tm : List AV} {H : AH} {X : Option (AExit × St)} (hX : EvC Try.prog C3 l23_1 (tm, H) = X) (hl : l.length < 2 ^ 62) (hv : EvS H v l)
    (hA : ∀ L, rdCells (H ++ L) r 0 5 = some [I a.sp, I a.bl, I a.ce, I a.th, I a.ki]) (hB : ∀ L, rdCells (H ++ L) r 5 5 = some [I b.sp, I b.bl, I b.ce, I b.th, I b.ki])
    (hlen : tm.length = 51) (h0 : tm.getD 0 undefA = v) (h3 : tm.getD 3 undefA = .ptr r 0) (h7 : tm.getD 7 undefA = I ((0 : Nat) : Int)) :
    ∃ e tm' L, X = some (e, (tm', H ++ L)) ∧ tm'.length = 51 ∧
      ((∃ i n, firstPair (fun x y => x.wit' y a b) l l 0 = some (i, n) ∧ e = .ret ∧ tm'.getD 4 undefA = I i ∧ tm'.getD 5 undefA = I n ∧ tm'.getD 6 undefA = .bool true) ∨
       (firstPair (fun x y => x.wit' y a b) l l 0 = none ∧ e = .exit 0)) := by
  subst hX
  have := ref_wit_outer (a := a) (b := b) hl l.length 0 tm H (by omega) (by omega) hv hA hB hlen h0 h3 h7
  simpa using this

def witOf : Option (Nat × Nat) → AV × AV × AV
  | some (i, n) => (I i, I n, .bool true)
  | none => (I 0, I 0, .bool false)

theorem wit_ev {v : AV} {H : AH} {l : List E6} {a b : E6} (hv : EvS H v l) (hl : l.length < 2 ^ 62) : ∃ L, Ev Try.prog C3 22 [v, .agg (rcells a b)] H = some (
    (bif !(decide ((l.length : Int) > 4000)) && !(l.any E6.bad) then .tuple [(witOf (firstPair (fun x y => x.wit y a b) l l 0)).1, (witOf (firstPair (fun x y => x.wit y a b) l l 0)).2.1, (witOf (firstPair (fun x y => x.wit y a b) l l 0)).2.2, I 0] else .tuple [I 0, I 0, .bool false, I 1]), H ++ L) := by
  have g0 : ([v, .agg (rcells a b)] ++ List.replicate (61 - [v, .agg (rcells a b)].length) undefA).length = 61 := by simp
  have g1 : ([v, .agg (rcells a b)] ++ List.replicate (61 - [v, .agg (rcells a b)].length) undefA).getD 0 undefA = v := rfl
  have g2 : ([v, .agg (rcells a b)] ++ List.replicate (61 - [v, .agg (rcells a b)].length) undefA).getD 1 undefA = .agg (rcells a b) := rfl
  have hla := hv.evs.len
  have hval : ∀ L, Ev Try.prog C3 18 [v] (H ++ L) = some (.bool (!(decide ((l.length : Int) > 4000)) && !(l.any E6.bad)), H ++ L) := fun L => valid_ev (hv.more L).evs hl
  have hH : H = H ++ [] := by simp
  rw [fe22]
  generalize [v, .agg (rcells a b)] ++ List.replicate (61 - [v, .agg (rcells a b)].length) undefA = tm at *
  cases hb : (!(decide ((l.length : Int) > 4000)) && !(l.any E6.bad))
  · rw [hb] at hval
    apply Exists.intro
    conv => lhs; rw [hH]
    simp -implicitDefEqProofs only [c22, Try.f22, Option.getD_some, g0, g1, g2, hval, ↓fc18, Bool.not_false, cond_false, ↓EvC_seq, ↓EvC_skip, ↓EvC_exit, ↓EvC_ret, ↓EvC_block, ↓EvC_cond, ↓ev_region, ↓runL_cons, ↓runL_nil, ↓stepO_none, ↓stepO_guard, ↓aop_move, ↓aop_assign, ↓aop_load, ↓aop_store, ↓aop_alloc, ↓aop_box, ↓aop_nilCheck, ↓aop_fieldAddr, ↓aop_field, ↓aop_indexAddr, ↓aop_binOp, ↓aop_pick, ↓aop_extract, ↓aop_buildSlice, ↓aop_slice, ↓aop_not, ↓aop_call, ↓callA_len, ↓callA_append, ev_tmp, ev_const, ofV_int, ofV_bool, ofV_str, ofV_nilSlice, ofV_nilPtr, putA_some, putA_none, gs_self, gs_ne, List.length_set, Option.bind_some, Option.map_some, intBinA, evL, evO, evP, ne_eq, not_false_eq_true, if_true, if_false, reduceCtorEq, ite_true, ite_false, reduceIte, put_app, AV.cells, and_true, true_and, and_self, decide_true, decide_false, ↓yielded_eq, yv_some, boolOf_bool, List.getElem?_toArray, List.getElem?_cons_zero, List.getElem?_cons_succ, Nat.reduceLT, Nat.reduceEqDiff, beq_self_eq_true, Option.some_beq_some, wr_app, wr_app0, rd_app, rd_app0, rdL_here, rdL_next, wrL_here, wrL_next, spl, List.all_cons, List.all_nil, AV.one, Bool.and_self, Bool.true_and, List.drop_zero, List.take_succ_cons, List.take_zero, List.drop_succ_cons, List.head?_cons, Nat.reduceAdd, Nat.reduceLeDiff, List.length_cons, List.length_nil, List.nil_append, List.cons_append, List.set_cons_zero, List.set_cons_succ, Int.toNat_natCast, Nat.add_zero, b_ft, b_tf, Bool.false_eq_true]
    with_reducible rfl
  · rw [hb] at hval
    conv => enter [1, L]; lhs; rw [hH]
    simp -implicitDefEqProofs only [c22, Try.f22, Option.getD_some, g0, g1, g2, hval, hla, ↓fc18, Bool.not_true, cond_true, ↓EvC_seq, ↓EvC_skip, ↓EvC_exit, ↓EvC_ret, ↓EvC_block, ↓EvC_cond, ↓ev_region, ↓runL_cons, ↓runL_nil, ↓stepO_none, ↓stepO_guard, ↓aop_move, ↓aop_assign, ↓aop_load, ↓aop_store, ↓aop_alloc, ↓aop_box, ↓aop_nilCheck, ↓aop_fieldAddr, ↓aop_field, ↓aop_indexAddr, ↓aop_binOp, ↓aop_pick, ↓aop_extract, ↓aop_buildSlice, ↓aop_slice, ↓aop_not, ↓aop_call, ↓callA_len, ↓callA_append, ev_tmp, ev_const, ofV_int, ofV_bool, ofV_str, ofV_nilSlice, ofV_nilPtr, putA_some, putA_none, gs_self, gs_ne, List.length_set, Option.bind_some, Option.map_some, intBinA, evL, evO, evP, ne_eq, not_false_eq_true, if_true, if_false, reduceCtorEq, ite_true, ite_false, reduceIte, put_app, AV.cells, and_true, true_and, and_self, decide_true, decide_false, ↓yielded_eq, yv_some, boolOf_bool, List.getElem?_toArray, List.getElem?_cons_zero, List.getElem?_cons_succ, Nat.reduceLT, Nat.reduceEqDiff, beq_self_eq_true, Option.some_beq_some, wr_app, wr_app0, rd_app, rd_app0, rdL_here, rdL_next, wrL_here, wrL_next, spl, List.all_cons, List.all_nil, AV.one, Bool.and_self, Bool.true_and, List.drop_zero, List.take_succ_cons, List.take_zero, List.drop_succ_cons, List.head?_cons, Nat.reduceAdd, Nat.reduceLeDiff, List.length_cons, List.length_nil, List.nil_append, List.cons_append, List.set_cons_zero, List.set_cons_succ, Int.toNat_natCast, Nat.add_zero, b_ft, b_tf, Bool.false_eq_true]
    generalize hX : EvC Try.prog C3 (Code.loop _) _ = X
    have hA : ∀ L, rdCells ((H ++ [.cells (rcells a b) 38]) ++ L) H.length 0 5 = some [I a.sp, I a.bl, I a.ce, I a.th, I a.ki] := fun L => by rw [List.append_assoc, rd_app0]; rfl
    have hB : ∀ L, rdCells ((H ++ [.cells (rcells a b) 38]) ++ L) H.length 5 5 = some [I b.sp, I b.bl, I b.ce, I b.th, I b.ki] := fun L => by rw [List.append_assoc, rd_app0]; rfl
    obtain ⟨e, tm', L, he, hl', hc⟩ := wit_outer' (a := a) (b := b) (r := H.length) hX hl (hv.more _) hA hB (by simp only [List.length_set, g0]) (by simp only [g0, g1, gs_self, gs_ne, List.length_set, ne_eq, Nat.reduceEqDiff, Nat.reduceLT, not_false_eq_true]) (by simp only [g0, gs_self, gs_ne, List.length_set, ne_eq, Nat.reduceEqDiff, Nat.reduceLT, not_false_eq_true]) (by simp only [g0, gs_self, gs_ne, List.length_set, ne_eq, Nat.reduceEqDiff, Nat.reduceLT, not_false_eq_true]) (by simp only [g0, gs_self, gs_ne, List.length_set, ne_eq, Nat.reduceEqDiff, Nat.reduceLT, not_false_eq_true]) (by simp only [g0, gs_self, gs_ne, List.length_set, ne_eq, Nat.reduceEqDiff, Nat.reduceLT, not_false_eq_true] <;> rfl)
    subst he
    rcases hc with ⟨i, n, hf, rfl, g4, g5, g6, g7⟩ | ⟨hf, rfl⟩
    · refine ⟨[.cells (rcells a b) 38] ++ L, ?_⟩
      rw [hf]
      simp -implicitDefEqProofs only [hl', g4, g5, g6, g7, witOf, List.append_assoc, ↓EvC_seq, ↓EvC_skip, ↓EvC_exit, ↓EvC_ret, ↓EvC_block, ↓EvC_cond, ↓ev_region, ↓runL_cons, ↓runL_nil, ↓stepO_none, ↓stepO_guard, ↓aop_move, ↓aop_assign, ↓aop_load, ↓aop_store, ↓aop_alloc, ↓aop_box, ↓aop_nilCheck, ↓aop_fieldAddr, ↓aop_field, ↓aop_indexAddr, ↓aop_binOp, ↓aop_pick, ↓aop_extract, ↓aop_buildSlice, ↓aop_slice, ↓aop_not, ↓aop_call, ↓callA_len, ↓callA_append, ev_tmp, ev_const, ofV_int, ofV_bool, ofV_str, ofV_nilSlice, ofV_nilPtr, putA_some, putA_none, gs_self, gs_ne, List.length_set, Option.bind_some, Option.map_some, intBinA, evL, evO, evP, ne_eq, not_false_eq_true, if_true, if_false, reduceCtorEq, ite_true, ite_false, reduceIte, put_app, AV.cells, and_true, true_and, and_self, decide_true, decide_false, ↓yielded_eq, yv_some, boolOf_bool, List.getElem?_toArray, List.getElem?_cons_zero, List.getElem?_cons_succ, Nat.reduceLT, Nat.reduceEqDiff, beq_self_eq_true, Option.some_beq_some, wr_app, wr_app0, rd_app, rd_app0, rdL_here, rdL_next, wrL_here, wrL_next, spl, List.all_cons, List.all_nil, AV.one, Bool.and_self, Bool.true_and, List.drop_zero, List.take_succ_cons, List.take_zero, List.drop_succ_cons, List.head?_cons, Nat.reduceAdd, Nat.reduceLeDiff, List.length_cons, List.length_nil, List.nil_append, List.cons_append, List.set_cons_zero, List.set_cons_succ, Int.toNat_natCast, Nat.add_zero, b_ft, b_tf, Bool.false_eq_true]
    · refine ⟨[.cells (rcells a b) 38] ++ L, ?_⟩
      rw [hf]
      simp -implicitDefEqProofs only [hl', witOf, List.append_assoc, ↓EvC_seq, ↓EvC_skip, ↓EvC_exit, ↓EvC_ret, ↓EvC_block, ↓EvC_cond, ↓ev_region, ↓runL_cons, ↓runL_nil, ↓stepO_none, ↓stepO_guard, ↓aop_move, ↓aop_assign, ↓aop_load, ↓aop_store, ↓aop_alloc, ↓aop_box, ↓aop_nilCheck, ↓aop_fieldAddr, ↓aop_field, ↓aop_indexAddr, ↓aop_binOp, ↓aop_pick, ↓aop_extract, ↓aop_buildSlice, ↓aop_slice, ↓aop_not, ↓aop_call, ↓callA_len, ↓callA_append, ev_tmp, ev_const, ofV_int, ofV_bool, ofV_str, ofV_nilSlice, ofV_nilPtr, putA_some, putA_none, gs_self, gs_ne, List.length_set, Option.bind_some, Option.map_some, intBinA, evL, evO, evP, ne_eq, not_false_eq_true, if_true, if_false, reduceCtorEq, ite_true, ite_false, reduceIte, put_app, AV.cells, and_true, true_and, and_self, decide_true, decide_false, ↓yielded_eq, yv_some, boolOf_bool, List.getElem?_toArray, List.getElem?_cons_zero, List.getElem?_cons_succ, Nat.reduceLT, Nat.reduceEqDiff, beq_self_eq_true, Option.some_beq_some, wr_app, wr_app0, rd_app, rd_app0, rdL_here, rdL_next, wrL_here, wrL_next, spl, List.all_cons, List.all_nil, AV.one, Bool.and_self, Bool.true_and, List.drop_zero, List.take_succ_cons, List.take_zero, List.drop_succ_cons, List.head?_cons, Nat.reduceAdd, Nat.reduceLeDiff, List.length_cons, List.length_nil, List.nil_append, List.cons_append, List.set_cons_zero, List.set_cons_succ, Int.toNat_natCast, Nat.add_zero, b_ft, b_tf, Bool.false_eq_true]

theorem ref_wit_ev {v : AV} {H : AH} {l : List E6} {a b : E6} (hv : EvS H v l) (hl : l.length < 2 ^ 62) : ∃ L, Ev Try.prog C3 23 [v, .agg (rcells a b)] H = some (
    .tuple [(witOf (firstPair (fun x y => x.wit' y a b) l l 0)).1, (witOf (firstPair (fun x y => x.wit' y a b) l l 0)).2.1, (witOf (firstPair (fun x y => x.wit' y a b) l l 0)).2.2], H ++ L) := by
  have g0 : ([v, .agg (rcells a b)] ++ List.replicate (51 - [v, .agg (rcells a b)].length) undefA).length = 51 := by simp
  have g1 : ([v, .agg (rcells a b)] ++ List.replicate (51 - [v, .agg (rcells a b)].length) undefA).getD 0 undefA = v := rfl
  have g2 : ([v, .agg (rcells a b)] ++ List.replicate (51 - [v, .agg (rcells a b)].length) undefA).getD 1 undefA = .agg (rcells a b) := rfl
  have hH : H = H ++ [] := by simp
  rw [fe23]
  generalize [v, .agg (rcells a b)] ++ List.replicate (51 - [v, .agg (rcells a b)].length) undefA = tm at *
  conv => enter [1, L]; lhs; rw [hH]
  simp -implicitDefEqProofs only [c23, Try.f23, Option.getD_some, g0, g1, g2, ↓EvC_seq, ↓EvC_skip, ↓EvC_exit, ↓EvC_ret, ↓EvC_block, ↓EvC_cond, ↓ev_region, ↓runL_cons, ↓runL_nil, ↓stepO_none, ↓stepO_guard, ↓aop_move, ↓aop_assign, ↓aop_load, ↓aop_store, ↓aop_alloc, ↓aop_box, ↓aop_nilCheck, ↓aop_fieldAddr, ↓aop_field, ↓aop_indexAddr, ↓aop_binOp, ↓aop_pick, ↓aop_extract, ↓aop_buildSlice, ↓aop_slice, ↓aop_not, ↓aop_call, ↓callA_len, ↓callA_append, ev_tmp, ev_const, ofV_int, ofV_bool, ofV_str, ofV_nilSlice, ofV_nilPtr, putA_some, putA_none, gs_self, gs_ne, List.length_set, Option.bind_some, Option.map_some, intBinA, evL, evO, evP, ne_eq, not_false_eq_true, if_true, if_false, reduceCtorEq, ite_true, ite_false, reduceIte, put_app, AV.cells, and_true, true_and, and_self, decide_true, decide_false, ↓yielded_eq, yv_some, boolOf_bool, List.getElem?_toArray, List.getElem?_cons_zero, List.getElem?_cons_succ, Nat.reduceLT, Nat.reduceEqDiff, beq_self_eq_true, Option.some_beq_some, wr_app, wr_app0, rd_app, rd_app0, rdL_here, rdL_next, wrL_here, wrL_next, spl, List.all_cons, List.all_nil, AV.one, Bool.and_self, Bool.true_and, List.drop_zero, List.take_succ_cons, List.take_zero, List.drop_succ_cons, List.head?_cons, Nat.reduceAdd, Nat.reduceLeDiff, List.length_cons, List.length_nil, List.nil_append, List.cons_append, List.set_cons_zero, List.set_cons_succ, Int.toNat_natCast, Nat.add_zero, b_ft, b_tf, Bool.false_eq_true]
  generalize hX : EvC Try.prog C3 (Code.loop _) _ = X
  have hA : ∀ L, rdCells ((H ++ [.cells (rcells a b) 38]) ++ L) H.length 0 5 = some [I a.sp, I a.bl, I a.ce, I a.th, I a.ki] := fun L => by rw [List.append_assoc, rd_app0]; rfl
  have hB : ∀ L, rdCells ((H ++ [.cells (rcells a b) 38]) ++ L) H.length 5 5 = some [I b.sp, I b.bl, I b.ce, I b.th, I b.ki] := fun L => by rw [List.append_assoc, rd_app0]; rfl
  obtain ⟨e, tm', L, he, hl', hc⟩ := ref_wit_outer' (a := a) (b := b) (r := H.length) hX hl (hv.more _) hA hB (by simp only [List.length_set, g0]) (by simp only [g0, g1, gs_self, gs_ne, List.length_set, ne_eq, Nat.reduceEqDiff, Nat.reduceLT, not_false_eq_true]) (by simp only [g0, gs_self, gs_ne, List.length_set, ne_eq, Nat.reduceEqDiff, Nat.reduceLT, not_false_eq_true]) (by simp only [g0, gs_self, gs_ne, List.length_set, ne_eq, Nat.reduceEqDiff, Nat.reduceLT, not_false_eq_true] <;> rfl)
  subst he
  refine ⟨[.cells (rcells a b) 38] ++ L, ?_⟩
  rcases hc with ⟨i, n, hf, rfl, g4, g5, g6⟩ | ⟨hf, rfl⟩
  · rw [hf]
    simp -implicitDefEqProofs only [hl', g4, g5, g6, witOf, List.append_assoc, ↓EvC_seq, ↓EvC_skip, ↓EvC_exit, ↓EvC_ret, ↓EvC_block, ↓EvC_cond, ↓ev_region, ↓runL_cons, ↓runL_nil, ↓stepO_none, ↓stepO_guard, ↓aop_move, ↓aop_assign, ↓aop_load, ↓aop_store, ↓aop_alloc, ↓aop_box, ↓aop_nilCheck, ↓aop_fieldAddr, ↓aop_field, ↓aop_indexAddr, ↓aop_binOp, ↓aop_pick, ↓aop_extract, ↓aop_buildSlice, ↓aop_slice, ↓aop_not, ↓aop_call, ↓callA_len, ↓callA_append, ev_tmp, ev_const, ofV_int, ofV_bool, ofV_str, ofV_nilSlice, ofV_nilPtr, putA_some, putA_none, gs_self, gs_ne, List.length_set, Option.bind_some, Option.map_some, intBinA, evL, evO, evP, ne_eq, not_false_eq_true, if_true, if_false, reduceCtorEq, ite_true, ite_false, reduceIte, put_app, AV.cells, and_true, true_and, and_self, decide_true, decide_false, ↓yielded_eq, yv_some, boolOf_bool, List.getElem?_toArray, List.getElem?_cons_zero, List.getElem?_cons_succ, Nat.reduceLT, Nat.reduceEqDiff, beq_self_eq_true, Option.some_beq_some, wr_app, wr_app0, rd_app, rd_app0, rdL_here, rdL_next, wrL_here, wrL_next, spl, List.all_cons, List.all_nil, AV.one, Bool.and_self, Bool.true_and, List.drop_zero, List.take_succ_cons, List.take_zero, List.drop_succ_cons, List.head?_cons, Nat.reduceAdd, Nat.reduceLeDiff, List.length_cons, List.length_nil, List.nil_append, List.cons_append, List.set_cons_zero, List.set_cons_succ, Int.toNat_natCast, Nat.add_zero, b_ft, b_tf, Bool.false_eq_true]
  · rw [hf]
    simp -implicitDefEqProofs only [hl', witOf, List.append_assoc, ↓EvC_seq, ↓EvC_skip, ↓EvC_exit, ↓EvC_ret, ↓EvC_block, ↓EvC_cond, ↓ev_region, ↓runL_cons, ↓runL_nil, ↓stepO_none, ↓stepO_guard, ↓aop_move, ↓aop_assign, ↓aop_load, ↓aop_store, ↓aop_alloc, ↓aop_box, ↓aop_nilCheck, ↓aop_fieldAddr, ↓aop_field, ↓aop_indexAddr, ↓aop_binOp, ↓aop_pick, ↓aop_extract, ↓aop_buildSlice, ↓aop_slice, ↓aop_not, ↓aop_call, ↓callA_len, ↓callA_append, ev_tmp, ev_const, ofV_int, ofV_bool, ofV_str, ofV_nilSlice, ofV_nilPtr, putA_some, putA_none, gs_self, gs_ne, List.length_set, Option.bind_some, Option.map_some, intBinA, evL, evO, evP, ne_eq, not_false_eq_true, if_true, if_false, reduceCtorEq, ite_true, ite_false, reduceIte, put_app, AV.cells, and_true, true_and, and_self, decide_true, decide_false, ↓yielded_eq, yv_some, boolOf_bool, List.getElem?_toArray, List.getElem?_cons_zero, List.getElem?_cons_succ, Nat.reduceLT, Nat.reduceEqDiff, beq_self_eq_true, Option.some_beq_some, wr_app, wr_app0, rd_app, rd_app0, rdL_here, rdL_next, wrL_here, wrL_next, spl, List.all_cons, List.all_nil, AV.one, Bool.and_self, Bool.true_and, List.drop_zero, List.take_succ_cons, List.take_zero, List.drop_succ_cons, List.head?_cons, Nat.reduceAdd, Nat.reduceLeDiff, List.length_cons, List.length_nil, List.nil_append, List.cons_append, List.set_cons_zero, List.set_cons_succ, Int.toNat_natCast, Nat.add_zero, b_ft, b_tf, Bool.false_eq_true]

/-! the plain law -/
theorem accEqB_eq {a b c d e a' b' c' d' e' : Int} (h : accEqB a b c d e a' b' c' d' e' = true) : a = a' ∧ b = b' ∧ c = c' ∧ d = d' ∧ e = e' := by
  simp only [accEqB, Bool.and_eq_true, beq_iff_eq] at h
  exact ⟨h.1, h.2.1, h.2.2.1, h.2.2.2.1, h.2.2.2.2.1⟩

theorem spot_clash (x y : E6) : (x.spotEq y && x.clash y) = x.race y := by
  simp only [E6.spotEq, E6.clash, E6.race, spotEqB, clashB, raceB, sameB, bne]
  cases e1 : (x.sp == y.sp)
  · simp
  · have e2 := eq_of_beq e1
    rw [e2]
    have hk : ∀ k : Bool, (x.ki == y.ki) = k → k = true → (y.ki == 1) = (x.ki == 1) := by
      intro k h hk
      subst hk
      rw [eq_of_beq h]
    cases e3 : decide (y.sp < 0)
    · have e4 : decide (y.sp ≥ 0) = true := by simp at e3 ⊢; exact e3
      rw [e4]
      cases (x.bl == y.bl) <;> cases (x.ce == y.ce) <;> cases (x.th == y.th) <;> cases (x.ph == y.ph) <;> cases (x.ki == y.ki) <;> cases (x.ki == 1) <;> simp
    · have e4 : decide (y.sp ≥ 0) = false := by simp at e3 ⊢; exact e3
      rw [e4]
      simp only [cond_true]
      cases (x.bl == y.bl) <;> cases (x.ce == y.ce) <;> cases (x.th == y.th) <;> cases (x.ph == y.ph) <;> cases (x.ki == y.ki) <;> cases (x.ki == 1) <;> simp

theorem wit_same (x y a b : E6) : x.wit y a b = x.wit' y a b := by
  unfold E6.wit E6.wit'
  cases h1 : x.accEq a
  · rfl
  · cases h2 : y.accEq b
    · rfl
    · obtain ⟨e1, e2, e3, e4, e5⟩ := accEqB_eq h1
      obtain ⟨f1, f2, f3, f4, f5⟩ := accEqB_eq h2
      rw [← spot_clash]
      simp only [E6.spotEq, e1, e2, e3, f1, f2, f3, Bool.true_and]

theorem firstPair_same (l : List E6) (a b : E6) : firstPair (fun x y => x.wit y a b) l l 0 = firstPair (fun x y => x.wit' y a b) l l 0 := by
  have : (fun x y : E6 => x.wit y a b) = (fun x y => x.wit' y a b) := by funext x y; exact wit_same x y a b
  rw [this]

end Go.Dv

/- The law RaceWitness on abstract heaps (printed by t35.py, own work). -/
namespace Go.Dv
open Go.Proofs
set_option maxRecDepth 100000
set_option linter.unusedSimpArgs false
set_option linter.unusedVariables false
attribute [local congr] bind_congr_first

theorem fc15 (C : Cfg Try.prog) (slot : Option Nat) (tm : List AV) (H : AH) (o : Oper) (xs : Array Operand) (ats : Array TypeId) : callA Try.prog C slot (evalA tm) o ⟨.value (.func 15), xs, ats⟩ H = (evL (evalA tm) xs.toList).map fun vs => (.enter 15 vs, H) := callF (by rw [Try.func15]; rfl) slot _ H o xs ats rfl
theorem eqA4 (H : AH) (a b : Bool) : eqA Try.prog 4 H (.bool a) (.bool b) = some (a == b) := by kernel_rfl
theorem ld38 (H : AH) (i k : Nat) : ldA Try.prog 38 H i k = (rdCells H i k 10).map .agg := by kernel_rfl
theorem z_e1 : ((1 : Int) == 0) = false := rfl
theorem z_e0 : ((0 : Int) == 1) = false := rfl
theorem ld38_box (H L : AH) (a b : E6) : ldA Try.prog 38 (H ++ (.cells (rcells a b) 38 :: L)) H.length 0 = some (.agg (rcells a b)) := by
  rw [ld38, rd_app0]; rfl

theorem law6_ev (H : AH) (v : AV) (l : List E6) (a b : E6) (hl : l.length < 2 ^ 62) (hv : EvS H v l) : ∃ H', Ev Try.prog C3 6 [v, .agg (rcells a b)] H = some (.bool true, H') := by
  have g0 : ([v, .agg (rcells a b)] ++ List.replicate (71 - [v, .agg (rcells a b)].length) undefA).length = 71 := by simp
  have g1 : ([v, .agg (rcells a b)] ++ List.replicate (71 - [v, .agg (rcells a b)].length) undefA).getD 0 undefA = v := rfl
  have g2 : ([v, .agg (rcells a b)] ++ List.replicate (71 - [v, .agg (rcells a b)].length) undefA).getD 1 undefA = .agg (rcells a b) := rfl
  have hla := hv.evs.len
  have hH : H = H ++ [] := by simp
  have hbox : ∀ L, ldA Try.prog 38 (H ++ (.cells (rcells a b) 38 :: L)) H.length 0 = some (.agg (rcells a b)) := fun L => ld38_box H L a b
  rw [fe6]
  generalize [v, .agg (rcells a b)] ++ List.replicate (71 - [v, .agg (rcells a b)].length) undefA = tm at *
  cases h150 : decide ((l.length : Int) > 150)
  · have hle : l.length ≤ 150 := by simp at h150; omega
    obtain ⟨L1, e1⟩ := wit_ev (a := a) (b := b) (hv.more [.cells (rcells a b) 38]) hl
    rw [List.append_assoc] at e1
    obtain ⟨L2, e2⟩ := ref_valid_ev (hv.more (.cells (rcells a b) 38 :: L1)).evs hl
    rw [List.append_assoc] at e2
    obtain ⟨L3, e3⟩ := ref_wit_ev (a := a) (b := b) (hv.more (.cells (rcells a b) 38 :: (L1 ++ L2))) hl
    rw [List.append_assoc] at e3
    have v1 : (decide ((l.length : Int) > 4000)) = false := by simp; omega
    have v2 : (decide ((l.length : Int) ≤ 4000)) = true := by simp; omega
    rw [v1] at e1
    rw [v2] at e2
    rw [firstPair_same] at e1
    simp only [List.cons_append, List.nil_append] at e1 e2 e3
    conv => enter [1, L]; lhs; rw [hH]
    cases hb : l.any E6.bad
    · rw [hb] at e1 e2
      cases hr : firstPair (fun x y => x.wit' y a b) l l 0 with
      | none =>
        rw [hr] at e1 e3
        simp only [witOf, Bool.not_false, Bool.and_self, cond_true] at e1 e2 e3
        apply Exists.intro
        simp -implicitDefEqProofs only [c6, Try.f6, Option.getD_some, g0, g1, g2, hla, h150, e1, e2, e3, ↓hbox, eqA4, k3_awake, ↓fc22, ↓fc17, ↓fc23, ↓fc15, Bool.not_true, Bool.not_false, Bool.true_and, Bool.and_true, Bool.false_and, Bool.and_false, cond_true, cond_false, boolOf_undef, nb, beq_self_eq_true, Bool.and_self, z_e1, z_e0, ↓EvC_seq, ↓EvC_skip, ↓EvC_exit, ↓EvC_ret, ↓EvC_block, ↓EvC_cond, ↓ev_region, ↓runL_cons, ↓runL_nil, ↓stepO_none, ↓stepO_guard, ↓aop_move, ↓aop_assign, ↓aop_load, ↓aop_store, ↓aop_alloc, ↓aop_box, ↓aop_nilCheck, ↓aop_fieldAddr, ↓aop_field, ↓aop_indexAddr, ↓aop_binOp, ↓aop_pick, ↓aop_extract, ↓aop_buildSlice, ↓aop_slice, ↓aop_not, ↓aop_call, ↓callA_len, ↓callA_append, ev_tmp, ev_const, ofV_int, ofV_bool, ofV_str, ofV_nilSlice, ofV_nilPtr, putA_some, putA_none, gs_self, gs_ne, List.length_set, Option.bind_some, Option.map_some, intBinA, evL, evO, evP, ne_eq, not_false_eq_true, if_true, if_false, reduceCtorEq, ite_true, ite_false, reduceIte, put_app, AV.cells, and_true, true_and, and_self, decide_true, decide_false, ↓yielded_eq, yv_some, boolOf_bool, List.getElem?_toArray, List.getElem?_cons_zero, List.getElem?_cons_succ, Nat.reduceLT, Nat.reduceEqDiff, beq_self_eq_true, Option.some_beq_some, wr_app, wr_app0, rd_app, rd_app0, rdL_here, rdL_next, wrL_here, wrL_next, spl, List.all_cons, List.all_nil, AV.one, Bool.and_self, Bool.true_and, List.drop_zero, List.take_succ_cons, List.take_zero, List.drop_succ_cons, List.head?_cons, Nat.reduceAdd, Nat.reduceLeDiff, List.length_cons, List.length_nil, List.nil_append, List.cons_append, List.set_cons_zero, List.set_cons_succ, Int.toNat_natCast, Nat.add_zero, b_ft, b_tf, Bool.false_eq_true]
        with_reducible rfl
      | some p =>
        obtain ⟨i, n⟩ := p
        rw [hr] at e1 e3
        simp only [witOf, Bool.not_false, Bool.and_self, cond_true] at e1 e2 e3
        apply Exists.intro
        simp -implicitDefEqProofs only [c6, Try.f6, Option.getD_some, g0, g1, g2, hla, h150, e1, e2, e3, ↓hbox, eqA4, k3_awake, ↓fc22, ↓fc17, ↓fc23, ↓fc15, Bool.not_true, Bool.not_false, Bool.true_and, Bool.and_true, Bool.false_and, Bool.and_false, cond_true, cond_false, boolOf_undef, nb, beq_self_eq_true, Bool.and_self, z_e1, z_e0, ↓EvC_seq, ↓EvC_skip, ↓EvC_exit, ↓EvC_ret, ↓EvC_block, ↓EvC_cond, ↓ev_region, ↓runL_cons, ↓runL_nil, ↓stepO_none, ↓stepO_guard, ↓aop_move, ↓aop_assign, ↓aop_load, ↓aop_store, ↓aop_alloc, ↓aop_box, ↓aop_nilCheck, ↓aop_fieldAddr, ↓aop_field, ↓aop_indexAddr, ↓aop_binOp, ↓aop_pick, ↓aop_extract, ↓aop_buildSlice, ↓aop_slice, ↓aop_not, ↓aop_call, ↓callA_len, ↓callA_append, ev_tmp, ev_const, ofV_int, ofV_bool, ofV_str, ofV_nilSlice, ofV_nilPtr, putA_some, putA_none, gs_self, gs_ne, List.length_set, Option.bind_some, Option.map_some, intBinA, evL, evO, evP, ne_eq, not_false_eq_true, if_true, if_false, reduceCtorEq, ite_true, ite_false, reduceIte, put_app, AV.cells, and_true, true_and, and_self, decide_true, decide_false, ↓yielded_eq, yv_some, boolOf_bool, List.getElem?_toArray, List.getElem?_cons_zero, List.getElem?_cons_succ, Nat.reduceLT, Nat.reduceEqDiff, beq_self_eq_true, Option.some_beq_some, wr_app, wr_app0, rd_app, rd_app0, rdL_here, rdL_next, wrL_here, wrL_next, spl, List.all_cons, List.all_nil, AV.one, Bool.and_self, Bool.true_and, List.drop_zero, List.take_succ_cons, List.take_zero, List.drop_succ_cons, List.head?_cons, Nat.reduceAdd, Nat.reduceLeDiff, List.length_cons, List.length_nil, List.nil_append, List.cons_append, List.set_cons_zero, List.set_cons_succ, Int.toNat_natCast, Nat.add_zero, b_ft, b_tf, Bool.false_eq_true]
        with_reducible rfl
    · rw [hb] at e1 e2
      simp only [Bool.not_false, Bool.not_true, Bool.and_false, cond_false] at e1 e2
      apply Exists.intro
      simp -implicitDefEqProofs only [c6, Try.f6, Option.getD_some, g0, g1, g2, hla, h150, e1, e2, e3, ↓hbox, eqA4, k3_awake, ↓fc22, ↓fc17, ↓fc23, ↓fc15, Bool.not_true, Bool.not_false, Bool.true_and, Bool.and_true, Bool.false_and, Bool.and_false, cond_true, cond_false, boolOf_undef, nb, beq_self_eq_true, Bool.and_self, z_e1, z_e0, ↓EvC_seq, ↓EvC_skip, ↓EvC_exit, ↓EvC_ret, ↓EvC_block, ↓EvC_cond, ↓ev_region, ↓runL_cons, ↓runL_nil, ↓stepO_none, ↓stepO_guard, ↓aop_move, ↓aop_assign, ↓aop_load, ↓aop_store, ↓aop_alloc, ↓aop_box, ↓aop_nilCheck, ↓aop_fieldAddr, ↓aop_field, ↓aop_indexAddr, ↓aop_binOp, ↓aop_pick, ↓aop_extract, ↓aop_buildSlice, ↓aop_slice, ↓aop_not, ↓aop_call, ↓callA_len, ↓callA_append, ev_tmp, ev_const, ofV_int, ofV_bool, ofV_str, ofV_nilSlice, ofV_nilPtr, putA_some, putA_none, gs_self, gs_ne, List.length_set, Option.bind_some, Option.map_some, intBinA, evL, evO, evP, ne_eq, not_false_eq_true, if_true, if_false, reduceCtorEq, ite_true, ite_false, reduceIte, put_app, AV.cells, and_true, true_and, and_self, decide_true, decide_false, ↓yielded_eq, yv_some, boolOf_bool, List.getElem?_toArray, List.getElem?_cons_zero, List.getElem?_cons_succ, Nat.reduceLT, Nat.reduceEqDiff, beq_self_eq_true, Option.some_beq_some, wr_app, wr_app0, rd_app, rd_app0, rdL_here, rdL_next, wrL_here, wrL_next, spl, List.all_cons, List.all_nil, AV.one, Bool.and_self, Bool.true_and, List.drop_zero, List.take_succ_cons, List.take_zero, List.drop_succ_cons, List.head?_cons, Nat.reduceAdd, Nat.reduceLeDiff, List.length_cons, List.length_nil, List.nil_append, List.cons_append, List.set_cons_zero, List.set_cons_succ, Int.toNat_natCast, Nat.add_zero, b_ft, b_tf, Bool.false_eq_true]
      with_reducible rfl
  · conv => enter [1, L]; lhs; rw [hH]
    apply Exists.intro
    simp -implicitDefEqProofs only [c6, Try.f6, Option.getD_some, g0, g1, g2, hla, h150, k3_awake, ↓fc15, Bool.not_true, Bool.not_false, Bool.true_and, Bool.and_true, Bool.false_and, Bool.and_false, cond_true, cond_false, boolOf_undef, nb, beq_self_eq_true, Bool.and_self, z_e1, z_e0, ↓EvC_seq, ↓EvC_skip, ↓EvC_exit, ↓EvC_ret, ↓EvC_block, ↓EvC_cond, ↓ev_region, ↓runL_cons, ↓runL_nil, ↓stepO_none, ↓stepO_guard, ↓aop_move, ↓aop_assign, ↓aop_load, ↓aop_store, ↓aop_alloc, ↓aop_box, ↓aop_nilCheck, ↓aop_fieldAddr, ↓aop_field, ↓aop_indexAddr, ↓aop_binOp, ↓aop_pick, ↓aop_extract, ↓aop_buildSlice, ↓aop_slice, ↓aop_not, ↓aop_call, ↓callA_len, ↓callA_append, ev_tmp, ev_const, ofV_int, ofV_bool, ofV_str, ofV_nilSlice, ofV_nilPtr, putA_some, putA_none, gs_self, gs_ne, List.length_set, Option.bind_some, Option.map_some, intBinA, evL, evO, evP, ne_eq, not_false_eq_true, if_true, if_false, reduceCtorEq, ite_true, ite_false, reduceIte, put_app, AV.cells, and_true, true_and, and_self, decide_true, decide_false, ↓yielded_eq, yv_some, boolOf_bool, List.getElem?_toArray, List.getElem?_cons_zero, List.getElem?_cons_succ, Nat.reduceLT, Nat.reduceEqDiff, beq_self_eq_true, Option.some_beq_some, wr_app, wr_app0, rd_app, rd_app0, rdL_here, rdL_next, wrL_here, wrL_next, spl, List.all_cons, List.all_nil, AV.one, Bool.and_self, Bool.true_and, List.drop_zero, List.take_succ_cons, List.take_zero, List.drop_succ_cons, List.head?_cons, Nat.reduceAdd, Nat.reduceLeDiff, List.length_cons, List.length_nil, List.nil_append, List.cons_append, List.set_cons_zero, List.set_cons_succ, Int.toNat_natCast, Nat.add_zero, b_ft, b_tf, Bool.false_eq_true]
    with_reducible rfl
end Go.Dv

/- A slice of events and a race as the row hands them in: what their cells hold; the world they lie in as an abstract heap (own work). -/
namespace Go.Dv
open Go.Proofs
set_option linter.unusedVariables false

def fieldsOf : Option TypeDesc → List (TypeId × Nat)
  | some (.struct fs) => fs.toList.map fun f => (f.type, f.offset)
  | _ => []

section
variable {H : Type} {enc : TypeId × Value → H} {P : Program} {w : World} {base : Nat} {spare : Nat → Bool} {held : Bool}

theorem trod_fields {t : TypeId} {fl : List (TypeId × Nat)} (hf : fieldsOf (P.underlying t) = fl) (hne : fl ≠ []) {fuel : Nat} {cs : List Value} {x : DataW H × List MemPlace}
    (h : DataW.trod enc P w base spare held fuel t cs = some x) :
    ∃ n, cs.length = P.cellsOf t ∧ ∀ (i : Nat) (u : TypeId) (o : Nat), fl[i]? = some (u, o) → ∃ y, DataW.trod enc P w base spare held n u ((cs.drop o).take (P.cellsOf u)) = some y := by
  unfold fieldsOf at hf
  split at hf
  · rename_i fs ht
    obtain ⟨xs, n, _, _, hl, hx, he⟩ := DataW.trod_struct ht h
    refine ⟨n, hl, fun i u o hi => ?_⟩
    subst hf
    rw [List.getElem?_map] at hi
    simp only [Option.map_eq_some_iff, Prod.mk.injEq] at hi
    obtain ⟨f, hfi, rfl, rfl⟩ := hi
    have hfi' : fs[i]? = some f := by simpa using hfi
    rw [he i f hfi']
    have : i < xs.length := by rw [hx]; exact (Array.getElem?_eq_some_iff.1 hfi').1
    exact ⟨_, List.getElem?_eq_getElem this⟩
  · exact absurd hf.symm hne

end

theorem und3 : Try.prog.underlying 3 = some (.int .i64) := by kernel_rfl
theorem und22 : Try.prog.underlying 22 = some (.slice 36) := by kernel_rfl
theorem und4 : Try.prog.underlying 4 = some .bool := by kernel_rfl
theorem fl36 : fieldsOf (Try.prog.underlying 36) = [(34, 0), (3, 5)] := by kernel_rfl
theorem fl34 : fieldsOf (Try.prog.underlying 34) = [(3, 0), (3, 1), (3, 2), (3, 3), (3, 4)] := by kernel_rfl
theorem co36 : Try.prog.cellsOf 36 = 6 := by kernel_rfl
theorem co34 : Try.prog.cellsOf 34 = 5 := by kernel_rfl
theorem co3 : Try.prog.cellsOf 3 = 1 := by kernel_rfl

section
variable {H : Type} {enc : TypeId × Value → H} {w : World} {base : Nat} {spare : Nat → Bool} {held : Bool}

def E6.vals (e : E6) : List Value := [.int .i64 e.sp, .int .i64 e.bl, .int .i64 e.ce, .int .i64 e.th, .int .i64 e.ki, .int .i64 e.ph]

theorem six {cs : List Value} (hl : cs.length = 6) {a0 a1 a2 a3 a4 a5 : Int} (e0 : (((cs.drop 0).take 5).drop 0).take 1 = [.int .i64 a0]) (e1 : (((cs.drop 0).take 5).drop 1).take 1 = [.int .i64 a1]) (e2 : (((cs.drop 0).take 5).drop 2).take 1 = [.int .i64 a2])
    (e3 : (((cs.drop 0).take 5).drop 3).take 1 = [.int .i64 a3]) (e4 : (((cs.drop 0).take 5).drop 4).take 1 = [.int .i64 a4]) (e5 : (cs.drop 5).take 1 = [.int .i64 a5]) : ∃ e : E6, cs = e.vals := by
  rcases cs with _ | ⟨c0, _ | ⟨c1, _ | ⟨c2, _ | ⟨c3, _ | ⟨c4, _ | ⟨c5, _ | ⟨c6, cs⟩⟩⟩⟩⟩⟩⟩ <;> simp at hl
  simp at e0 e1 e2 e3 e4 e5
  exact ⟨⟨a0, a1, a2, a3, a4, a5⟩, by simp [E6.vals, e0, e1, e2, e3, e4, e5]⟩

theorem trod_event {fuel : Nat} {cs : List Value} {x : DataW H × List MemPlace} (h : DataW.trod enc Try.prog w base spare held fuel 36 cs = some x) : ∃ e : E6, cs = e.vals := by
  obtain ⟨n, hl, hf⟩ := trod_fields fl36 (by simp) h
  rw [co36] at hl
  obtain ⟨y0, h0⟩ := hf 0 34 0 rfl
  obtain ⟨y1, h1⟩ := hf 1 3 5 rfl
  rw [co34] at h0
  rw [co3] at h1
  obtain ⟨m, hl0, hg⟩ := trod_fields fl34 (by simp) h0
  obtain ⟨z0, g0⟩ := hg 0 3 0 rfl
  obtain ⟨z1, g1⟩ := hg 1 3 1 rfl
  obtain ⟨z2, g2⟩ := hg 2 3 2 rfl
  obtain ⟨z3, g3⟩ := hg 3 3 3 rfl
  obtain ⟨z4, g4⟩ := hg 4 3 4 rfl
  rw [co3] at g0 g1 g2 g3 g4
  obtain ⟨a0, e0, _⟩ := DataW.trod_int und3 g0
  obtain ⟨a1, e1, _⟩ := DataW.trod_int und3 g1
  obtain ⟨a2, e2, _⟩ := DataW.trod_int und3 g2
  obtain ⟨a3, e3, _⟩ := DataW.trod_int und3 g3
  obtain ⟨a4, e4, _⟩ := DataW.trod_int und3 g4
  obtain ⟨a5, e5, _⟩ := DataW.trod_int und3 h1
  clear g0 g1 g2 g3 g4 h1 hf hg h0 h
  exact six hl e0 e1 e2 e3 e4 e5

theorem cells_get {a : Addr} {n : Nat} {cs : List Value} (h : w.cells? base a n = some cs) : cs.length = n ∧ ∀ i, i < n → w.cell? (a.add i) = cs[i]? := by
  unfold World.cells? at h
  split at h
  · exact ⟨by simpa using mapM_some_length h, fun i hi => mapM_some_get h i i (by simp [hi])⟩
  · cases h

theorem cell_spot {a : Addr} {v : Value} (h : w.cell? a = some v) : a.spot = none ∧ a.block < w.heap.size := by
  unfold World.cell? at h
  split at h
  · rename_i c e f hb
    split at h
    · cases h
    · rename_i hs
      exact ⟨by simpa using hs, (Array.getElem?_eq_some_iff.1 hb).1⟩
  · cases h

/-- A slice of events in the world: every event it could show, read from its cells. -/
def InRow (w : World) (a : Option Addr) (len cap : Nat) (l : List E6) : Prop :=
  (a = none ∧ len = 0 ∧ cap = 0 ∧ l = []) ∨ ∃ x, a = some x ∧ len ≤ cap ∧ l.length = cap ∧ ∀ i e, l[i]? = some e → ∀ j v, e.vals[j]? = some v → w.cell? (x.add (i * 6 + j)) = some v

theorem add_add (a : Addr) (n m : Nat) : (a.add n).add m = a.add (n + m) := by
  unfold Addr.add
  by_cases hn : n = 0
  · subst hn; simp
  · by_cases hm : m = 0
    · subst hm; simp
    · rw [if_neg hn, if_neg hm, if_neg (by omega)]
      simp [Nat.add_assoc]

theorem open_events {fuel : Nat} {a : Option Addr} {len cap : Nat} {x : DataW H × List MemPlace} (h : DataW.trod enc Try.prog w base (fun _ => true) held fuel 22 [.slice a len cap] = some x) : ∃ l, InRow w a len cap l := by
  rcases DataW.trod_slice und22 h with ⟨hcs, _⟩ | ⟨b, l, c, elems, rest, n, _, hcs, _, _, hl, _, hel, he, hr, _⟩
  · simp at hcs
    exact ⟨[], .inl ⟨hcs.1, hcs.2.1, hcs.2.2, rfl⟩⟩
  · simp at hcs
    obtain ⟨rfl, rfl, rfl⟩ := hcs
    rw [co36] at he hr
    obtain ⟨hrl, hr⟩ := hr rfl
    have one : ∀ i, i < cap → ∃ e : E6, ∀ j v, e.vals[j]? = some v → w.cell? (b.add (i * 6 + j)) = some v := by
      intro i hi
      have : ∃ y, (w.cells? base (b.add (i * 6)) 6).bind (DataW.trod enc Try.prog w base (fun _ => true) held n 36) = some y := by
        rcases Nat.lt_or_ge i len with hil | hil
        · rw [he i hil]; exact ⟨_, List.getElem?_eq_getElem (by omega)⟩
        · have := hr (i - len) (by omega)
          rw [show len + (i - len) = i by omega] at this
          rw [this]; exact ⟨_, List.getElem?_eq_getElem (by omega)⟩
      obtain ⟨y, hy⟩ := this
      simp only [Option.bind_eq_some_iff] at hy
      obtain ⟨cs, hcs, hy⟩ := hy
      obtain ⟨e, rfl⟩ := trod_event hy
      obtain ⟨_, hg⟩ := cells_get hcs
      refine ⟨e, fun j v hj => ?_⟩
      have hj6 : j < 6 := by have := lt_of_get hj; simpa [E6.vals] using this
      rw [← add_add, hg j hj6, hj]
    refine ⟨(List.range cap).pmap (fun i hi => (one i hi).choose) (fun i hi => by simpa using hi), .inr ⟨b, rfl, hl, by simp, fun i e hi j v hj => ?_⟩⟩
    have hic : i < cap := by have := lt_of_get hi; simpa using this
    simp [hic] at hi
    subst hi
    exact (one i hic).choose_spec j v hj

end
def flatE (l : List E6) : List AV := l.flatMap E6.cells

theorem flatE_length (l : List E6) : (flatE l).length = l.length * 6 := by
  induction l with
  | nil => rfl
  | cons e l ih => 
    have : flatE (e :: l) = e.cells ++ flatE l := rfl
    rw [this, List.length_append, ih]; simp [E6.cells]; omega

theorem flatE_drop : ∀ (l : List E6) (j : Nat), (flatE l).drop (j * 6) = flatE (l.drop j)
  | l, 0 => by simp
  | [], j + 1 => by simp [flatE]
  | e :: l, j + 1 => by
    have : flatE (e :: l) = e.cells ++ flatE l := rfl
    rw [this, show (j + 1) * 6 = e.cells.length + j * 6 by simp [E6.cells]; omega, List.drop_append, List.drop_of_length_le (by omega), List.nil_append, Nat.add_sub_cancel_left]
    simpa using flatE_drop l j

theorem flatE_at {l : List E6} {j : Nat} {e : E6} (h : l[j]? = some e) : ((flatE l).drop (j * 6)).take 6 = e.cells := by
  rw [flatE_drop]
  have hj := lt_of_get h
  rw [List.drop_eq_getElem_cons hj]
  rw [List.getElem?_eq_getElem hj] at h
  rw [Option.some.inj h]
  show (e.cells ++ flatE (l.drop (j + 1))).take 6 = e.cells
  rw [List.take_append_of_le_length (by simp [E6.cells])]
  exact List.take_of_length_le (by simp [E6.cells])

theorem flatE_get {l : List E6} {n : Nat} {v : AV} (h : (flatE l)[n]? = some v) : ∃ e, l[n / 6]? = some e ∧ e.cells[n % 6]? = some v := by
  have hn := lt_of_get h
  rw [flatE_length] at hn
  have hj : n / 6 < l.length := by omega
  refine ⟨_, List.getElem?_eq_getElem hj, ?_⟩
  rw [← flatE_at (List.getElem?_eq_getElem hj), List.getElem?_take, if_pos (by omega), List.getElem?_drop, show n / 6 * 6 + n % 6 = n by omega]
  exact h

theorem E6.vals_cells {e : E6} {j : Nat} {v : AV} (h : e.cells[j]? = some v) (φ : Env) : ∃ u, e.vals[j]? = some u ∧ VR φ v u := by
  match j with
  | 0 => cases h; exact ⟨_, rfl, rfl⟩
  | 1 => cases h; exact ⟨_, rfl, rfl⟩
  | 2 => cases h; exact ⟨_, rfl, rfl⟩
  | 3 => cases h; exact ⟨_, rfl, rfl⟩
  | 4 => cases h; exact ⟨_, rfl, rfl⟩
  | 5 => cases h; exact ⟨_, rfl, rfl⟩
  | n + 6 => simp [E6.cells] at h

theorem WR.one (w : World) {x : Nat × Nat × Nat} {cs : List AV} (hx : x.1 < w.heap.size) (ho : OR (fun i => if i = 0 then some x else none) w 0 (.arg cs)) :
    WR w (fun b => b < w.heap.size) (fun i => if i = 0 then some x else none) [.arg cs] w where
  dom := fun i hi => by simp at hi; simp; omega
  fresh := fun i hi => by cases i <;> simp at hi
  lt := fun i y hy => by split at hy <;> simp at hy; subst hy; exact hx
  inj := fun i j x y ⟨o, hi, hw⟩ => by cases i <;> simp at hi; subst hi; cases hw
  own := fun i x ⟨o, hi, hw⟩ => by cases i <;> simp at hi; subst hi; cases hw
  argP := fun i y cs hi hy => by split at hy <;> simp at hy; subst hy; exact hx
  obj := fun i o hi => by
    cases i with
    | zero => simp at hi; subst hi; exact ho
    | succ i => simp at hi
  prLt := fun b h => h
  size := Nat.le_refl _
  os := rfl
  tape := rfl
  output := rfl
  old := fun _ _ => rfl

theorem WR.idle (w : World) : WR w (fun b => b < w.heap.size) (fun _ => none) [.dead] w where
  dom := fun _ _ => rfl
  fresh := fun _ _ => rfl
  lt := fun i x h => by cases h
  inj := fun i j x y hi hj hx => by cases hx
  own := fun i x hi hx => by cases hx
  argP := fun i x cs hi hx => by cases hx
  obj := fun i o h => by
    cases i with
    | zero => simp at h; subst h; trivial
    | succ i => simp at h
  prLt := fun b h => h
  size := Nat.le_refl _
  os := rfl
  tape := rfl
  output := rfl
  old := fun _ _ => rfl

theorem start_events (W : World) {a : Option Addr} {len cap : Nat} {l : List E6} (h : InRow W a len cap l) :
    ∃ φ H v, WR W (fun b => b < W.heap.size) φ H W ∧ VR φ v (.slice a len cap) ∧ EvS H v (l.take len) ∧ (l.take len).length = len := by
  rcases h with ⟨rfl, rfl, rfl, rfl⟩ | ⟨x, rfl, hl, hcap, hc⟩
  · exact ⟨_, _, .nilSlice, WR.start W, rfl, .inl ⟨rfl, rfl⟩, rfl⟩
  · have htl : (l.take len).length = len := by simp; omega
    rcases Nat.eq_zero_or_pos cap with h0 | hpos
    · subst h0
      obtain rfl : len = 0 := by omega
      refine ⟨_, _, .slice 0 0 6 0 0 true, WR.idle W, ⟨x, 0, rfl, Nat.le_refl _, ⟨Nat.le_refl _, fun _ => rfl⟩, .inl rfl⟩, .inr ⟨0, 0, 0, true, by rw [htl], by simp, fun j e he => ?_⟩, htl⟩
      simp at he
    · obtain ⟨e0, he0⟩ : ∃ e, l[0]? = some e := ⟨_, List.getElem?_eq_getElem (by omega)⟩
      have hx := cell_spot (hc 0 e0 he0 0 _ rfl)
      have hx0 : x.add (0 * 6 + 0) = x := by simp [Addr.add]
      rw [hx0] at hx
      have hxa : ∀ n, x.add n = ⟨x.block, x.off + n, none⟩ := fun n => by
        unfold Addr.add
        split
        · rename_i h; subst h
          obtain ⟨b, o, s⟩ := x
          simp at hx ⊢; exact hx.1
        · rfl
      refine ⟨_, _, .slice 0 0 6 len cap true, WR.one W (x := (x.block, x.off, x.off + cap * 6)) (cs := flatE l) hx.2 ⟨x.block, x.off, _, rfl, fun n v hv => ?_⟩, ⟨x, cap, rfl, hl, ⟨Nat.le_refl _, fun _ => rfl⟩, .inr ⟨x.block, x.off, _, rfl, by have := hxa 0; rw [show x.add 0 = x by simp [Addr.add]] at this; exact this, by omega⟩⟩,
        .inr ⟨0, 0, cap, true, by rw [htl], by omega, fun j e he => ?_⟩, htl⟩
      · obtain ⟨e, he, hv'⟩ := flatE_get hv
        obtain ⟨u, hu, r⟩ := E6.vals_cells hv' _
        refine ⟨u, ?_, r⟩
        have := hc (n / 6) e he (n % 6) u hu
        rw [hxa, show n / 6 * 6 + n % 6 = n by omega] at this
        exact this
      · have hj : j < len := by have := lt_of_get he; omega
        rw [List.getElem?_take, if_pos hj] at he
        have hjl := lt_of_get he
        simp only [rdCells, List.getElem?_cons_zero]
        rw [if_pos (by rw [flatE_length]; omega), Nat.zero_add, flatE_at he]

theorem fl38 : fieldsOf (Try.prog.underlying 38) = [(34, 0), (34, 5)] := by kernel_rfl
theorem co38 : Try.prog.cellsOf 38 = 10 := by kernel_rfl
def E6.vals5 (e : E6) : List Value := [.int .i64 e.sp, .int .i64 e.bl, .int .i64 e.ce, .int .i64 e.th, .int .i64 e.ki]

section
variable {H : Type} {enc : TypeId × Value → H} {w : World} {base : Nat} {spare : Nat → Bool} {held : Bool}

theorem five {cs : List Value} (hl : cs.length = 5) {a0 a1 a2 a3 a4 : Int} (e0 : (cs.drop 0).take 1 = [.int .i64 a0]) (e1 : (cs.drop 1).take 1 = [.int .i64 a1]) (e2 : (cs.drop 2).take 1 = [.int .i64 a2])
    (e3 : (cs.drop 3).take 1 = [.int .i64 a3]) (e4 : (cs.drop 4).take 1 = [.int .i64 a4]) : ∃ e : E6, cs = e.vals5 := by
  rcases cs with _ | ⟨c0, _ | ⟨c1, _ | ⟨c2, _ | ⟨c3, _ | ⟨c4, _ | ⟨c5, cs⟩⟩⟩⟩⟩⟩ <;> simp at hl
  simp at e0 e1 e2 e3 e4
  exact ⟨⟨a0, a1, a2, a3, a4, 0⟩, by simp [E6.vals5, e0, e1, e2, e3, e4]⟩

theorem trod_access {fuel : Nat} {cs : List Value} {x : DataW H × List MemPlace} (h : DataW.trod enc Try.prog w base spare held fuel 34 cs = some x) : ∃ e : E6, cs = e.vals5 := by
  obtain ⟨m, hl0, hg⟩ := trod_fields fl34 (by simp) h
  rw [co34] at hl0
  obtain ⟨z0, g0⟩ := hg 0 3 0 rfl
  obtain ⟨z1, g1⟩ := hg 1 3 1 rfl
  obtain ⟨z2, g2⟩ := hg 2 3 2 rfl
  obtain ⟨z3, g3⟩ := hg 3 3 3 rfl
  obtain ⟨z4, g4⟩ := hg 4 3 4 rfl
  rw [co3] at g0 g1 g2 g3 g4
  obtain ⟨a0, e0, _⟩ := DataW.trod_int und3 g0
  obtain ⟨a1, e1, _⟩ := DataW.trod_int und3 g1
  obtain ⟨a2, e2, _⟩ := DataW.trod_int und3 g2
  obtain ⟨a3, e3, _⟩ := DataW.trod_int und3 g3
  obtain ⟨a4, e4, _⟩ := DataW.trod_int und3 g4
  clear g0 g1 g2 g3 g4 hg h
  exact five hl0 e0 e1 e2 e3 e4

theorem trod_race {fuel : Nat} {cs : List Value} {x : DataW H × List MemPlace} (h : DataW.trod enc Try.prog w base spare held fuel 38 cs = some x) : ∃ a b : E6, cs = a.vals5 ++ b.vals5 := by
  obtain ⟨m, hl, hg⟩ := trod_fields fl38 (by simp) h
  rw [co38] at hl
  obtain ⟨z0, g0⟩ := hg 0 34 0 rfl
  obtain ⟨z1, g1⟩ := hg 1 34 5 rfl
  rw [co34] at g0 g1
  obtain ⟨a, ha⟩ := trod_access g0
  obtain ⟨b, hb⟩ := trod_access g1
  refine ⟨a, b, ?_⟩
  rw [← ha, ← hb, List.drop_zero, List.take_of_length_le (l := cs.drop 5) (by simp; omega), List.take_append_drop]
end

theorem VR_race {φ : Env} (a b : E6) (cs : Array Value) (h : cs.toList = a.vals5 ++ b.vals5) : VR φ (.agg (rcells a b)) (.agg cs) := by
  refine ⟨_, rfl, ?_⟩
  rw [h]
  exact ⟨_, _, rfl, rfl, _, _, rfl, rfl, _, _, rfl, rfl, _, _, rfl, rfl, _, _, rfl, rfl, _, _, rfl, rfl, _, _, rfl, rfl, _, _, rfl, rfl, _, _, rfl, rfl, _, _, rfl, rfl, rfl⟩

end Go.Dv
