/- The law RaceWitness on abstract heaps (printed by t35.py, own work). -/
import Derived.Test.YtepcdjpenahnpaaT34
namespace Go.Dv
open Go.Proofs
set_option maxRecDepth 100000
set_option linter.unusedSimpArgs false
set_option linter.unusedVariables false
attribute [local congr] bind_congr_first

theorem fc15 (C : Cfg Try.prog) (slot : Option Nat) (tm : List AV) (H : AH) (o : Oper) (xs : Array Operand) (ats : Array TypeId) : callA Try.prog C slot (evalA tm) o ⟨.value (.func 15), xs, ats⟩ H = (evL (evalA tm) xs.toList).map fun vs => (.enter 15 vs, H) := callF (by rw [Try.func15]; rfl) slot _ H o xs ats rfl
theorem eqA4 (H : AH) (a b : Bool) : eqA Try.prog 4 H (.bool a) (.bool b) = some (a == b) := by kernel_rfl
theorem ld38 (H : AH) (i k : Nat) : ldA Try.prog 38 H i k = (rdCells H i k 10).map .agg := by kernel_rfl
theorem z_e1 : ((1 : Int) == 0) = false := rfl
theorem z_e0 : ((0 : Int) == 1) = false := rfl
theorem ld38_box (H L : AH) (a b : E6) : ldA Try.prog 38 (H ++ (.cells (rcells a b) 38 :: L)) H.length 0 = some (.agg (rcells a b)) := by
  rw [ld38, rd_app0]; rfl

theorem law6_ev (H : AH) (v : AV) (l : List E6) (a b : E6) (hl : l.length < 2 ^ 62) (hv : EvS H v l) : ∃ H', Ev Try.prog C3 6 [v, .agg (rcells a b)] H = some (.bool true, H') := by
  have g0 : ([v, .agg (rcells a b)] ++ List.replicate (71 - [v, .agg (rcells a b)].length) undefA).length = 71 := by simp
  have g1 : ([v, .agg (rcells a b)] ++ List.replicate (71 - [v, .agg (rcells a b)].length) undefA).getD 0 undefA = v := rfl
  have g2 : ([v, .agg (rcells a b)] ++ List.replicate (71 - [v, .agg (rcells a b)].length) undefA).getD 1 undefA = .agg (rcells a b) := rfl
  have hla := hv.evs.len
  have hH : H = H ++ [] := by simp
  have hbox : ∀ L, ldA Try.prog 38 (H ++ (.cells (rcells a b) 38 :: L)) H.length 0 = some (.agg (rcells a b)) := fun L => ld38_box H L a b
  rw [fe6]
  generalize [v, .agg (rcells a b)] ++ List.replicate (71 - [v, .agg (rcells a b)].length) undefA = tm at *
  cases h150 : decide ((l.length : Int) > 150)
  · have hle : l.length ≤ 150 := by simp at h150; omega
    obtain ⟨L1, e1⟩ := wit_ev (a := a) (b := b) (hv.more [.cells (rcells a b) 38]) hl
    rw [List.append_assoc] at e1
    obtain ⟨L2, e2⟩ := ref_valid_ev (hv.more (.cells (rcells a b) 38 :: L1)).evs hl
    rw [List.append_assoc] at e2
    obtain ⟨L3, e3⟩ := ref_wit_ev (a := a) (b := b) (hv.more (.cells (rcells a b) 38 :: (L1 ++ L2))) hl
    rw [List.append_assoc] at e3
    have v1 : (decide ((l.length : Int) > 4000)) = false := by simp; omega
    have v2 : (decide ((l.length : Int) ≤ 4000)) = true := by simp; omega
    rw [v1] at e1
    rw [v2] at e2
    rw [firstPair_same] at e1
    simp only [List.cons_append, List.nil_append] at e1 e2 e3
    conv => enter [1, L]; lhs; rw [hH]
    cases hb : l.any E6.bad
    · rw [hb] at e1 e2
      cases hr : firstPair (fun x y => x.wit' y a b) l l 0 with
      | none =>
        rw [hr] at e1 e3
        simp only [witOf, Bool.not_false, Bool.and_self, cond_true] at e1 e2 e3
        apply Exists.intro
        simp -implicitDefEqProofs only [c6, Try.f6, Option.getD_some, g0, g1, g2, hla, h150, e1, e2, e3, ↓hbox, eqA4, k3_awake, ↓fc22, ↓fc17, ↓fc23, ↓fc15, Bool.not_true, Bool.not_false, Bool.true_and, Bool.and_true, Bool.false_and, Bool.and_false, cond_true, cond_false, boolOf_undef, nb, beq_self_eq_true, Bool.and_self, z_e1, z_e0, ↓EvC_seq, ↓EvC_skip, ↓EvC_exit, ↓EvC_ret, ↓EvC_block, ↓EvC_cond, ↓ev_region, ↓runL_cons, ↓runL_nil, ↓stepO_none, ↓stepO_guard, ↓aop_move, ↓aop_assign, ↓aop_load, ↓aop_store, ↓aop_alloc, ↓aop_box, ↓aop_nilCheck, ↓aop_fieldAddr, ↓aop_field, ↓aop_indexAddr, ↓aop_binOp, ↓aop_pick, ↓aop_extract, ↓aop_buildSlice, ↓aop_slice, ↓aop_not, ↓aop_call, ↓callA_len, ↓callA_append, ev_tmp, ev_const, ofV_int, ofV_bool, ofV_str, ofV_nilSlice, ofV_nilPtr, putA_some, putA_none, gs_self, gs_ne, List.length_set, Option.bind_some, Option.map_some, intBinA, evL, evO, evP, ne_eq, not_false_eq_true, if_true, if_false, reduceCtorEq, ite_true, ite_false, reduceIte, put_app, AV.cells, and_true, true_and, and_self, decide_true, decide_false, ↓yielded_eq, yv_some, boolOf_bool, List.getElem?_toArray, List.getElem?_cons_zero, List.getElem?_cons_succ, Nat.reduceLT, Nat.reduceEqDiff, beq_self_eq_true, Option.some_beq_some, wr_app, wr_app0, rd_app, rd_app0, rdL_here, rdL_next, wrL_here, wrL_next, spl, List.all_cons, List.all_nil, AV.one, Bool.and_self, Bool.true_and, List.drop_zero, List.take_succ_cons, List.take_zero, List.drop_succ_cons, List.head?_cons, Nat.reduceAdd, Nat.reduceLeDiff, List.length_cons, List.length_nil, List.nil_append, List.cons_append, List.set_cons_zero, List.set_cons_succ, Int.toNat_natCast, Nat.add_zero, b_ft, b_tf, Bool.false_eq_true]
        with_reducible rfl
      | some p =>
        obtain ⟨i, n⟩ := p
        rw [hr] at e1 e3
        simp only [witOf, Bool.not_false, Bool.and_self, cond_true] at e1 e2 e3
        apply Exists.intro
        simp -implicitDefEqProofs only [c6, Try.f6, Option.getD_some, g0, g1, g2, hla, h150, e1, e2, e3, ↓hbox, eqA4, k3_awake, ↓fc22, ↓fc17, ↓fc23, ↓fc15, Bool.not_true, Bool.not_false, Bool.true_and, Bool.and_true, Bool.false_and, Bool.and_false, cond_true, cond_false, boolOf_undef, nb, beq_self_eq_true, Bool.and_self, z_e1, z_e0, ↓EvC_seq, ↓EvC_skip, ↓EvC_exit, ↓EvC_ret, ↓EvC_block, ↓EvC_cond, ↓ev_region, ↓runL_cons, ↓runL_nil, ↓stepO_none, ↓stepO_guard, ↓aop_move, ↓aop_assign, ↓aop_load, ↓aop_store, ↓aop_alloc, ↓aop_box, ↓aop_nilCheck, ↓aop_fieldAddr, ↓aop_field, ↓aop_indexAddr, ↓aop_binOp, ↓aop_pick, ↓aop_extract, ↓aop_buildSlice, ↓aop_slice, ↓aop_not, ↓aop_call, ↓callA_len, ↓callA_append, ev_tmp, ev_const, ofV_int, ofV_bool, ofV_str, ofV_nilSlice, ofV_nilPtr, putA_some, putA_none, gs_self, gs_ne, List.length_set, Option.bind_some, Option.map_some, intBinA, evL, evO, evP, ne_eq, not_false_eq_true, if_true, if_false, reduceCtorEq, ite_true, ite_false, reduceIte, put_app, AV.cells, and_true, true_and, and_self, decide_true, decide_false, ↓yielded_eq, yv_some, boolOf_bool, List.getElem?_toArray, List.getElem?_cons_zero, List.getElem?_cons_succ, Nat.reduceLT, Nat.reduceEqDiff, beq_self_eq_true, Option.some_beq_some, wr_app, wr_app0, rd_app, rd_app0, rdL_here, rdL_next, wrL_here, wrL_next, spl, List.all_cons, List.all_nil, AV.one, Bool.and_self, Bool.true_and, List.drop_zero, List.take_succ_cons, List.take_zero, List.drop_succ_cons, List.head?_cons, Nat.reduceAdd, Nat.reduceLeDiff, List.length_cons, List.length_nil, List.nil_append, List.cons_append, List.set_cons_zero, List.set_cons_succ, Int.toNat_natCast, Nat.add_zero, b_ft, b_tf, Bool.false_eq_true]
        with_reducible rfl
    · rw [hb] at e1 e2
      simp only [Bool.not_false, Bool.not_true, Bool.and_false, cond_false] at e1 e2
      apply Exists.intro
      simp -implicitDefEqProofs only [c6, Try.f6, Option.getD_some, g0, g1, g2, hla, h150, e1, e2, e3, ↓hbox, eqA4, k3_awake, ↓fc22, ↓fc17, ↓fc23, ↓fc15, Bool.not_true, Bool.not_false, Bool.true_and, Bool.and_true, Bool.false_and, Bool.and_false, cond_true, cond_false, boolOf_undef, nb, beq_self_eq_true, Bool.and_self, z_e1, z_e0, ↓EvC_seq, ↓EvC_skip, ↓EvC_exit, ↓EvC_ret, ↓EvC_block, ↓EvC_cond, ↓ev_region, ↓runL_cons, ↓runL_nil, ↓stepO_none, ↓stepO_guard, ↓aop_move, ↓aop_assign, ↓aop_load, ↓aop_store, ↓aop_alloc, ↓aop_box, ↓aop_nilCheck, ↓aop_fieldAddr, ↓aop_field, ↓aop_indexAddr, ↓aop_binOp, ↓aop_pick, ↓aop_extract, ↓aop_buildSlice, ↓aop_slice, ↓aop_not, ↓aop_call, ↓callA_len, ↓callA_append, ev_tmp, ev_const, ofV_int, ofV_bool, ofV_str, ofV_nilSlice, ofV_nilPtr, putA_some, putA_none, gs_self, gs_ne, List.length_set, Option.bind_some, Option.map_some, intBinA, evL, evO, evP, ne_eq, not_false_eq_true, if_true, if_false, reduceCtorEq, ite_true, ite_false, reduceIte, put_app, AV.cells, and_true, true_and, and_self, decide_true, decide_false, ↓yielded_eq, yv_some, boolOf_bool, List.getElem?_toArray, List.getElem?_cons_zero, List.getElem?_cons_succ, Nat.reduceLT, Nat.reduceEqDiff, beq_self_eq_true, Option.some_beq_some, wr_app, wr_app0, rd_app, rd_app0, rdL_here, rdL_next, wrL_here, wrL_next, spl, List.all_cons, List.all_nil, AV.one, Bool.and_self, Bool.true_and, List.drop_zero, List.take_succ_cons, List.take_zero, List.drop_succ_cons, List.head?_cons, Nat.reduceAdd, Nat.reduceLeDiff, List.length_cons, List.length_nil, List.nil_append, List.cons_append, List.set_cons_zero, List.set_cons_succ, Int.toNat_natCast, Nat.add_zero, b_ft, b_tf, Bool.false_eq_true]
      with_reducible rfl
  · conv => enter [1, L]; lhs; rw [hH]
    apply Exists.intro
    simp -implicitDefEqProofs only [c6, Try.f6, Option.getD_some, g0, g1, g2, hla, h150, k3_awake, ↓fc15, Bool.not_true, Bool.not_false, Bool.true_and, Bool.and_true, Bool.false_and, Bool.and_false, cond_true, cond_false, boolOf_undef, nb, beq_self_eq_true, Bool.and_self, z_e1, z_e0, ↓EvC_seq, ↓EvC_skip, ↓EvC_exit, ↓EvC_ret, ↓EvC_block, ↓EvC_cond, ↓ev_region, ↓runL_cons, ↓runL_nil, ↓stepO_none, ↓stepO_guard, ↓aop_move, ↓aop_assign, ↓aop_load, ↓aop_store, ↓aop_alloc, ↓aop_box, ↓aop_nilCheck, ↓aop_fieldAddr, ↓aop_field, ↓aop_indexAddr, ↓aop_binOp, ↓aop_pick, ↓aop_extract, ↓aop_buildSlice, ↓aop_slice, ↓aop_not, ↓aop_call, ↓callA_len, ↓callA_append, ev_tmp, ev_const, ofV_int, ofV_bool, ofV_str, ofV_nilSlice, ofV_nilPtr, putA_some, putA_none, gs_self, gs_ne, List.length_set, Option.bind_some, Option.map_some, intBinA, evL, evO, evP, ne_eq, not_false_eq_true, if_true, if_false, reduceCtorEq, ite_true, ite_false, reduceIte, put_app, AV.cells, and_true, true_and, and_self, decide_true, decide_false, ↓yielded_eq, yv_some, boolOf_bool, List.getElem?_toArray, List.getElem?_cons_zero, List.getElem?_cons_succ, Nat.reduceLT, Nat.reduceEqDiff, beq_self_eq_true, Option.some_beq_some, wr_app, wr_app0, rd_app, rd_app0, rdL_here, rdL_next, wrL_here, wrL_next, spl, List.all_cons, List.all_nil, AV.one, Bool.and_self, Bool.true_and, List.drop_zero, List.take_succ_cons, List.take_zero, List.drop_succ_cons, List.head?_cons, Nat.reduceAdd, Nat.reduceLeDiff, List.length_cons, List.length_nil, List.nil_append, List.cons_append, List.set_cons_zero, List.set_cons_succ, Int.toNat_natCast, Nat.add_zero, b_ft, b_tf, Bool.false_eq_true]
    with_reducible rfl
end Go.Dv
