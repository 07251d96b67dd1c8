/- The law ImageNone on the abstract heap (own work). -/
import Derived.Test.YtepcdjpenahnpaaT10
namespace Go.Dv
open Go.Proofs
set_option maxRecDepth 100000
set_option linter.unusedSimpArgs false
set_option linter.unusedVariables false
attribute [local congr] bind_congr_first

theorem bz77 : buildA Try.prog 77 [] = some (.agg z77) := by kernel_rfl
theorem eq9 (H : AH) (a b : ByteArray) : eqA Try.prog 9 H (.str a) (.str b) = none := by kernel_rfl
theorem pE {tm : List AV} {a : Tmp} (h : tm.getD a undefA = .str ⟨#[]⟩) (dst : Option Tmp) (ty : TypeId) (pos : String) (after : Array Edge) (g : Option (Nat × Bool)) :
    pureA Try.prog (evalA tm) ⟨dst, .binOp .eql 9 (.tmp a) (.const (.string ⟨#[]⟩)) 9, ty, pos, after, g⟩ = some (.val (.bool true)) := by
  have e : ∀ x y : Operand, evalA tm x = some (.str ⟨#[]⟩) → evalA tm y = some (.str ⟨#[]⟩) → pureA Try.prog (evalA tm) ⟨dst, .binOp .eql 9 x y 9, ty, pos, after, g⟩ = some (.val (.bool true)) := by
    intro x y hx hy
    simp [pureA, notSelect, Op.operands, hx, hy, toV, execOp, rhoOf, pureRun, eqGuard, binOp, Op.stringOp, ofV_bool, bind, Sem.bind, pure]
  exact e _ _ (by rw [ev_tmp, h]) rfl

theorem none_ev (H : AH) (s : ByteArray) (hs : s.size < 2 ^ 62) : ∃ H', Ev Try.prog C0 12 [.str s] H = some (.bool true, H') := by
  have e1 := fun L => save_nil (H ++ L)
  have e2 := save_zero (H := H ++ [.cells z77 77]) (i := H.length) (by simp)
  have e3 := fun L => sum_ev (H ++ L) hs
  have e4 := fun L => sum_ref_ev (H ++ L) hs
  have e5 := fun L => awake_ev (H ++ L)
  have g0 : ([AV.str s] ++ List.replicate (41 - [AV.str s].length) undefA).length = 41 := by simp
  have g1 : ([AV.str s] ++ List.replicate (41 - [AV.str s].length) undefA).getD 0 undefA = .str s := rfl
  have hH : H = H ++ [] := by simp
  rw [fe12]
  generalize [AV.str s] ++ List.replicate (41 - [AV.str s].length) undefA = tm at *
  refine ⟨H ++ [.cells z77 77], ?_⟩
  conv => lhs; rw [hH]
  simp -implicitDefEqProofs only [c12, Try.f12, Option.getD_some, g0, g1, e1, e2, e3, e4, e5, errForm, bz77, eq9, ↓pE, ↓fc37, ↓fc38, ↓fc39, ↓fc26, ↓aop_build, evP, ↓EvC_seq, ↓EvC_skip, ↓EvC_exit, ↓EvC_ret, ↓EvC_block, ↓EvC_cond, ↓ev_region, ↓runL_cons, ↓runL_nil, ↓stepO_none, ↓stepO_guard, ↓aop_move, ↓aop_assign, ↓aop_load, ↓aop_store, ↓aop_alloc, ↓aop_box, ↓aop_nilCheck, ↓aop_fieldAddr, ↓aop_field, ↓aop_indexAddr, ↓aop_binOp, ↓aop_pick, ↓aop_extract, ↓aop_buildSlice, ↓aop_slice, ↓aop_not, ↓aop_call, ↓callA_len, ↓callA_append, ev_tmp, ev_const, ofV_int, ofV_bool, ofV_str, ofV_nilSlice, ofV_nilPtr, putA_some, putA_none, gs_self, gs_ne, List.length_set, Option.bind_some, Option.map_some, intBinA, evL, evO, evP, ne_eq, not_false_eq_true, if_true, if_false, reduceCtorEq, ite_true, ite_false, reduceIte, put_app, AV.cells, and_true, true_and, and_self, decide_true, decide_false, ↓yielded_eq, yv_some, boolOf_bool, List.getElem?_toArray, List.getElem?_cons_zero, List.getElem?_cons_succ, Nat.reduceLT, Nat.reduceEqDiff, beq_self_eq_true, Option.some_beq_some, wr_app, wr_app0, rd_app, rd_app0, rdL_here, rdL_next, wrL_here, wrL_next, spl, List.all_cons, List.all_nil, AV.one, Bool.and_self, Bool.true_and, List.drop_zero, List.take_succ_cons, List.take_zero, List.drop_succ_cons, List.head?_cons, Nat.reduceAdd, Nat.reduceLeDiff, List.length_cons, List.length_nil, List.nil_append, List.cons_append, List.set_cons_zero, List.set_cons_succ, Int.toNat_natCast, Nat.add_zero, b_ft, b_tf, Bool.false_eq_true]
end Go.Dv
