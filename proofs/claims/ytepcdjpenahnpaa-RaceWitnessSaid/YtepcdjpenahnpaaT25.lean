/- slices.IndexFunc with race.Valid's closure, race.Valid (own work). -/
import Derived.Test.YtepcdjpenahnpaaN6
namespace Go.Dv
open Go.Proofs
set_option maxRecDepth 100000
set_option linter.unusedSimpArgs false
set_option linter.unusedVariables false
attribute [local congr] bind_congr_first

structure E6 where
  (sp bl ce th ki ph : Int)
def E6.cells (e : E6) : List AV := [I e.sp, I e.bl, I e.ce, I e.th, I e.ki, I e.ph]
def E6.bad (e : E6) : Bool := badB e.sp e.bl e.ce e.th e.ki e.ph
theorem ia22 (i k es len cap : Nat) (ex : Bool) (kk : IntKind) (n : Int) : indexAddrA Try.prog 22 (.slice i k es len cap ex) (.int kk n) = if 0 ≤ n ∧ n < len ∧ 6 = es then some (.ptr i (k + n.toNat * es)) else none := by kernel_rfl
theorem ln22 (H : AH) (i k es len cap : Nat) (ex : Bool) : lenA Try.prog 22 H (.slice i k es len cap ex) = some (.int .i64 len) := by kernel_rfl
theorem ln22n (H : AH) : lenA Try.prog 22 H .nilSlice = some (.int .i64 0) := by kernel_rfl

abbrev fn51 : AV := .func (.func 51) [] []
theorem cf51 (slot : Option Nat) (tm : List AV) (H : AH) (o : Oper) (t : Tmp) (xs : Array Operand) (ats : Array TypeId) (h : tm.getD t undefA = fn51) : callA Try.prog C3 slot (evalA tm) o ⟨.value (.tmp t), xs, ats⟩ H = (evL (evalA tm) xs.toList).map fun vs => (.enter 51 vs, H) := by
  simp only [callA, ev_tmp, h, Option.bind_some]
  cases evL (evalA tm) xs.toList with
  | none => rfl
  | some vs =>
    simp only [Option.bind_some, Try.func51, Option.map_some, List.nil_append, List.append_nil]
    rfl

/-- A slice of events. -/
structure Evs (H : AH) (v : AV) (l : List E6) : Prop where
  len : ∀ H, lenA Try.prog 22 H v = some (I l.length)
  ix : ∀ (j : Nat) (e : E6), l[j]? = some e → ∃ i k, indexAddrA Try.prog 22 v (I j) = some (.ptr i k) ∧ rdCells H i k 6 = some e.cells

theorem index_loop {v : AV} {H : AH} {l : List E6} (hv : Evs H v l) (hl : l.length < 2 ^ 62) : ∀ (d j : Nat) (tm : List AV), l.length - j = d → j ≤ l.length →
    tm.length = 19 → tm.getD 0 undefA = v → tm.getD 1 undefA = fn51 → tm.getD 7 undefA = I l.length → tm.getD 8 undefA = I j →
    ∃ e tm', EvC Try.prog C3 l45_0 (tm, H) = some (e, (tm', H)) ∧ tm'.length = 19 ∧ (((l.drop j).any E6.bad = false ∧ e = .exit 0) ∨ ((l.drop j).any E6.bad = true ∧ e = .ret ∧ ∃ n : Nat, tm'.getD 4 undefA = I n)) := by
  intro d
  induction d with
  | zero =>
    intro j tm hd hj hlen h0 h1 h7 h8
    have hjl : j = l.length := by omega
    subst hjl
    have hlt : decide ((l.length : Int) < (l.length : Int)) = false := by simp
    rw [el45_0]
    simp -implicitDefEqProofs only [b45_0, atPath, Try.f45, Option.getD_some, hlen, h0, h1, h7, h8, hlt, ↓EvC_seq, ↓EvC_skip, ↓EvC_exit, ↓EvC_ret, ↓EvC_block, ↓EvC_cond, ↓ev_region, ↓runL_cons, ↓runL_nil, ↓stepO_none, ↓stepO_guard, ↓aop_move, ↓aop_assign, ↓aop_load, ↓aop_store, ↓aop_alloc, ↓aop_box, ↓aop_nilCheck, ↓aop_fieldAddr, ↓aop_field, ↓aop_indexAddr, ↓aop_binOp, ↓aop_pick, ↓aop_extract, ↓aop_buildSlice, ↓aop_slice, ↓aop_not, ↓aop_call, ↓callA_len, ↓callA_append, ev_tmp, ev_const, ofV_int, ofV_bool, ofV_str, ofV_nilSlice, ofV_nilPtr, putA_some, putA_none, gs_self, gs_ne, List.length_set, Option.bind_some, Option.map_some, intBinA, evL, evO, evP, ne_eq, not_false_eq_true, if_true, if_false, reduceCtorEq, ite_true, ite_false, reduceIte, put_app, AV.cells, and_true, true_and, and_self, decide_true, decide_false, ↓yielded_eq, yv_some, boolOf_bool, List.getElem?_toArray, List.getElem?_cons_zero, List.getElem?_cons_succ, Nat.reduceLT, Nat.reduceEqDiff, beq_self_eq_true, Option.some_beq_some, wr_app, wr_app0, rd_app, rd_app0, rdL_here, rdL_next, wrL_here, wrL_next, spl, List.all_cons, List.all_nil, AV.one, Bool.and_self, Bool.true_and, List.drop_zero, List.take_succ_cons, List.take_zero, List.drop_succ_cons, List.head?_cons, Nat.reduceAdd, Nat.reduceLeDiff, List.length_cons, List.length_nil, List.nil_append, List.cons_append, List.set_cons_zero, List.set_cons_succ, Int.toNat_natCast, Nat.add_zero, b_ft, b_tf, Bool.false_eq_true]
    refine ⟨_, _, rfl, by simp only [List.length_set, hlen], .inl ⟨by simp, rfl⟩⟩
  | succ d ih =>
    intro j tm hd hj hlen h0 h1 h7 h8
    obtain ⟨e, he⟩ : ∃ e, l[j]? = some e := ⟨_, List.getElem?_eq_getElem (by omega)⟩
    obtain ⟨i, k, hi, hr⟩ := hv.ix j e he
    have hlt : decide ((j : Int) < (l.length : Int)) = true := by simp; omega
    have hw : IntKind.i64.wrap ((j : Int) + 1) = ((j + 1 : Nat) : Int) := by rw [IntWalk.i64_in _ (by omega)]; omega
    have hdl : l.drop j = e :: l.drop (j + 1) := by rw [List.drop_eq_getElem_cons (by omega)]; congr 1; rw [List.getElem?_eq_getElem (by omega)] at he; exact Option.some.inj he
    have kb := fun H => k3_bad H e.sp e.bl e.ce e.th e.ki e.ph
    simp only [E6.cells] at hr
    cases hb : e.bad
    · have hb' : badB e.sp e.bl e.ce e.th e.ki e.ph = false := hb
      simp only [hb'] at kb
      rw [el45_0]
      simp -implicitDefEqProofs only [b45_0, atPath, Try.f45, Option.getD_some, hlen, h0, h1, h7, h8, hlt, hw, hi, hr, kb, ↓ld36, ↓cf51, ↓EvC_seq, ↓EvC_skip, ↓EvC_exit, ↓EvC_ret, ↓EvC_block, ↓EvC_cond, ↓ev_region, ↓runL_cons, ↓runL_nil, ↓stepO_none, ↓stepO_guard, ↓aop_move, ↓aop_assign, ↓aop_load, ↓aop_store, ↓aop_alloc, ↓aop_box, ↓aop_nilCheck, ↓aop_fieldAddr, ↓aop_field, ↓aop_indexAddr, ↓aop_binOp, ↓aop_pick, ↓aop_extract, ↓aop_buildSlice, ↓aop_slice, ↓aop_not, ↓aop_call, ↓callA_len, ↓callA_append, ev_tmp, ev_const, ofV_int, ofV_bool, ofV_str, ofV_nilSlice, ofV_nilPtr, putA_some, putA_none, gs_self, gs_ne, List.length_set, Option.bind_some, Option.map_some, intBinA, evL, evO, evP, ne_eq, not_false_eq_true, if_true, if_false, reduceCtorEq, ite_true, ite_false, reduceIte, put_app, AV.cells, and_true, true_and, and_self, decide_true, decide_false, ↓yielded_eq, yv_some, boolOf_bool, List.getElem?_toArray, List.getElem?_cons_zero, List.getElem?_cons_succ, Nat.reduceLT, Nat.reduceEqDiff, beq_self_eq_true, Option.some_beq_some, wr_app, wr_app0, rd_app, rd_app0, rdL_here, rdL_next, wrL_here, wrL_next, spl, List.all_cons, List.all_nil, AV.one, Bool.and_self, Bool.true_and, List.drop_zero, List.take_succ_cons, List.take_zero, List.drop_succ_cons, List.head?_cons, Nat.reduceAdd, Nat.reduceLeDiff, List.length_cons, List.length_nil, List.nil_append, List.cons_append, List.set_cons_zero, List.set_cons_succ, Int.toNat_natCast, Nat.add_zero, b_ft, b_tf, Bool.false_eq_true]
      generalize hX : EvC Try.prog C3 _ _ = X
      have key : ∀ (tm1 : List AV), EvC Try.prog C3 l45_0 (tm1, H) = X → tm1.length = 19 → tm1.getD 0 undefA = v → tm1.getD 1 undefA = fn51 → tm1.getD 7 undefA = I l.length → tm1.getD 8 undefA = I ((j + 1 : Nat) : Int) →
          ∃ e tm', X = some (e, (tm', H)) ∧ tm'.length = 19 ∧ (((l.drop j).any E6.bad = false ∧ e = .exit 0) ∨ ((l.drop j).any E6.bad = true ∧ e = .ret ∧ ∃ n : Nat, tm'.getD 4 undefA = I n)) := by
        intro tm1 h q0 q1 q2 q3 q4
        obtain ⟨e', tm', he', hl', hc⟩ := ih (j + 1) tm1 (by omega) (by omega) q0 q1 q2 q3 q4
        refine ⟨e', tm', h.symm.trans he', hl', ?_⟩
        rw [hdl, List.any_cons, hb, Bool.false_or]
        exact hc
      exact key _ hX (by simp only [List.length_set, hlen]) (by simp only [hlen, h0, gs_self, gs_ne, List.length_set, ne_eq, Nat.reduceEqDiff, Nat.reduceLT, not_false_eq_true]) (by simp only [hlen, h1, gs_self, gs_ne, List.length_set, ne_eq, Nat.reduceEqDiff, Nat.reduceLT, not_false_eq_true]) (by simp only [hlen, h7, gs_self, gs_ne, List.length_set, ne_eq, Nat.reduceEqDiff, Nat.reduceLT, not_false_eq_true]) (by simp only [hlen, gs_self, gs_ne, List.length_set, ne_eq, Nat.reduceEqDiff, Nat.reduceLT, not_false_eq_true])
    · have hb' : badB e.sp e.bl e.ce e.th e.ki e.ph = true := hb
      simp only [hb'] at kb
      rw [el45_0]
      simp -implicitDefEqProofs only [b45_0, atPath, Try.f45, Option.getD_some, hlen, h0, h1, h7, h8, hlt, hw, hi, hr, kb, ↓ld36, ↓cf51, ↓EvC_seq, ↓EvC_skip, ↓EvC_exit, ↓EvC_ret, ↓EvC_block, ↓EvC_cond, ↓ev_region, ↓runL_cons, ↓runL_nil, ↓stepO_none, ↓stepO_guard, ↓aop_move, ↓aop_assign, ↓aop_load, ↓aop_store, ↓aop_alloc, ↓aop_box, ↓aop_nilCheck, ↓aop_fieldAddr, ↓aop_field, ↓aop_indexAddr, ↓aop_binOp, ↓aop_pick, ↓aop_extract, ↓aop_buildSlice, ↓aop_slice, ↓aop_not, ↓aop_call, ↓callA_len, ↓callA_append, ev_tmp, ev_const, ofV_int, ofV_bool, ofV_str, ofV_nilSlice, ofV_nilPtr, putA_some, putA_none, gs_self, gs_ne, List.length_set, Option.bind_some, Option.map_some, intBinA, evL, evO, evP, ne_eq, not_false_eq_true, if_true, if_false, reduceCtorEq, ite_true, ite_false, reduceIte, put_app, AV.cells, and_true, true_and, and_self, decide_true, decide_false, ↓yielded_eq, yv_some, boolOf_bool, List.getElem?_toArray, List.getElem?_cons_zero, List.getElem?_cons_succ, Nat.reduceLT, Nat.reduceEqDiff, beq_self_eq_true, Option.some_beq_some, wr_app, wr_app0, rd_app, rd_app0, rdL_here, rdL_next, wrL_here, wrL_next, spl, List.all_cons, List.all_nil, AV.one, Bool.and_self, Bool.true_and, List.drop_zero, List.take_succ_cons, List.take_zero, List.drop_succ_cons, List.head?_cons, Nat.reduceAdd, Nat.reduceLeDiff, List.length_cons, List.length_nil, List.nil_append, List.cons_append, List.set_cons_zero, List.set_cons_succ, Int.toNat_natCast, Nat.add_zero, b_ft, b_tf, Bool.false_eq_true]
      refine ⟨_, _, rfl, by simp only [List.length_set, hlen], .inr ⟨by rw [hdl, List.any_cons, hb]; rfl, rfl, j, ?_⟩⟩
      simp only [hlen, gs_self, gs_ne, List.length_set, ne_eq, Nat.reduceEqDiff, Nat.reduceLT, not_false_eq_true]
end Go.Dv
