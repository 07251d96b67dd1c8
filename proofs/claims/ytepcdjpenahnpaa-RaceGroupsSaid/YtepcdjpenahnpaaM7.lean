/- Texts of the evaluator and of the laws' walks, put together in the order of their build: N7, T40, T41, T42, N8, T43, T44, T45, T46 (own work). -/
import Derived.Test.YtepcdjpenahnpaaM6

/- Names for the bodies and loops of functions of the translation, by their place in it (written by gen.py, own work). -/
namespace Go.Dv
open Go.Proofs
set_option maxRecDepth 100000
noncomputable def c46 : Code := Try.f46.body.getD .skip
theorem fe46 (args : List AV) (H : AH) : Ev Try.prog C3 46 args H = (EvC Try.prog C3 c46 (args ++ List.replicate (7 - args.length) undefA, H)).bind fun r => match r with | (.normal, s) => some ((s.1.getD 3 undefA), s.2) | (.ret, s) => some ((s.1.getD 3 undefA), s.2) | _ => none := Ev_eq Try.func46 rfl args H (orc3 (by decide) args H)
theorem fc46 (C : Cfg Try.prog) (slot : Option Nat) (tm : List AV) (H : AH) (o : Oper) (xs : Array Operand) (ats : Array TypeId) : callA Try.prog C slot (evalA tm) o ⟨.value (.func 46), xs, ats⟩ H = (evL (evalA tm) xs.toList).map fun vs => (.enter 46 vs, H) := callF (by rw [Try.func46]; rfl) slot _ H o xs ats rfl
noncomputable def c48 : Code := Try.f48.body.getD .skip
theorem fe48 (args : List AV) (H : AH) : Ev Try.prog C3 48 args H = (EvC Try.prog C3 c48 (args ++ List.replicate (9 - args.length) undefA, H)).bind fun r => match r with | (.normal, s) => some ((s.1.getD 4 undefA), s.2) | (.ret, s) => some ((s.1.getD 4 undefA), s.2) | _ => none := Ev_eq Try.func48 rfl args H (orc3 (by decide) args H)
theorem fc48 (C : Cfg Try.prog) (slot : Option Nat) (tm : List AV) (H : AH) (o : Oper) (xs : Array Operand) (ats : Array TypeId) : callA Try.prog C slot (evalA tm) o ⟨.value (.func 48), xs, ats⟩ H = (evL (evalA tm) xs.toList).map fun vs => (.enter 48 vs, H) := callF (by rw [Try.func48]; rfl) slot _ H o xs ats rfl
noncomputable def b63_0 : Code := atPath [true, false, true, false, false] (Try.f63.body.getD .skip)
noncomputable def l63_0 : Code := Code.loop b63_0
theorem el63_0 (s : St) : EvC Try.prog C3 l63_0 s = (EvC Try.prog C3 b63_0 s).bind fun r => match r with | (.normal, s') => EvC Try.prog C3 l63_0 s' | r => some r := EvC_loop _ _
noncomputable def c63 : Code := Try.f63.body.getD .skip
noncomputable def d63_4 : Code := atPath [true, false, true, false, false, true, true, false, false, true, false] (Try.f63.body.getD .skip)
theorem ed63_4 (tm : List AV) (H : AH) : EvC Try.prog C3 d63_4 (tm, H) = (runPlan Try.prog C3 (Ev Try.prog C3) H.length (opsAt d63_4) (.take 1 (.take 2 (.take 3 (graft (.all [(0, (.all [(4, (.take 5 .done))])), (4, (.all [(0, (.take 5 .done))]))]) .done)))) (tm, H)).bind fun s' => some (.normal, s') := ev_draw (by kernel_rfl) (by kernel_rfl) tm H
theorem fe63 (args : List AV) (H : AH) : Ev Try.prog C3 63 args H = (EvC Try.prog C3 c63 (args ++ List.replicate (19 - args.length) undefA, H)).bind fun r => match r with | (.normal, s) => some ((s.1.getD 4 undefA), s.2) | (.ret, s) => some ((s.1.getD 4 undefA), s.2) | _ => none := Ev_eq Try.func63 rfl args H (orc3 (by decide) args H)
theorem fc63 (C : Cfg Try.prog) (slot : Option Nat) (tm : List AV) (H : AH) (o : Oper) (xs : Array Operand) (ats : Array TypeId) : callA Try.prog C slot (evalA tm) o ⟨.value (.func 63), xs, ats⟩ H = (evL (evalA tm) xs.toList).map fun vs => (.enter 63 vs, H) := callF (by rw [Try.func63]; rfl) slot _ H o xs ats rfl
end Go.Dv

/- slices.IndexFunc with race.Find's closure, slices.Contains (printed by t40.py, own work). -/
namespace Go.Dv
open Go.Proofs
set_option maxRecDepth 100000
set_option linter.unusedSimpArgs false
set_option linter.unusedVariables false
attribute [local congr] bind_congr_first

theorem rd_self {H : AH} {i k n : Nat} {xs : List AV} (h : rdCells H i k n = some xs) : ∀ L, rdCells (H ++ L) i k n = some xs := fun L => rd_old h L

/-- race.Find's closure. -/
theorem clos46 (H : AH) (x y : E6) (i : Nat) (hx : rdCells H i 0 6 = some x.cells) : ∃ L, Ev Try.prog C3 46 [.agg y.cells, .ptr i 0] H = some (.bool (y.clash x), H ++ L) := by
  have g0 : ([AV.agg y.cells, AV.ptr i 0] ++ List.replicate (7 - [AV.agg y.cells, .ptr i 0].length) undefA).length = 7 := by simp
  have g1 : ([AV.agg y.cells, AV.ptr i 0] ++ List.replicate (7 - [AV.agg y.cells, .ptr i 0].length) undefA).getD 0 undefA = .agg [I y.sp, I y.bl, I y.ce, I y.th, I y.ki, I y.ph] := rfl
  have g2 : ([AV.agg y.cells, AV.ptr i 0] ++ List.replicate (7 - [AV.agg y.cells, .ptr i 0].length) undefA).getD 1 undefA = .ptr i 0 := rfl
  have hH : H = H ++ [] := by simp
  have hr : ∀ L, rdCells (H ++ L) i 0 6 = some [I x.sp, I x.bl, I x.ce, I x.th, I x.ki, I x.ph] := fun L => rd_old hx L
  rw [fe46]
  generalize [AV.agg y.cells, AV.ptr i 0] ++ List.replicate (7 - [AV.agg y.cells, .ptr i 0].length) undefA = tm at *
  apply Exists.intro
  conv => lhs; rw [hH]
  simp -implicitDefEqProofs only [c46, Try.f46, Option.getD_some, g0, g1, g2, hr, ↓fc47, k3_clash, E6.clash, ↓ld36, ↓ld34, ↓ld3, ↓st36, ↓st34, ↓st3, z36, z34, fa36_0, fa36_1, fa38_0, fa38_1, ↓EvC_seq, ↓EvC_skip, ↓EvC_exit, ↓EvC_ret, ↓EvC_block, ↓EvC_cond, ↓ev_region, ↓runL_cons, ↓runL_nil, ↓stepO_none, ↓stepO_guard, ↓aop_move, ↓aop_assign, ↓aop_load, ↓aop_store, ↓aop_alloc, ↓aop_box, ↓aop_nilCheck, ↓aop_fieldAddr, ↓aop_field, ↓aop_indexAddr, ↓aop_binOp, ↓aop_pick, ↓aop_extract, ↓aop_buildSlice, ↓aop_slice, ↓aop_not, ↓aop_call, ↓callA_len, ↓callA_append, ev_tmp, ev_const, ofV_int, ofV_bool, ofV_str, ofV_nilSlice, ofV_nilPtr, putA_some, putA_none, gs_self, gs_ne, List.length_set, Option.bind_some, Option.map_some, intBinA, evL, evO, evP, ne_eq, not_false_eq_true, if_true, if_false, reduceCtorEq, ite_true, ite_false, reduceIte, put_app, AV.cells, and_true, true_and, and_self, decide_true, decide_false, ↓yielded_eq, yv_some, boolOf_bool, List.getElem?_toArray, List.getElem?_cons_zero, List.getElem?_cons_succ, Nat.reduceLT, Nat.reduceEqDiff, beq_self_eq_true, Option.some_beq_some, wr_app, wr_app0, rd_app, rd_app0, rdL_here, rdL_next, wrL_here, wrL_next, spl, List.all_cons, List.all_nil, AV.one, Bool.and_self, Bool.true_and, List.drop_zero, List.take_succ_cons, List.take_zero, List.drop_succ_cons, List.head?_cons, Nat.reduceAdd, Nat.reduceLeDiff, List.length_cons, List.length_nil, List.nil_append, List.cons_append, List.set_cons_zero, List.set_cons_succ, Int.toNat_natCast, Nat.add_zero, b_ft, b_tf, Bool.false_eq_true]
  with_reducible rfl

abbrev fn46 (i : Nat) : AV := .func (.func 46) [] [.ptr i 0]
theorem cf46 (i : Nat) (slot : Option Nat) (tm : List AV) (H : AH) (o : Oper) (t : Tmp) (xs : Array Operand) (ats : Array TypeId) (h : tm.getD t undefA = fn46 i) : callA Try.prog C3 slot (evalA tm) o ⟨.value (.tmp t), xs, ats⟩ H = (evL (evalA tm) xs.toList).map fun vs => (.enter 46 (vs ++ [.ptr i 0]), H) := by
  simp only [callA, ev_tmp, h, Option.bind_some]
  cases evL (evalA tm) xs.toList with
  | none => rfl
  | some vs =>
    simp only [Option.bind_some, Try.func46, Option.map_some, List.nil_append]
    rfl

theorem idx_end {H : AH} {tm : List AV} {n : Nat} (hlen : tm.length = 19) (h7 : tm.getD 7 undefA = I n) (h8 : tm.getD 8 undefA = I n) : ∃ tm', EvC Try.prog C3 l45_0 (tm, H) = some (.exit 0, (tm', H)) ∧ tm'.length = 19 := by
  have hlt : decide ((n : Int) < (n : Int)) = false := by simp
  rw [el45_0]
  simp -implicitDefEqProofs only [b45_0, atPath, Try.f45, Option.getD_some, hlen, h7, h8, hlt, ↓EvC_seq, ↓EvC_skip, ↓EvC_exit, ↓EvC_ret, ↓EvC_block, ↓EvC_cond, ↓ev_region, ↓runL_cons, ↓runL_nil, ↓stepO_none, ↓stepO_guard, ↓aop_move, ↓aop_assign, ↓aop_load, ↓aop_store, ↓aop_alloc, ↓aop_box, ↓aop_nilCheck, ↓aop_fieldAddr, ↓aop_field, ↓aop_indexAddr, ↓aop_binOp, ↓aop_pick, ↓aop_extract, ↓aop_buildSlice, ↓aop_slice, ↓aop_not, ↓aop_call, ↓callA_len, ↓callA_append, ev_tmp, ev_const, ofV_int, ofV_bool, ofV_str, ofV_nilSlice, ofV_nilPtr, putA_some, putA_none, gs_self, gs_ne, List.length_set, Option.bind_some, Option.map_some, intBinA, evL, evO, evP, ne_eq, not_false_eq_true, if_true, if_false, reduceCtorEq, ite_true, ite_false, reduceIte, put_app, AV.cells, and_true, true_and, and_self, decide_true, decide_false, ↓yielded_eq, yv_some, boolOf_bool, List.getElem?_toArray, List.getElem?_cons_zero, List.getElem?_cons_succ, Nat.reduceLT, Nat.reduceEqDiff, beq_self_eq_true, Option.some_beq_some, wr_app, wr_app0, rd_app, rd_app0, rdL_here, rdL_next, wrL_here, wrL_next, spl, List.all_cons, List.all_nil, AV.one, Bool.and_self, Bool.true_and, List.drop_zero, List.take_succ_cons, List.take_zero, List.drop_succ_cons, List.head?_cons, Nat.reduceAdd, Nat.reduceLeDiff, List.length_cons, List.length_nil, List.nil_append, List.cons_append, List.set_cons_zero, List.set_cons_succ, Int.toNat_natCast, Nat.add_zero, b_ft, b_tf, Bool.false_eq_true]
  exact ⟨_, rfl, by simp only [List.length_set, hlen]⟩

theorem idx_round {v : AV} {H : AH} {n j i k ix : Nat} {x y : E6} {tm : List AV} (hi : indexAddrA Try.prog 22 v (I j) = some (.ptr i k)) (hr : rdCells H i k 6 = some y.cells) (hx : rdCells H ix 0 6 = some x.cells) (hj : j < n) (hn : n < 2 ^ 62)
    (hlen : tm.length = 19) (h0 : tm.getD 0 undefA = v) (h1 : tm.getD 1 undefA = fn46 ix) (h7 : tm.getD 7 undefA = I n) (h8 : tm.getD 8 undefA = I j) :
    (y.clash x = true ∧ ∃ tm' L, EvC Try.prog C3 l45_0 (tm, H) = some (.ret, (tm', H ++ L)) ∧ tm'.length = 19 ∧ tm'.getD 4 undefA = I j) ∨
    (y.clash x = false ∧ ∃ tm' L, EvC Try.prog C3 l45_0 (tm, H) = EvC Try.prog C3 l45_0 (tm', H ++ L) ∧ tm'.length = 19 ∧ tm'.getD 0 undefA = v ∧ tm'.getD 1 undefA = fn46 ix ∧ tm'.getD 7 undefA = I n ∧ tm'.getD 8 undefA = I ((j + 1 : Nat) : Int)) := by
  have hlt : decide ((j : Int) < (n : Int)) = true := by simp; omega
  have hw : IntKind.i64.wrap ((j : Int) + 1) = ((j + 1 : Nat) : Int) := by rw [IntWalk.i64_in _ (by omega)]; omega
  obtain ⟨L, hc⟩ := clos46 H x y ix hx
  simp only [E6.cells] at hr hc
  rw [el45_0]
  cases hb : y.clash x
  · rw [hb] at hc
    refine .inr ⟨rfl, ?_⟩
    simp -implicitDefEqProofs only [b45_0, atPath, Try.f45, Option.getD_some, hlen, h0, h1, h7, h8, hlt, hw, hi, hr, hc, ↓ld36, ↓cf46 ix, ↓EvC_seq, ↓EvC_skip, ↓EvC_exit, ↓EvC_ret, ↓EvC_block, ↓EvC_cond, ↓ev_region, ↓runL_cons, ↓runL_nil, ↓stepO_none, ↓stepO_guard, ↓aop_move, ↓aop_assign, ↓aop_load, ↓aop_store, ↓aop_alloc, ↓aop_box, ↓aop_nilCheck, ↓aop_fieldAddr, ↓aop_field, ↓aop_indexAddr, ↓aop_binOp, ↓aop_pick, ↓aop_extract, ↓aop_buildSlice, ↓aop_slice, ↓aop_not, ↓aop_call, ↓callA_len, ↓callA_append, ev_tmp, ev_const, ofV_int, ofV_bool, ofV_str, ofV_nilSlice, ofV_nilPtr, putA_some, putA_none, gs_self, gs_ne, List.length_set, Option.bind_some, Option.map_some, intBinA, evL, evO, evP, ne_eq, not_false_eq_true, if_true, if_false, reduceCtorEq, ite_true, ite_false, reduceIte, put_app, AV.cells, and_true, true_and, and_self, decide_true, decide_false, ↓yielded_eq, yv_some, boolOf_bool, List.getElem?_toArray, List.getElem?_cons_zero, List.getElem?_cons_succ, Nat.reduceLT, Nat.reduceEqDiff, beq_self_eq_true, Option.some_beq_some, wr_app, wr_app0, rd_app, rd_app0, rdL_here, rdL_next, wrL_here, wrL_next, spl, List.all_cons, List.all_nil, AV.one, Bool.and_self, Bool.true_and, List.drop_zero, List.take_succ_cons, List.take_zero, List.drop_succ_cons, List.head?_cons, Nat.reduceAdd, Nat.reduceLeDiff, List.length_cons, List.length_nil, List.nil_append, List.cons_append, List.set_cons_zero, List.set_cons_succ, Int.toNat_natCast, Nat.add_zero, b_ft, b_tf, Bool.false_eq_true]
    exact ⟨_, _, rfl, by simp only [List.length_set, hlen], by simp only [hlen, h0, gs_self, gs_ne, List.length_set, ne_eq, Nat.reduceEqDiff, Nat.reduceLT, not_false_eq_true], by simp only [hlen, h1, gs_self, gs_ne, List.length_set, ne_eq, Nat.reduceEqDiff, Nat.reduceLT, not_false_eq_true], by simp only [hlen, h7, gs_self, gs_ne, List.length_set, ne_eq, Nat.reduceEqDiff, Nat.reduceLT, not_false_eq_true], by simp only [hlen, gs_self, gs_ne, List.length_set, ne_eq, Nat.reduceEqDiff, Nat.reduceLT, not_false_eq_true]⟩
  · rw [hb] at hc
    refine .inl ⟨rfl, ?_⟩
    simp -implicitDefEqProofs only [b45_0, atPath, Try.f45, Option.getD_some, hlen, h0, h1, h7, h8, hlt, hw, hi, hr, hc, ↓ld36, ↓cf46 ix, ↓EvC_seq, ↓EvC_skip, ↓EvC_exit, ↓EvC_ret, ↓EvC_block, ↓EvC_cond, ↓ev_region, ↓runL_cons, ↓runL_nil, ↓stepO_none, ↓stepO_guard, ↓aop_move, ↓aop_assign, ↓aop_load, ↓aop_store, ↓aop_alloc, ↓aop_box, ↓aop_nilCheck, ↓aop_fieldAddr, ↓aop_field, ↓aop_indexAddr, ↓aop_binOp, ↓aop_pick, ↓aop_extract, ↓aop_buildSlice, ↓aop_slice, ↓aop_not, ↓aop_call, ↓callA_len, ↓callA_append, ev_tmp, ev_const, ofV_int, ofV_bool, ofV_str, ofV_nilSlice, ofV_nilPtr, putA_some, putA_none, gs_self, gs_ne, List.length_set, Option.bind_some, Option.map_some, intBinA, evL, evO, evP, ne_eq, not_false_eq_true, if_true, if_false, reduceCtorEq, ite_true, ite_false, reduceIte, put_app, AV.cells, and_true, true_and, and_self, decide_true, decide_false, ↓yielded_eq, yv_some, boolOf_bool, List.getElem?_toArray, List.getElem?_cons_zero, List.getElem?_cons_succ, Nat.reduceLT, Nat.reduceEqDiff, beq_self_eq_true, Option.some_beq_some, wr_app, wr_app0, rd_app, rd_app0, rdL_here, rdL_next, wrL_here, wrL_next, spl, List.all_cons, List.all_nil, AV.one, Bool.and_self, Bool.true_and, List.drop_zero, List.take_succ_cons, List.take_zero, List.drop_succ_cons, List.head?_cons, Nat.reduceAdd, Nat.reduceLeDiff, List.length_cons, List.length_nil, List.nil_append, List.cons_append, List.set_cons_zero, List.set_cons_succ, Int.toNat_natCast, Nat.add_zero, b_ft, b_tf, Bool.false_eq_true]
    exact ⟨_, _, rfl, by simp only [List.length_set, hlen], by simp only [hlen, gs_self, gs_ne, List.length_set, ne_eq, Nat.reduceEqDiff, Nat.reduceLT, not_false_eq_true]⟩

def idxOf : Option Nat → Int
  | some n => n
  | none => -1

theorem idx_loop {v : AV} {l : List E6} {x : E6} {ix : Nat} (hl : l.length < 2 ^ 62) : ∀ (d j : Nat) (tm : List AV) (H : AH), l.length - j = d → j ≤ l.length → Evs H v l → rdCells H ix 0 6 = some x.cells →
    tm.length = 19 → tm.getD 0 undefA = v → tm.getD 1 undefA = fn46 ix → tm.getD 7 undefA = I l.length → tm.getD 8 undefA = I j →
    ∃ e tm' L, EvC Try.prog C3 l45_0 (tm, H) = some (e, (tm', H ++ L)) ∧ tm'.length = 19 ∧ ((∃ n : Nat, firstAt (fun y => y.clash x) (l.drop j) j = some n ∧ e = .ret ∧ tm'.getD 4 undefA = I n) ∨ (firstAt (fun y => y.clash x) (l.drop j) j = none ∧ e = .exit 0)) := by
  intro d
  induction d with
  | zero =>
    intro j tm H hd hj hv hx hlen h0 h1 h7 h8
    obtain rfl : j = l.length := by omega
    obtain ⟨tm', he, hl'⟩ := idx_end (H := H) hlen h7 h8
    exact ⟨_, tm', [], by rw [List.append_nil]; exact he, hl', .inr ⟨by simp [firstAt], rfl⟩⟩
  | succ d ih =>
    intro j tm H hd hj hv hx hlen h0 h1 h7 h8
    obtain ⟨y, hy⟩ : ∃ y, l[j]? = some y := ⟨_, List.getElem?_eq_getElem (by omega)⟩
    obtain ⟨i, k, hi, hr⟩ := hv.ix j y hy
    have hdl : l.drop j = y :: l.drop (j + 1) := by rw [List.drop_eq_getElem_cons (by omega)]; congr 1; rw [List.getElem?_eq_getElem (by omega)] at hy; exact Option.some.inj hy
    rw [hdl]
    simp only [firstAt]
    rcases idx_round hi hr hx (by omega : j < l.length) hl hlen h0 h1 h7 h8 with ⟨hb, tm', L, hev, hl', g4⟩ | ⟨hb, tm', L, hev, hl', g0, g1, g7, g8⟩
    · rw [if_pos hb]
      exact ⟨_, tm', L, hev, hl', .inl ⟨j, rfl, rfl, g4⟩⟩
    · rw [if_neg (by simp [hb])]
      obtain ⟨e', tm2, L2, hev2, hl2, hc⟩ := ih (j + 1) tm' (H ++ L) (by omega) (by omega) (hv.more L) (rd_old hx L) hl' g0 g1 g7 g8
      exact ⟨e', tm2, L ++ L2, by rw [hev, hev2, List.append_assoc], hl2, hc⟩

theorem idx_loop' {v : AV} {l : List E6} {x : E6} {ix : Nat} {tm : List AV} {H : AH} {X : Option (AExit × St)} (hX : EvC Try.prog C3 l45_0 (tm, H) = X) (hl : l.length < 2 ^ 62) (hv : Evs H v l) (hx : rdCells H ix 0 6 = some x.cells)
    (hlen : tm.length = 19) (h0 : tm.getD 0 undefA = v) (h1 : tm.getD 1 undefA = fn46 ix) (h7 : tm.getD 7 undefA = I l.length) (h8 : tm.getD 8 undefA = I ((0 : Nat) : Int)) :
    ∃ e tm' L, X = some (e, (tm', H ++ L)) ∧ tm'.length = 19 ∧ ((∃ n : Nat, firstAt (fun y => y.clash x) l 0 = some n ∧ e = .ret ∧ tm'.getD 4 undefA = I n) ∨ (firstAt (fun y => y.clash x) l 0 = none ∧ e = .exit 0)) := by
  subst hX
  have := idx_loop (x := x) (ix := ix) hl l.length 0 tm H (by omega) (by omega) hv hx hlen h0 h1 h7 h8
  simpa using this

theorem idx_ev {v : AV} {H : AH} {l : List E6} {x : E6} {ix : Nat} (hv : Evs H v l) (hx : rdCells H ix 0 6 = some x.cells) (hl : l.length < 2 ^ 62) : ∃ L, Ev Try.prog C3 45 [v, fn46 ix] H = some (I (idxOf (firstAt (fun y => y.clash x) l 0)), H ++ L) := by
  have g0 : ([v, fn46 ix] ++ List.replicate (19 - [v, fn46 ix].length) undefA).length = 19 := by simp
  have g1 : ([v, fn46 ix] ++ List.replicate (19 - [v, fn46 ix].length) undefA).getD 0 undefA = v := rfl
  have g2 : ([v, fn46 ix] ++ List.replicate (19 - [v, fn46 ix].length) undefA).getD 1 undefA = fn46 ix := rfl
  have hla := hv.len
  rw [fe45]
  generalize [v, fn46 ix] ++ List.replicate (19 - [v, fn46 ix].length) undefA = tm at *
  simp -implicitDefEqProofs only [c45, Try.f45, Option.getD_some, g0, g1, g2, hla, ↓EvC_seq, ↓EvC_skip, ↓EvC_exit, ↓EvC_ret, ↓EvC_block, ↓EvC_cond, ↓ev_region, ↓runL_cons, ↓runL_nil, ↓stepO_none, ↓stepO_guard, ↓aop_move, ↓aop_assign, ↓aop_load, ↓aop_store, ↓aop_alloc, ↓aop_box, ↓aop_nilCheck, ↓aop_fieldAddr, ↓aop_field, ↓aop_indexAddr, ↓aop_binOp, ↓aop_pick, ↓aop_extract, ↓aop_buildSlice, ↓aop_slice, ↓aop_not, ↓aop_call, ↓callA_len, ↓callA_append, ev_tmp, ev_const, ofV_int, ofV_bool, ofV_str, ofV_nilSlice, ofV_nilPtr, putA_some, putA_none, gs_self, gs_ne, List.length_set, Option.bind_some, Option.map_some, intBinA, evL, evO, evP, ne_eq, not_false_eq_true, if_true, if_false, reduceCtorEq, ite_true, ite_false, reduceIte, put_app, AV.cells, and_true, true_and, and_self, decide_true, decide_false, ↓yielded_eq, yv_some, boolOf_bool, List.getElem?_toArray, List.getElem?_cons_zero, List.getElem?_cons_succ, Nat.reduceLT, Nat.reduceEqDiff, beq_self_eq_true, Option.some_beq_some, wr_app, wr_app0, rd_app, rd_app0, rdL_here, rdL_next, wrL_here, wrL_next, spl, List.all_cons, List.all_nil, AV.one, Bool.and_self, Bool.true_and, List.drop_zero, List.take_succ_cons, List.take_zero, List.drop_succ_cons, List.head?_cons, Nat.reduceAdd, Nat.reduceLeDiff, List.length_cons, List.length_nil, List.nil_append, List.cons_append, List.set_cons_zero, List.set_cons_succ, Int.toNat_natCast, Nat.add_zero, b_ft, b_tf, Bool.false_eq_true]
  generalize hX : EvC Try.prog C3 (Code.loop _) _ = X
  obtain ⟨e, tm', L, he, hl', hc⟩ := idx_loop' hX hl hv hx (by simp only [List.length_set, g0]) (by simp only [g0, g1, gs_self, gs_ne, List.length_set, ne_eq, Nat.reduceEqDiff, Nat.reduceLT, not_false_eq_true]) (by simp only [g0, g2, gs_self, gs_ne, List.length_set, ne_eq, Nat.reduceEqDiff, Nat.reduceLT, not_false_eq_true]) (by simp only [g0, gs_self, gs_ne, List.length_set, ne_eq, Nat.reduceEqDiff, Nat.reduceLT, not_false_eq_true]) (by simp only [g0, gs_self, gs_ne, List.length_set, ne_eq, Nat.reduceEqDiff, Nat.reduceLT, not_false_eq_true] <;> rfl)
  subst he
  refine ⟨L, ?_⟩
  rcases hc with ⟨n, hf, rfl, h4⟩ | ⟨hf, rfl⟩
  · rw [hf]
    simp -implicitDefEqProofs only [hl', h4, idxOf, ↓EvC_seq, ↓EvC_skip, ↓EvC_exit, ↓EvC_ret, ↓EvC_block, ↓EvC_cond, ↓ev_region, ↓runL_cons, ↓runL_nil, ↓stepO_none, ↓stepO_guard, ↓aop_move, ↓aop_assign, ↓aop_load, ↓aop_store, ↓aop_alloc, ↓aop_box, ↓aop_nilCheck, ↓aop_fieldAddr, ↓aop_field, ↓aop_indexAddr, ↓aop_binOp, ↓aop_pick, ↓aop_extract, ↓aop_buildSlice, ↓aop_slice, ↓aop_not, ↓aop_call, ↓callA_len, ↓callA_append, ev_tmp, ev_const, ofV_int, ofV_bool, ofV_str, ofV_nilSlice, ofV_nilPtr, putA_some, putA_none, gs_self, gs_ne, List.length_set, Option.bind_some, Option.map_some, intBinA, evL, evO, evP, ne_eq, not_false_eq_true, if_true, if_false, reduceCtorEq, ite_true, ite_false, reduceIte, put_app, AV.cells, and_true, true_and, and_self, decide_true, decide_false, ↓yielded_eq, yv_some, boolOf_bool, List.getElem?_toArray, List.getElem?_cons_zero, List.getElem?_cons_succ, Nat.reduceLT, Nat.reduceEqDiff, beq_self_eq_true, Option.some_beq_some, wr_app, wr_app0, rd_app, rd_app0, rdL_here, rdL_next, wrL_here, wrL_next, spl, List.all_cons, List.all_nil, AV.one, Bool.and_self, Bool.true_and, List.drop_zero, List.take_succ_cons, List.take_zero, List.drop_succ_cons, List.head?_cons, Nat.reduceAdd, Nat.reduceLeDiff, List.length_cons, List.length_nil, List.nil_append, List.cons_append, List.set_cons_zero, List.set_cons_succ, Int.toNat_natCast, Nat.add_zero, b_ft, b_tf, Bool.false_eq_true]
  · rw [hf]
    simp -implicitDefEqProofs only [hl', idxOf, ↓EvC_seq, ↓EvC_skip, ↓EvC_exit, ↓EvC_ret, ↓EvC_block, ↓EvC_cond, ↓ev_region, ↓runL_cons, ↓runL_nil, ↓stepO_none, ↓stepO_guard, ↓aop_move, ↓aop_assign, ↓aop_load, ↓aop_store, ↓aop_alloc, ↓aop_box, ↓aop_nilCheck, ↓aop_fieldAddr, ↓aop_field, ↓aop_indexAddr, ↓aop_binOp, ↓aop_pick, ↓aop_extract, ↓aop_buildSlice, ↓aop_slice, ↓aop_not, ↓aop_call, ↓callA_len, ↓callA_append, ev_tmp, ev_const, ofV_int, ofV_bool, ofV_str, ofV_nilSlice, ofV_nilPtr, putA_some, putA_none, gs_self, gs_ne, List.length_set, Option.bind_some, Option.map_some, intBinA, evL, evO, evP, ne_eq, not_false_eq_true, if_true, if_false, reduceCtorEq, ite_true, ite_false, reduceIte, put_app, AV.cells, and_true, true_and, and_self, decide_true, decide_false, ↓yielded_eq, yv_some, boolOf_bool, List.getElem?_toArray, List.getElem?_cons_zero, List.getElem?_cons_succ, Nat.reduceLT, Nat.reduceEqDiff, beq_self_eq_true, Option.some_beq_some, wr_app, wr_app0, rd_app, rd_app0, rdL_here, rdL_next, wrL_here, wrL_next, spl, List.all_cons, List.all_nil, AV.one, Bool.and_self, Bool.true_and, List.drop_zero, List.take_succ_cons, List.take_zero, List.drop_succ_cons, List.head?_cons, Nat.reduceAdd, Nat.reduceLeDiff, List.length_cons, List.length_nil, List.nil_append, List.cons_append, List.set_cons_zero, List.set_cons_succ, Int.toNat_natCast, Nat.add_zero, b_ft, b_tf, Bool.false_eq_true]

/-! slices.Contains -/
def evEqB (a b c d e f a' b' c' d' e' f' : Int) : Bool := accEqB a b c d e a' b' c' d' e' && (f == f' && true)
theorem eqa36 (a b c d e f a' b' c' d' e' f' : Int) : eqVG Try.prog 36 (evt a b c d e f) (evt a' b' c' d' e' f') = some (evEqB a b c d e f a' b' c' d' e' f') := by kernel_rfl
def E6.eqv (x y : E6) : Bool := evEqB x.sp x.bl x.ce x.th x.ki x.ph y.sp y.bl y.ce y.th y.ki y.ph

theorem has_end {H : AH} {tm : List AV} {n : Nat} (hlen : tm.length = 19) (h7 : tm.getD 7 undefA = I n) (h8 : tm.getD 8 undefA = I n) : ∃ tm', EvC Try.prog C3 l63_0 (tm, H) = some (.exit 0, (tm', H)) ∧ tm'.length = 19 := by
  have hlt : decide ((n : Int) < (n : Int)) = false := by simp
  rw [el63_0]
  simp -implicitDefEqProofs only [b63_0, atPath, Try.f63, Option.getD_some, hlen, h7, h8, hlt, ↓EvC_seq, ↓EvC_skip, ↓EvC_exit, ↓EvC_ret, ↓EvC_block, ↓EvC_cond, ↓ev_region, ↓runL_cons, ↓runL_nil, ↓stepO_none, ↓stepO_guard, ↓aop_move, ↓aop_assign, ↓aop_load, ↓aop_store, ↓aop_alloc, ↓aop_box, ↓aop_nilCheck, ↓aop_fieldAddr, ↓aop_field, ↓aop_indexAddr, ↓aop_binOp, ↓aop_pick, ↓aop_extract, ↓aop_buildSlice, ↓aop_slice, ↓aop_not, ↓aop_call, ↓callA_len, ↓callA_append, ev_tmp, ev_const, ofV_int, ofV_bool, ofV_str, ofV_nilSlice, ofV_nilPtr, putA_some, putA_none, gs_self, gs_ne, List.length_set, Option.bind_some, Option.map_some, intBinA, evL, evO, evP, ne_eq, not_false_eq_true, if_true, if_false, reduceCtorEq, ite_true, ite_false, reduceIte, put_app, AV.cells, and_true, true_and, and_self, decide_true, decide_false, ↓yielded_eq, yv_some, boolOf_bool, List.getElem?_toArray, List.getElem?_cons_zero, List.getElem?_cons_succ, Nat.reduceLT, Nat.reduceEqDiff, beq_self_eq_true, Option.some_beq_some, wr_app, wr_app0, rd_app, rd_app0, rdL_here, rdL_next, wrL_here, wrL_next, spl, List.all_cons, List.all_nil, AV.one, Bool.and_self, Bool.true_and, List.drop_zero, List.take_succ_cons, List.take_zero, List.drop_succ_cons, List.head?_cons, Nat.reduceAdd, Nat.reduceLeDiff, List.length_cons, List.length_nil, List.nil_append, List.cons_append, List.set_cons_zero, List.set_cons_succ, Int.toNat_natCast, Nat.add_zero, b_ft, b_tf, Bool.false_eq_true]
  exact ⟨_, rfl, by simp only [List.length_set, hlen]⟩

set_option maxHeartbeats 4000000 in
theorem has_round {v : AV} {H : AH} {n j i k ix : Nat} {x y : E6} {tm : List AV} (hi : indexAddrA Try.prog 22 v (I j) = some (.ptr i k)) (hr0 : rdCells H i k 6 = some y.cells) (hx0 : rdCells H ix 0 6 = some x.cells) (hj : j < n) (hn : n < 2 ^ 62)
    (hlen : tm.length = 19) (h0 : tm.getD 0 undefA = v) (h3 : tm.getD 3 undefA = .ptr ix 0) (h7 : tm.getD 7 undefA = I n) (h8 : tm.getD 8 undefA = I j) :
    (x.eqv y = true ∧ ∃ tm', EvC Try.prog C3 l63_0 (tm, H) = some (.ret, (tm', H)) ∧ tm'.length = 19 ∧ tm'.getD 4 undefA = I j) ∨
    (x.eqv y = false ∧ ∃ tm', EvC Try.prog C3 l63_0 (tm, H) = EvC Try.prog C3 l63_0 (tm', H) ∧ tm'.length = 19 ∧ tm'.getD 0 undefA = v ∧ tm'.getD 3 undefA = .ptr ix 0 ∧ tm'.getD 7 undefA = I n ∧ tm'.getD 8 undefA = I ((j + 1 : Nat) : Int)) := by
  have hlt : decide ((j : Int) < (n : Int)) = true := by simp; omega
  have hw : IntKind.i64.wrap ((j : Int) + 1) = ((j + 1 : Nat) : Int) := by rw [IntWalk.i64_in _ (by omega)]; omega
  have d4 := ed63_4
  simp only [d63_4, opsAt, atPath, Try.f63, Option.getD_some] at d4
  simp only [E6.cells] at hr0 hx0
  rw [el63_0]
  cases hb : x.eqv y
  · have hb' : evEqB x.sp x.bl x.ce x.th x.ki x.ph y.sp y.bl y.ce y.th y.ki y.ph = false := hb
    refine .inr ⟨rfl, ?_⟩
    simp -implicitDefEqProofs only [b63_0, atPath, Try.f63, Option.getD_some, hlen, h0, h3, h7, h8, hlt, hw, hi, hr0, hx0, hb', ↓d4, eqa36, ↓ld36, boolOf_undef, nb, ↓EvC_seq, ↓EvC_skip, ↓EvC_exit, ↓EvC_ret, ↓EvC_block, ↓EvC_cond, ↓ev_region, ↓runL_cons, ↓runL_nil, ↓stepO_none, ↓stepO_guard, ↓aop_move, ↓aop_assign, ↓aop_load, ↓aop_store, ↓aop_alloc, ↓aop_box, ↓aop_nilCheck, ↓aop_fieldAddr, ↓aop_field, ↓aop_indexAddr, ↓aop_binOp, ↓aop_pick, ↓aop_extract, ↓aop_buildSlice, ↓aop_slice, ↓aop_not, ↓aop_call, ↓callA_len, ↓callA_append, ev_tmp, ev_const, ofV_int, ofV_bool, ofV_str, ofV_nilSlice, ofV_nilPtr, putA_some, putA_none, gs_self, gs_ne, List.length_set, Option.bind_some, Option.map_some, intBinA, evL, evO, evP, ne_eq, not_false_eq_true, if_true, if_false, reduceCtorEq, ite_true, ite_false, reduceIte, put_app, AV.cells, and_true, true_and, and_self, decide_true, decide_false, ↓yielded_eq, yv_some, boolOf_bool, List.getElem?_toArray, List.getElem?_cons_zero, List.getElem?_cons_succ, Nat.reduceLT, Nat.reduceEqDiff, beq_self_eq_true, Option.some_beq_some, wr_app, wr_app0, rd_app, rd_app0, rdL_here, rdL_next, wrL_here, wrL_next, spl, List.all_cons, List.all_nil, AV.one, Bool.and_self, Bool.true_and, List.drop_zero, List.take_succ_cons, List.take_zero, List.drop_succ_cons, List.head?_cons, Nat.reduceAdd, Nat.reduceLeDiff, List.length_cons, List.length_nil, List.nil_append, List.cons_append, List.set_cons_zero, List.set_cons_succ, Int.toNat_natCast, Nat.add_zero, b_ft, b_tf, Bool.false_eq_true, ↓rp_done, ↓rp_take, ↓rp_all, ↓ra_nil, ↓ra_first, ↓ra_next, ↓quietO_none, ↓quietO_guard, ↓q_move, ↓q_assign, ↓q_pick, ↓q_binOp, ↓q_field, ↓q_fieldAddr, ↓q_indexAddr, ↓q_nilCheck, set_order, keepV_eq, stBeq_self, ↓rp_graft, put_slot, put_slot_app, List.length_append, List.append_assoc, Nat.add_assoc, ↓aop_build, evP, Bool.true_and, Bool.and_true, Bool.false_and, Bool.and_false, Bool.true_or, Bool.or_true, Bool.false_or, Bool.or_false, Bool.not_true, Bool.not_false]
    exact ⟨_, rfl, by simp only [List.length_set, hlen], by simp only [hlen, h0, gs_self, gs_ne, List.length_set, ne_eq, Nat.reduceEqDiff, Nat.reduceLT, not_false_eq_true], by simp only [hlen, h3, gs_self, gs_ne, List.length_set, ne_eq, Nat.reduceEqDiff, Nat.reduceLT, not_false_eq_true], by simp only [hlen, h7, gs_self, gs_ne, List.length_set, ne_eq, Nat.reduceEqDiff, Nat.reduceLT, not_false_eq_true], by simp only [hlen, gs_self, gs_ne, List.length_set, ne_eq, Nat.reduceEqDiff, Nat.reduceLT, not_false_eq_true]⟩
  · have hb' : evEqB x.sp x.bl x.ce x.th x.ki x.ph y.sp y.bl y.ce y.th y.ki y.ph = true := hb
    refine .inl ⟨rfl, ?_⟩
    simp -implicitDefEqProofs only [b63_0, atPath, Try.f63, Option.getD_some, hlen, h0, h3, h7, h8, hlt, hw, hi, hr0, hx0, hb', ↓d4, eqa36, ↓ld36, boolOf_undef, nb, ↓EvC_seq, ↓EvC_skip, ↓EvC_exit, ↓EvC_ret, ↓EvC_block, ↓EvC_cond, ↓ev_region, ↓runL_cons, ↓runL_nil, ↓stepO_none, ↓stepO_guard, ↓aop_move, ↓aop_assign, ↓aop_load, ↓aop_store, ↓aop_alloc, ↓aop_box, ↓aop_nilCheck, ↓aop_fieldAddr, ↓aop_field, ↓aop_indexAddr, ↓aop_binOp, ↓aop_pick, ↓aop_extract, ↓aop_buildSlice, ↓aop_slice, ↓aop_not, ↓aop_call, ↓callA_len, ↓callA_append, ev_tmp, ev_const, ofV_int, ofV_bool, ofV_str, ofV_nilSlice, ofV_nilPtr, putA_some, putA_none, gs_self, gs_ne, List.length_set, Option.bind_some, Option.map_some, intBinA, evL, evO, evP, ne_eq, not_false_eq_true, if_true, if_false, reduceCtorEq, ite_true, ite_false, reduceIte, put_app, AV.cells, and_true, true_and, and_self, decide_true, decide_false, ↓yielded_eq, yv_some, boolOf_bool, List.getElem?_toArray, List.getElem?_cons_zero, List.getElem?_cons_succ, Nat.reduceLT, Nat.reduceEqDiff, beq_self_eq_true, Option.some_beq_some, wr_app, wr_app0, rd_app, rd_app0, rdL_here, rdL_next, wrL_here, wrL_next, spl, List.all_cons, List.all_nil, AV.one, Bool.and_self, Bool.true_and, List.drop_zero, List.take_succ_cons, List.take_zero, List.drop_succ_cons, List.head?_cons, Nat.reduceAdd, Nat.reduceLeDiff, List.length_cons, List.length_nil, List.nil_append, List.cons_append, List.set_cons_zero, List.set_cons_succ, Int.toNat_natCast, Nat.add_zero, b_ft, b_tf, Bool.false_eq_true, ↓rp_done, ↓rp_take, ↓rp_all, ↓ra_nil, ↓ra_first, ↓ra_next, ↓quietO_none, ↓quietO_guard, ↓q_move, ↓q_assign, ↓q_pick, ↓q_binOp, ↓q_field, ↓q_fieldAddr, ↓q_indexAddr, ↓q_nilCheck, set_order, keepV_eq, stBeq_self, ↓rp_graft, put_slot, put_slot_app, List.length_append, List.append_assoc, Nat.add_assoc, ↓aop_build, evP, Bool.true_and, Bool.and_true, Bool.false_and, Bool.and_false, Bool.true_or, Bool.or_true, Bool.false_or, Bool.or_false, Bool.not_true, Bool.not_false]
    exact ⟨_, rfl, by simp only [List.length_set, hlen], by simp only [hlen, gs_self, gs_ne, List.length_set, ne_eq, Nat.reduceEqDiff, Nat.reduceLT, not_false_eq_true]⟩

theorem has_loop {v : AV} {l : List E6} {x : E6} {ix : Nat} {H : AH} (hl : l.length < 2 ^ 62) (hv : Evs H v l) (hx : rdCells H ix 0 6 = some x.cells) : ∀ (d j : Nat) (tm : List AV), l.length - j = d → j ≤ l.length →
    tm.length = 19 → tm.getD 0 undefA = v → tm.getD 3 undefA = .ptr ix 0 → tm.getD 7 undefA = I l.length → tm.getD 8 undefA = I j →
    ∃ e tm', EvC Try.prog C3 l63_0 (tm, H) = some (e, (tm', H)) ∧ tm'.length = 19 ∧ (((l.drop j).any x.eqv = true ∧ e = .ret ∧ ∃ n : Nat, tm'.getD 4 undefA = I n) ∨ ((l.drop j).any x.eqv = false ∧ e = .exit 0)) := by
  intro d
  induction d with
  | zero =>
    intro j tm hd hj hlen h0 h3 h7 h8
    obtain rfl : j = l.length := by omega
    obtain ⟨tm', he, hl'⟩ := has_end (H := H) hlen h7 h8
    exact ⟨_, tm', he, hl', .inr ⟨by simp, rfl⟩⟩
  | succ d ih =>
    intro j tm hd hj hlen h0 h3 h7 h8
    obtain ⟨y, hy⟩ : ∃ y, l[j]? = some y := ⟨_, List.getElem?_eq_getElem (by omega)⟩
    obtain ⟨i, k, hi, hr⟩ := hv.ix j y hy
    have hdl : l.drop j = y :: l.drop (j + 1) := by rw [List.drop_eq_getElem_cons (by omega)]; congr 1; rw [List.getElem?_eq_getElem (by omega)] at hy; exact Option.some.inj hy
    rw [hdl, List.any_cons]
    rcases has_round hi hr hx (by omega : j < l.length) hl hlen h0 h3 h7 h8 with ⟨hb, tm', hev, hl', g4⟩ | ⟨hb, tm', hev, hl', g0, g3, g7, g8⟩
    · rw [hb]
      exact ⟨_, tm', hev, hl', .inl ⟨rfl, rfl, j, g4⟩⟩
    · rw [hb, Bool.false_or]
      obtain ⟨e', tm2, hev2, hl2, hc⟩ := ih (j + 1) tm' (by omega) (by omega) hl' g0 g3 g7 g8
      exact ⟨e', tm2, by rw [hev, hev2], hl2, hc⟩

theorem has_loop' {v : AV} {l : List E6} {x : E6} {ix : Nat} {H : AH} {tm : List AV} {X : Option (AExit × St)} (hX : EvC Try.prog C3 l63_0 (tm, H) = X) (hl : l.length < 2 ^ 62) (hv : Evs H v l) (hx : rdCells H ix 0 6 = some x.cells)
    (hlen : tm.length = 19) (h0 : tm.getD 0 undefA = v) (h3 : tm.getD 3 undefA = .ptr ix 0) (h7 : tm.getD 7 undefA = I l.length) (h8 : tm.getD 8 undefA = I ((0 : Nat) : Int)) :
    ∃ e tm', X = some (e, (tm', H)) ∧ tm'.length = 19 ∧ ((l.any x.eqv = true ∧ e = .ret ∧ ∃ n : Nat, tm'.getD 4 undefA = I n) ∨ (l.any x.eqv = false ∧ e = .exit 0)) := by
  subst hX
  have := has_loop hl hv hx l.length 0 tm (by omega) (by omega) hlen h0 h3 h7 h8
  simpa using this

theorem index63_ev {v : AV} {H : AH} {l : List E6} {x : E6} (hv : Evs H v l) (hl : l.length < 2 ^ 62) : ∃ (n : Int) (L : AH), Ev Try.prog C3 63 [v, .agg x.cells] H = some (I n, H ++ L) ∧ decide (n ≥ 0) = l.any x.eqv := by
  have g0 : ([v, .agg x.cells] ++ List.replicate (19 - [v, .agg x.cells].length) undefA).length = 19 := by simp
  have g1 : ([v, .agg x.cells] ++ List.replicate (19 - [v, .agg x.cells].length) undefA).getD 0 undefA = v := rfl
  have g2 : ([v, .agg x.cells] ++ List.replicate (19 - [v, .agg x.cells].length) undefA).getD 1 undefA = .agg x.cells := rfl
  have hla := hv.len
  have hH : H = H ++ [] := by simp
  rw [fe63]
  generalize [v, .agg x.cells] ++ List.replicate (19 - [v, .agg x.cells].length) undefA = tm at *
  conv => enter [1, n, 1, L, 1]; lhs; rw [hH]
  simp -implicitDefEqProofs only [c63, Try.f63, Option.getD_some, g0, g1, g2, hla, ↓EvC_seq, ↓EvC_skip, ↓EvC_exit, ↓EvC_ret, ↓EvC_block, ↓EvC_cond, ↓ev_region, ↓runL_cons, ↓runL_nil, ↓stepO_none, ↓stepO_guard, ↓aop_move, ↓aop_assign, ↓aop_load, ↓aop_store, ↓aop_alloc, ↓aop_box, ↓aop_nilCheck, ↓aop_fieldAddr, ↓aop_field, ↓aop_indexAddr, ↓aop_binOp, ↓aop_pick, ↓aop_extract, ↓aop_buildSlice, ↓aop_slice, ↓aop_not, ↓aop_call, ↓callA_len, ↓callA_append, ev_tmp, ev_const, ofV_int, ofV_bool, ofV_str, ofV_nilSlice, ofV_nilPtr, putA_some, putA_none, gs_self, gs_ne, List.length_set, Option.bind_some, Option.map_some, intBinA, evL, evO, evP, ne_eq, not_false_eq_true, if_true, if_false, reduceCtorEq, ite_true, ite_false, reduceIte, put_app, AV.cells, and_true, true_and, and_self, decide_true, decide_false, ↓yielded_eq, yv_some, boolOf_bool, List.getElem?_toArray, List.getElem?_cons_zero, List.getElem?_cons_succ, Nat.reduceLT, Nat.reduceEqDiff, beq_self_eq_true, Option.some_beq_some, wr_app, wr_app0, rd_app, rd_app0, rdL_here, rdL_next, wrL_here, wrL_next, spl, List.all_cons, List.all_nil, AV.one, Bool.and_self, Bool.true_and, List.drop_zero, List.take_succ_cons, List.take_zero, List.drop_succ_cons, List.head?_cons, Nat.reduceAdd, Nat.reduceLeDiff, List.length_cons, List.length_nil, List.nil_append, List.cons_append, List.set_cons_zero, List.set_cons_succ, Int.toNat_natCast, Nat.add_zero, b_ft, b_tf, Bool.false_eq_true]
  generalize hX : EvC Try.prog C3 (Code.loop _) _ = X
  have hx : rdCells (H ++ [.cells x.cells 36]) H.length 0 6 = some x.cells := by rw [rd_app0]; rfl
  obtain ⟨e, tm', he, hl', hc⟩ := has_loop' hX hl (hv.more _) hx (by simp only [List.length_set, g0]) (by simp only [g0, g1, gs_self, gs_ne, List.length_set, ne_eq, Nat.reduceEqDiff, Nat.reduceLT, not_false_eq_true]) (by simp only [g0, gs_self, gs_ne, List.length_set, ne_eq, Nat.reduceEqDiff, Nat.reduceLT, not_false_eq_true]) (by simp only [g0, gs_self, gs_ne, List.length_set, ne_eq, Nat.reduceEqDiff, Nat.reduceLT, not_false_eq_true]) (by simp only [g0, gs_self, gs_ne, List.length_set, ne_eq, Nat.reduceEqDiff, Nat.reduceLT, not_false_eq_true] <;> rfl)
  subst he
  rcases hc with ⟨h, rfl, n, h4⟩ | ⟨h, rfl⟩
  · refine ⟨n, [.cells x.cells 36], ?_, by rw [h]; simp⟩
    simp -implicitDefEqProofs only [hl', h4, ↓EvC_seq, ↓EvC_skip, ↓EvC_exit, ↓EvC_ret, ↓EvC_block, ↓EvC_cond, ↓ev_region, ↓runL_cons, ↓runL_nil, ↓stepO_none, ↓stepO_guard, ↓aop_move, ↓aop_assign, ↓aop_load, ↓aop_store, ↓aop_alloc, ↓aop_box, ↓aop_nilCheck, ↓aop_fieldAddr, ↓aop_field, ↓aop_indexAddr, ↓aop_binOp, ↓aop_pick, ↓aop_extract, ↓aop_buildSlice, ↓aop_slice, ↓aop_not, ↓aop_call, ↓callA_len, ↓callA_append, ev_tmp, ev_const, ofV_int, ofV_bool, ofV_str, ofV_nilSlice, ofV_nilPtr, putA_some, putA_none, gs_self, gs_ne, List.length_set, Option.bind_some, Option.map_some, intBinA, evL, evO, evP, ne_eq, not_false_eq_true, if_true, if_false, reduceCtorEq, ite_true, ite_false, reduceIte, put_app, AV.cells, and_true, true_and, and_self, decide_true, decide_false, ↓yielded_eq, yv_some, boolOf_bool, List.getElem?_toArray, List.getElem?_cons_zero, List.getElem?_cons_succ, Nat.reduceLT, Nat.reduceEqDiff, beq_self_eq_true, Option.some_beq_some, wr_app, wr_app0, rd_app, rd_app0, rdL_here, rdL_next, wrL_here, wrL_next, spl, List.all_cons, List.all_nil, AV.one, Bool.and_self, Bool.true_and, List.drop_zero, List.take_succ_cons, List.take_zero, List.drop_succ_cons, List.head?_cons, Nat.reduceAdd, Nat.reduceLeDiff, List.length_cons, List.length_nil, List.nil_append, List.cons_append, List.set_cons_zero, List.set_cons_succ, Int.toNat_natCast, Nat.add_zero, b_ft, b_tf, Bool.false_eq_true]
  · refine ⟨-1, [.cells x.cells 36], ?_, by rw [h]; decide⟩
    simp -implicitDefEqProofs only [hl', ↓EvC_seq, ↓EvC_skip, ↓EvC_exit, ↓EvC_ret, ↓EvC_block, ↓EvC_cond, ↓ev_region, ↓runL_cons, ↓runL_nil, ↓stepO_none, ↓stepO_guard, ↓aop_move, ↓aop_assign, ↓aop_load, ↓aop_store, ↓aop_alloc, ↓aop_box, ↓aop_nilCheck, ↓aop_fieldAddr, ↓aop_field, ↓aop_indexAddr, ↓aop_binOp, ↓aop_pick, ↓aop_extract, ↓aop_buildSlice, ↓aop_slice, ↓aop_not, ↓aop_call, ↓callA_len, ↓callA_append, ev_tmp, ev_const, ofV_int, ofV_bool, ofV_str, ofV_nilSlice, ofV_nilPtr, putA_some, putA_none, gs_self, gs_ne, List.length_set, Option.bind_some, Option.map_some, intBinA, evL, evO, evP, ne_eq, not_false_eq_true, if_true, if_false, reduceCtorEq, ite_true, ite_false, reduceIte, put_app, AV.cells, and_true, true_and, and_self, decide_true, decide_false, ↓yielded_eq, yv_some, boolOf_bool, List.getElem?_toArray, List.getElem?_cons_zero, List.getElem?_cons_succ, Nat.reduceLT, Nat.reduceEqDiff, beq_self_eq_true, Option.some_beq_some, wr_app, wr_app0, rd_app, rd_app0, rdL_here, rdL_next, wrL_here, wrL_next, spl, List.all_cons, List.all_nil, AV.one, Bool.and_self, Bool.true_and, List.drop_zero, List.take_succ_cons, List.take_zero, List.drop_succ_cons, List.head?_cons, Nat.reduceAdd, Nat.reduceLeDiff, List.length_cons, List.length_nil, List.nil_append, List.cons_append, List.set_cons_zero, List.set_cons_succ, Int.toNat_natCast, Nat.add_zero, b_ft, b_tf, Bool.false_eq_true]

theorem has_ev {v : AV} {H : AH} {l : List E6} {x : E6} (hv : Evs H v l) (hl : l.length < 2 ^ 62) : ∃ L, Ev Try.prog C3 48 [v, .agg x.cells] H = some (.bool (l.any x.eqv), H ++ L) := by
  obtain ⟨n, L, e1, hn⟩ := index63_ev (x := x) (hv.more [.cells x.cells 36]) hl
  rw [List.append_assoc] at e1
  have g0 : ([v, .agg x.cells] ++ List.replicate (9 - [v, .agg x.cells].length) undefA).length = 9 := by simp
  have g1 : ([v, .agg x.cells] ++ List.replicate (9 - [v, .agg x.cells].length) undefA).getD 0 undefA = v := rfl
  have g2 : ([v, .agg x.cells] ++ List.replicate (9 - [v, .agg x.cells].length) undefA).getD 1 undefA = .agg x.cells := rfl
  have hH : H = H ++ [] := by simp
  have hx : ∀ L, ldA Try.prog 36 (H ++ (.cells x.cells 36 :: L)) H.length 0 = some (.agg x.cells) := fun L => by rw [ld36, rd_app0]; rfl
  rw [fe48]
  generalize [v, .agg x.cells] ++ List.replicate (9 - [v, .agg x.cells].length) undefA = tm at *
  refine ⟨[.cells x.cells 36] ++ L, ?_⟩
  conv => lhs; rw [hH]
  simp -implicitDefEqProofs only [c48, Try.f48, Option.getD_some, g0, g1, g2, ↓hx, e1, hn, ↓fc63, ↓EvC_seq, ↓EvC_skip, ↓EvC_exit, ↓EvC_ret, ↓EvC_block, ↓EvC_cond, ↓ev_region, ↓runL_cons, ↓runL_nil, ↓stepO_none, ↓stepO_guard, ↓aop_move, ↓aop_assign, ↓aop_load, ↓aop_store, ↓aop_alloc, ↓aop_box, ↓aop_nilCheck, ↓aop_fieldAddr, ↓aop_field, ↓aop_indexAddr, ↓aop_binOp, ↓aop_pick, ↓aop_extract, ↓aop_buildSlice, ↓aop_slice, ↓aop_not, ↓aop_call, ↓callA_len, ↓callA_append, ev_tmp, ev_const, ofV_int, ofV_bool, ofV_str, ofV_nilSlice, ofV_nilPtr, putA_some, putA_none, gs_self, gs_ne, List.length_set, Option.bind_some, Option.map_some, intBinA, evL, evO, evP, ne_eq, not_false_eq_true, if_true, if_false, reduceCtorEq, ite_true, ite_false, reduceIte, put_app, AV.cells, and_true, true_and, and_self, decide_true, decide_false, ↓yielded_eq, yv_some, boolOf_bool, List.getElem?_toArray, List.getElem?_cons_zero, List.getElem?_cons_succ, Nat.reduceLT, Nat.reduceEqDiff, beq_self_eq_true, Option.some_beq_some, wr_app, wr_app0, rd_app, rd_app0, rdL_here, rdL_next, wrL_here, wrL_next, spl, List.all_cons, List.all_nil, AV.one, Bool.and_self, Bool.true_and, List.drop_zero, List.take_succ_cons, List.take_zero, List.drop_succ_cons, List.head?_cons, Nat.reduceAdd, Nat.reduceLeDiff, List.length_cons, List.length_nil, List.nil_append, List.cons_append, List.set_cons_zero, List.set_cons_succ, Int.toNat_natCast, Nat.add_zero, b_ft, b_tf, Bool.false_eq_true]

/-! the fourth layer of known calls -/
noncomputable def C4 : Cfg Try.prog := known (orElse C3.orc (readOrc Try.prog C3 [45, 48, 18, 17])) (fun w0 Pr => orElse_ok (C3.orcOk w0 Pr) (readOrc_ok _ w0 Pr))
theorem orc4 {f : FuncId} (h : f ∉ [15, 44, 47, 25, 64, 65, 24, 49, 52, 51, 45, 48, 18, 17]) (args : List AV) (H : AH) : C4.orc f args H = none := by
  show orElse _ _ f args H = none
  simp only [orElse]
  rw [orc3 (fun hm => h (by simp only [List.mem_cons, List.not_mem_nil, or_false] at hm ⊢; rcases hm with h | h | h | h | h | h | h | h | h | h <;> simp [h])) args H, readOrc_none (fun hm => h (by simp only [List.mem_cons, List.not_mem_nil, or_false] at hm ⊢; rcases hm with h | h | h | h <;> simp [h]))]
  rfl
theorem k4_read {f : FuncId} {args : List AV} {H H' : AH} {v : AV} (hf : f ∈ [45, 48, 18, 17]) (h : Ev Try.prog C3 f args (ro H) = some (v, H')) (hv : (toV v).isSome = true) : Ev Try.prog C4 f args H = some (v, H) := Ev_orc (by
  show orElse _ _ f args H = _
  simp only [orElse]
  rw [orc3 (by simp only [List.mem_cons, List.not_mem_nil, or_false] at hf ⊢; rcases hf with h | h | h | h <;> simp [h]) args H, readOrc_eq hf h hv]
  rfl)
theorem Evs.ro {H : AH} {v : AV} {l : List E6} (h : Evs H v l) : Evs (ro H) v l := ⟨h.len, fun j e he => by
  obtain ⟨i, k, hi, hr⟩ := h.ix j e he
  exact ⟨i, k, hi, ro_rd hr⟩⟩
theorem k4_idx {v : AV} {H : AH} {l : List E6} {x : E6} {ix : Nat} (hv : Evs H v l) (hx : rdCells H ix 0 6 = some x.cells) (hl : l.length < 2 ^ 62) : Ev Try.prog C4 45 [v, fn46 ix] H = some (I (idxOf (firstAt (fun y => y.clash x) l 0)), H) := by
  obtain ⟨L, h⟩ := idx_ev hv.ro (ro_rd hx) hl
  exact k4_read (by simp) h rfl
theorem k4_has {v : AV} {H : AH} {l : List E6} {x : E6} (hv : Evs H v l) (hl : l.length < 2 ^ 62) : Ev Try.prog C4 48 [v, .agg x.cells] H = some (.bool (l.any x.eqv), H) := by
  obtain ⟨L, h⟩ := has_ev (x := x) hv.ro hl
  exact k4_read (by simp) h rfl
theorem k4_valid {v : AV} {H : AH} {l : List E6} (hv : Evs H v l) (hl : l.length < 2 ^ 62) : Ev Try.prog C4 18 [v] H = some (.bool (!(decide ((l.length : Int) > 4000)) && !(l.any E6.bad)), H) := k4_read (by simp) (valid_ev hv.ro hl) rfl
theorem k4_ref_valid {v : AV} {H : AH} {l : List E6} (hv : Evs H v l) (hl : l.length < 2 ^ 62) : Ev Try.prog C4 17 [v] H = some (.bool (decide ((l.length : Int) ≤ 4000) && !(l.any E6.bad)), H) := by
  obtain ⟨L, h⟩ := ref_valid_ev hv.ro hl
  exact k4_read (by simp) h rfl
theorem k4_cell (H : AH) (sp bl ce th ki : Int) : Ev Try.prog C4 44 [acc sp bl ce th ki] H = some (.agg [I sp, I (bif decide (sp < 0) then bl else 0), I ce], H) := Ev_orc rfl
theorem k4_same (H : AH) (sp bl ce th ki sp' bl' ce' th' ki' : Int) : Ev Try.prog C4 25 [acc sp bl ce th ki, acc sp' bl' ce' th' ki'] H = some (.bool (sameB sp bl ce sp' bl' ce'), H) := Ev_orc rfl
theorem k4_race (H : AH) (sp bl ce th ki ph sp' bl' ce' th' ki' ph' : Int) : Ev Try.prog C4 24 [evt sp bl ce th ki ph, evt sp' bl' ce' th' ki' ph'] H = some (.bool (raceB sp bl ce th ki ph sp' bl' ce' th' ki' ph'), H) := Ev_orc rfl
theorem k4_awake (H : AH) : Ev Try.prog C4 15 [] H = some (.bool true, H) := Ev_orc rfl

end Go.Dv

/- race.Find's maps on abstract heaps (own work). -/
namespace Go.Dv
open Go.Proofs
set_option maxRecDepth 100000
set_option linter.unusedSimpArgs false
set_option linter.unusedVariables false

structure S3 where
  (sp bl ce : Int)
deriving DecidableEq
def S3.av (s : S3) : AV := .agg [I s.sp, I s.bl, I s.ce]
def S3.va (s : S3) : Value := .agg #[.int .i64 s.sp, .int .i64 s.bl, .int .i64 s.ce]
def E6.spot (x : E6) : S3 := ⟨x.sp, bif decide (x.sp < 0) then x.bl else 0, x.ce⟩

noncomputable def d89 : TypeDesc := (Try.prog.underlying 89).getD default
theorem mt86 : mapTypes Try.prog 86 = some (89, 22) := by kernel_rfl
theorem mt87 : mapTypes Try.prog 87 = some (89, 4) := by kernel_rfl
theorem ask89 (e : Bool) (s : S3) : askA Try.prog 89 e s.av = some (s.va, d89) := by
  obtain ⟨a, b, c⟩ := s
  cases e <;> kernel_rfl
theorem same89' (a b c a' b' c' : Int) : sameK Try.prog 89 d89 (.agg #[.int .i64 a, .int .i64 b, .int .i64 c]) (.agg #[.int .i64 a', .int .i64 b', .int .i64 c']) = some (a == a' && (b == b' && (c == c' && true))) := by kernel_rfl
theorem same89 (s s' : S3) : sameK Try.prog 89 d89 s.va s'.va = some (decide (s = s')) := by
  obtain ⟨a, b, c⟩ := s
  obtain ⟨a', b', c'⟩ := s'
  refine (same89' a b c a' b' c').trans ?_
  congr 1
  rw [Bool.eq_iff_iff]
  simp
theorem toV89 (s : S3) : toV s.av = some s.va := rfl
theorem zero22 : zeroA Try.prog 22 = some .nilSlice := by kernel_rfl
theorem zero4 : zeroA Try.prog 4 = some (.bool false) := by kernel_rfl
theorem bits89 (s : S3) : Instr.sameBits 10000 s.va s.va = true := by
  obtain ⟨a, b, c⟩ := s
  simp [S3.va, Instr.sameBits]

/-! the map of what is found -/
def foundE (F : List (S3 × Nat)) : List (AV × AV × Nat) := F.map fun p => (p.1.av, .bool true, p.2)

theorem find_found (s : S3) : ∀ (F : List (S3 × Nat)) (n : Nat), findA Try.prog 89 d89 s.va (foundE F) n = some (if s ∈ F.map (·.1) then some (n + (F.map (·.1)).idxOf s, .bool true) else none)
  | [], n => by simp [foundE, findA]
  | p :: F, n => by
    have ih := find_found s F (n + 1)
    simp only [foundE, List.map_cons, findA, toV89, Option.bind_some, same89]
    by_cases h : s = p.1
    · subst h
      simp [List.idxOf_cons]
    · have h' : ¬ p.1 = s := fun e => h e.symm
      simp only [h, decide_false]
      rw [show findA Try.prog 89 d89 s.va (F.map fun p => (p.1.av, AV.bool true, p.2)) (n + 1) = _ from ih]
      simp only [List.mem_cons, h, false_or, List.idxOf_cons]
      have hb : (p.1 == s) = false := by simpa using h'
      by_cases hm : s ∈ F.map (·.1)
      · simp only [if_pos hm, hb, cond_false]
        congr 3
        omega
      · simp only [if_neg hm]

theorem look_found {H : AH} {i6 c6 : Nat} {F : List (S3 × Nat)} (h : H[i6]? = some (.map (foundE F) c6)) (s : S3) (L : AH) :
    lookupA Try.prog 87 (.map i6) s.av false (H ++ L) = some (.bool (decide (s ∈ F.map (·.1)))) := by
  have hi : (H ++ L)[i6]? = some (.map (foundE F) c6) := by rw [List.getElem?_append_left (List.getElem?_eq_some_iff.1 h).1]; exact h
  simp only [lookupA, mt87, Option.bind_some, entriesA, hi, ask89, find_found]
  by_cases hm : s ∈ F.map (·.1)
  · rw [decide_eq_true hm]; simp only [if_pos hm]; rfl
  · rw [decide_eq_false hm]; simp only [if_neg hm, zero4, Option.map_some]; rfl

theorem put_found {H : AH} {i6 c6 : Nat} {F : List (S3 × Nat)} (h : H[i6]? = some (.map (foundE F) c6)) {s : S3} (hs : s ∉ F.map (·.1)) (L : AH) :
    mapPutA Try.prog 87 (.map i6) s.av (.bool true) (H ++ L) = some (H.set i6 (.map (foundE (F ++ [(s, c6)])) (c6 + 1)) ++ L) := by
  have hl := (List.getElem?_eq_some_iff.1 h).1
  have hi : (H ++ L)[i6]? = some (.map (foundE F) c6) := by rw [List.getElem?_append_left hl]; exact h
  simp only [mapPutA, mt87, Option.bind_some, hi, ask89, find_found, if_neg hs]
  rw [List.set_append_left _ _ hl]
  simp [foundE]

/-! the map of what is kept -/
structure K4 where
  (s : S3) (evs : List E6) (blk born : Nat)
def K4.sl (k : K4) : AV := .slice k.blk 0 6 k.evs.length k.evs.length false
def K4.ent (k : K4) : AV × AV × Nat := (k.s.av, k.sl, k.born)
def flat6 (l : List E6) : List AV := l.flatMap E6.cells
def at? (K : List K4) (s : S3) : Option K4 := K.find? fun k => decide (s = k.s)

theorem find_kept (s : S3) : ∀ (K : List K4) (n : Nat), findA Try.prog 89 d89 s.va (K.map K4.ent) n = some (match K.findIdx? (fun k => decide (s = k.s)) with
    | some j => (K[j]?).map fun k => (n + j, k.sl)
    | none => none)
  | [], n => by simp [findA]
  | k :: K, n => by
    have ih := find_kept s K (n + 1)
    simp only [List.map_cons, K4.ent, findA, toV89, Option.bind_some, same89, List.findIdx?_cons]
    by_cases h : s = k.s
    · simp [h]
    · simp only [h, decide_false, Bool.false_eq_true, if_false]
      rw [ih]
      cases K.findIdx? (fun k => decide (s = k.s)) with
      | none => rfl
      | some j =>
        simp only [Option.map_some, List.getElem?_cons_succ]
        congr 1
        cases K[j]? with
        | none => rfl
        | some k => simp only [Option.map_some]; congr 2; omega

theorem at_none {K : List K4} {s : S3} (h : at? K s = none) : K.findIdx? (fun k => decide (s = k.s)) = none := by
  rw [List.findIdx?_eq_none_iff]
  simpa [at?] using h
theorem at_some {K : List K4} {s : S3} {k : K4} (h : at? K s = some k) : ∃ j, K.findIdx? (fun k => decide (s = k.s)) = some j ∧ K[j]? = some k ∧ k.s = s := by
  have hk : decide (s = k.s) = true := List.find?_some (p := fun k : K4 => decide (s = k.s)) (l := K) h
  have hm := List.mem_of_find?_eq_some h
  have : (K.findIdx? (fun k => decide (s = k.s))).isSome = true := by
    rw [List.findIdx?_isSome, List.any_eq_true]
    exact ⟨k, hm, hk⟩
  obtain ⟨j, hj⟩ := Option.isSome_iff_exists.1 this
  refine ⟨j, hj, ?_, (by simpa using hk : s = k.s).symm⟩
  have := List.find?_eq_bind_findIdx?_getElem? (xs := K) (p := fun k => decide (s = k.s))
  rw [hj] at this
  simp only [at?] at h
  rw [this] at h
  simpa using h

/-- what a lookup of what is kept yields -/
def keptV (K : List K4) (s : S3) : AV := match at? K s with | some k => k.sl | none => .nilSlice
def keptL (K : List K4) (s : S3) : List E6 := match at? K s with | some k => k.evs | none => []

theorem look_kept {H : AH} {i5 c5 : Nat} {K : List K4} (h : H[i5]? = some (.map (K.map K4.ent) c5)) (s : S3) (L : AH) : lookupA Try.prog 86 (.map i5) s.av false (H ++ L) = some (keptV K s) := by
  have hi : (H ++ L)[i5]? = some (.map (K.map K4.ent) c5) := by rw [List.getElem?_append_left (List.getElem?_eq_some_iff.1 h).1]; exact h
  simp only [lookupA, mt86, Option.bind_some, entriesA, hi, ask89, find_kept, keptV]
  cases ha : at? K s with
  | none => simp only [at_none ha, zero22, Option.map_some]; rfl
  | some k =>
    obtain ⟨j, hj, hk, _⟩ := at_some ha
    simp only [hj, hk, Option.map_some]; rfl

/-- The blocks of what is kept. -/
structure KOk (b : Nat) (H : AH) (K : List K4) (c : Nat) : Prop where
  cells : ∀ k ∈ K, b ≤ k.blk ∧ k.evs ≠ [] ∧ H[k.blk]? = some (.cells (flat6 k.evs) 36)
  blks : (K.map K4.blk).Nodup
  borns : (K.map K4.born).Nodup
  lt : ∀ k ∈ K, k.born < c
  spots : (K.map K4.s).Nodup
  spot : ∀ k ∈ K, ∀ e ∈ k.evs, e.spot = k.s

theorem flat6_length (l : List E6) : (flat6 l).length = l.length * 6 := by
  induction l with
  | nil => rfl
  | cons e l ih =>
    have : flat6 (e :: l) = e.cells ++ flat6 l := rfl
    rw [this, List.length_append, ih]; simp [E6.cells]; omega
theorem flat6_drop : ∀ (l : List E6) (j : Nat), (flat6 l).drop (j * 6) = flat6 (l.drop j)
  | l, 0 => by simp
  | [], j + 1 => by simp [flat6]
  | e :: l, j + 1 => by
    have : flat6 (e :: l) = e.cells ++ flat6 l := rfl
    rw [this, show (j + 1) * 6 = e.cells.length + j * 6 by simp [E6.cells]; omega, List.drop_append, List.drop_of_length_le (by omega), List.nil_append, Nat.add_sub_cancel_left]
    simpa using flat6_drop l j
theorem flat6_at {l : List E6} {j : Nat} {e : E6} (h : l[j]? = some e) : ((flat6 l).drop (j * 6)).take 6 = e.cells := by
  rw [flat6_drop]
  have hj := lt_of_get h
  rw [List.drop_eq_getElem_cons hj]
  rw [List.getElem?_eq_getElem hj] at h
  rw [Option.some.inj h]
  show (e.cells ++ flat6 (l.drop (j + 1))).take 6 = e.cells
  rw [List.take_append_of_le_length (by simp [E6.cells])]
  exact List.take_of_length_le (by simp [E6.cells])

theorem rd_flat {H : AH} {i : Nat} {l : List E6} (h : H[i]? = some (.cells (flat6 l) 36)) {j : Nat} {e : E6} (he : l[j]? = some e) : rdCells H i (j * 6) 6 = some e.cells := by
  have hj := lt_of_get he
  simp only [rdCells, h]
  rw [if_pos (by rw [flat6_length]; omega), flat6_at he]

theorem KOk.evs {b : Nat} {H : AH} {K : List K4} {c : Nat} (h : KOk b H K c) (s : S3) : Evs H (keptV K s) (keptL K s) := by
  unfold keptV keptL
  cases ha : at? K s with
  | none => exact ⟨fun H => ln22n H, fun j e he => by simp at he⟩
  | some k =>
    obtain ⟨_, _, hc⟩ := h.cells k (List.mem_of_find?_eq_some ha)
    refine ⟨fun H => ln22 H .., fun j e he => ⟨k.blk, j * 6, ?_, rd_flat hc he⟩⟩
    have hj : j < k.evs.length := lt_of_get (l := k.evs) he
    show indexAddrA Try.prog 22 (.slice k.blk 0 6 k.evs.length k.evs.length false) (I j) = _
    rw [ia22, if_pos ⟨by omega, by omega, rfl⟩]
    simp

theorem entry_old {H : AH} {i5 c5 : Nat} {K : List K4} (h : H[i5]? = some (.map (K.map K4.ent) c5)) {s : S3} {k : K4} (ha : at? K s = some k) (L : AH) :
    mapEntryA Try.prog 86 (.map i5) s.av (H ++ L) = some (.tuple [k.sl, .int .i64 k.born], H ++ L) := by
  have hl := (List.getElem?_eq_some_iff.1 h).1
  have hi : (H ++ L)[i5]? = some (.map (K.map K4.ent) c5) := by rw [List.getElem?_append_left hl]; exact h
  obtain ⟨j, hj, hk, hs⟩ := at_some ha
  have hke : (K.map K4.ent)[j]? = some k.ent := by rw [List.getElem?_map, hk]; rfl
  have hjl := lt_of_get hke
  simp only [mapEntryA, mt86, Option.bind_some, hi, ask89, find_kept, hj, hk, Option.map_some, Nat.zero_add, hke, K4.ent, toV89, hs, bits89, if_true]
  congr 2
  rw [List.set_append_left _ _ hl]
  congr 1
  apply List.ext_getElem?
  intro q
  rw [List.getElem?_set]
  split
  · rename_i hq
    subst hq
    rw [h]
    congr 2
    apply List.ext_getElem?
    intro r
    rw [List.getElem?_set]
    split
    · rename_i hr
      subst hr
      rw [hke]
      simp [K4.ent, hs]
    · rfl
  · rfl

theorem entry_new {H : AH} {i5 c5 : Nat} {K : List K4} (h : H[i5]? = some (.map (K.map K4.ent) c5)) {s : S3} (ha : at? K s = none) (L : AH) :
    mapEntryA Try.prog 86 (.map i5) s.av (H ++ L) = some (.tuple [.nilSlice, .int .i64 c5], H.set i5 (.map (K.map K4.ent ++ [(s.av, .nilSlice, c5)]) (c5 + 1)) ++ L) := by
  have hl := (List.getElem?_eq_some_iff.1 h).1
  have hi : (H ++ L)[i5]? = some (.map (K.map K4.ent) c5) := by rw [List.getElem?_append_left hl]; exact h
  simp only [mapEntryA, mt86, Option.bind_some, hi, ask89, find_kept, at_none ha, zero22, Option.map_some]
  rw [List.set_append_left _ _ hl]

theorem store_at {H : AH} {i5 c5 : Nat} {es : List (AV × AV × Nat)} {j : Nat} {e : AV × AV × Nat} (h : H[i5]? = some (.map es c5)) (hj : es[j]? = some e) (hn : (es.map (·.2.2)).Nodup) (v : AV) (L : AH) :
    entryStoreA (.map i5) (.int .i64 e.2.2) v (H ++ L) = some (H.set i5 (.map (es.set j (e.1, v, e.2.2)) c5) ++ L) := by
  have hl := (List.getElem?_eq_some_iff.1 h).1
  have hi : (H ++ L)[i5]? = some (.map es c5) := by rw [List.getElem?_append_left hl]; exact h
  have hjl := lt_of_get hj
  have hf : es.findIdx? (fun e' => ((e'.2.2 : Nat) : Int) == ((e.2.2 : Nat) : Int)) = some j := by
    rw [List.findIdx?_eq_some_iff_getElem]
    refine ⟨hjl, ?_, fun q hq => ?_⟩
    · rw [List.getElem?_eq_getElem hjl] at hj
      rw [Option.some.inj hj]; simp
    · have hq' : q < es.length := by omega
      simp only [beq_iff_eq]
      intro heq
      have hj' := hj
      rw [List.getElem?_eq_getElem hjl] at hj'
      have e1 : es[q].2.2 = es[j].2.2 := by rw [Option.some.inj hj']; omega
      have h1 : (es.map (·.2.2))[q]'(by simpa using hq') = (es.map (·.2.2))[j]'(by simpa using hjl) := by simpa using e1
      have h2 := List.pairwise_iff_getElem.1 hn q j (by simpa using hq') (by simpa using hjl) hq
      exact h2 h1
  simp only [entryStoreA, hi, hf, Option.bind_some, hj, Option.map_some]
  rw [List.set_append_left _ _ hl]

end Go.Dv

/- Appends of one element; the state of race.Find (own work). -/
namespace Go.Dv
open Go.Proofs
set_option maxRecDepth 100000
set_option linter.unusedSimpArgs false
set_option linter.unusedVariables false

section
variable {P : Program}
theorem app_first {sT elem : TypeId} {xT : Option TypeId} {es : Nat} (T : AppT P sT xT elem es) {G G' : AH} {i j : Nat} {ex : Bool} {new : List AV} {slot : Option Nat} (hx : rdCells G j 0 es = some new)
    (hg : growOk (P.bytesOf elem) 1 = true) (hp : put slot G (.cells new elem) = some (i, G')) : appendA P slot sT xT .nilSlice (.slice j 0 es 1 1 ex) G = some (.slice i 0 es 1 1 false, G') := by
  obtain ⟨z, hz, hzl, hzn⟩ := T.z
  unfold appendA
  rw [if_neg (by rw [T.x]; simp), T.el, Option.bind_some, hz, Option.bind_some, T.sz]
  simp only [srcA, if_true, Option.bind_some, Nat.le_refl, Nat.one_mul, hx]
  rw [if_pos ⟨by rw [hzl, T.sz], hzn⟩]
  simp only [Nat.one_ne_zero, if_false, hg, if_true, hp, Option.map_some]

theorem app_more {sT elem : TypeId} {xT : Option TypeId} {es : Nat} (T : AppT P sT xT elem es) {G G' : AH} {i j blk n : Nat} {ex : Bool} {old new : List AV} {slot : Option Nat} (hb : G[blk]? = some (.cells old elem)) (hl : old.length = n * es)
    (hx : rdCells G j 0 es = some new) (hone : new.all AV.one = true) (hg : growOk (P.bytesOf elem) (n + 1) = true) (hp : put slot (G.set blk .dead) (.cells (old ++ new) elem) = some (i, G')) :
    appendA P slot sT xT (.slice blk 0 es n n false) (.slice j 0 es 1 1 ex) G = some (.slice i 0 es (n + 1) (n + 1) false, G') := by
  obtain ⟨z, hz, hzl, hzn⟩ := T.z
  unfold appendA
  rw [if_neg (by rw [T.x]; simp), T.el, Option.bind_some, hz, Option.bind_some, T.sz]
  simp only [srcA, if_true, Option.bind_some, Nat.le_refl, Nat.one_mul, hx]
  rw [if_pos ⟨by rw [hzl, T.sz], hzn⟩]
  have hrd : rdCells G blk 0 (n * es) = some old := by
    simp only [rdCells, hb]
    rw [if_pos (by omega), List.drop_zero, List.take_of_length_le (by omega)]
  simp only [Nat.one_ne_zero, if_false, show ¬ (n + 1 ≤ n) by omega, Bool.false_eq_true, hb, hone, hg, and_self, if_true, hrd, Option.bind_some, hp, Option.map_some]
end

theorem appT22 : AppT Try.prog 22 (some 22) 36 6 := ⟨by kernel_rfl, ⟨.agg [I 0, I 0, I 0, I 0, I 0, I 0], by kernel_rfl, by kernel_rfl, by simp [AV.cells]⟩, by kernel_rfl, by kernel_rfl⟩
theorem appT24 : AppT Try.prog 24 (some 24) 38 10 := ⟨by kernel_rfl, ⟨.agg [I 0, I 0, I 0, I 0, I 0, I 0, I 0, I 0, I 0, I 0], by kernel_rfl, by kernel_rfl, by simp [AV.cells]⟩, by kernel_rfl, by kernel_rfl⟩
theorem by36 : Try.prog.bytesOf 36 = 48 := by kernel_rfl
theorem by38 : Try.prog.bytesOf 38 = 80 := by kernel_rfl

theorem EvS.same {H0 H : AH} {v : AV} {l : List E6} (h : EvS H0 v l) (hk : ∀ j, j < H0.length → H[j]? = H0[j]?) : EvS H v l := by
  rcases h with h | ⟨i, k, cap, ex, hv, hc, hr⟩
  · exact .inl h
  · refine .inr ⟨i, k, cap, ex, hv, hc, fun j e he => ?_⟩
    have := hr j e he
    have hi := rd_lt this
    unfold rdCells at this ⊢
    rw [hk i hi]
    exact this

def flatR (O : List (E6 × E6)) : List AV := O.flatMap fun p => rcells p.1 p.2
theorem flatR_length (O : List (E6 × E6)) : (flatR O).length = O.length * 10 := by
  induction O with
  | nil => rfl
  | cons e l ih =>
    have : flatR (e :: l) = rcells e.1 e.2 ++ flatR l := rfl
    rw [this, List.length_append, ih]; simp [rcells]; omega
theorem flatR_snoc (O : List (E6 × E6)) (p : E6 × E6) : flatR (O ++ [p]) = flatR O ++ rcells p.1 p.2 := by simp [flatR]
theorem flat6_snoc (l : List E6) (x : E6) : flat6 (l ++ [x]) = flat6 l ++ x.cells := by simp [flat6]

/-- The list of races that is being made. -/
def outV (O : List (E6 × E6)) (bo : Nat) : AV := match O with | [] => .nilSlice | _ => .slice bo 0 10 O.length O.length false

structure FS where
  kept : S3 → List E6
  found : S3 → Bool
  out : List (E6 × E6)
def FS.step (st : FS) (x : E6) : FS :=
  if st.found x.spot = true then st else
  match firstAt (fun y => y.clash x) (st.kept x.spot) 0 with
  | some i => { st with found := fun s => decide (s = x.spot) || st.found s, out := st.out ++ ((st.kept x.spot)[i]?.map fun y => (y, x)).toList }
  | none => if (st.kept x.spot).any x.eqv = true then st else { st with kept := fun s => if s = x.spot then st.kept s ++ [x] else st.kept s }

def absF (K : List K4) (F : List (S3 × Nat)) (O : List (E6 × E6)) : FS := ⟨keptL K, fun s => decide (s ∈ F.map (·.1)), O⟩

/-- What holds at the top of race.Find's loop. -/
structure FInv (H0 : AH) (v : AV) (n : Nat) (tm : List AV) (H : AH) (k : Nat) (K : List K4) (F : List (S3 × Nat)) (O : List (E6 × E6)) (i5 i6 bo c5 c6 : Nat) : Prop where
  len : tm.length = 66
  t16 : tm.getD 16 undefA = v
  t17 : tm.getD 17 undefA = I n
  t18 : tm.getD 18 undefA = I k
  t5 : tm.getD 5 undefA = .map i5
  t6 : tm.getD 6 undefA = .map i6
  t4 : tm.getD 4 undefA = outV O bo
  hb : H0.length ≤ H.length
  keep : ∀ j, j < H0.length → H[j]? = H0[j]?
  b5 : H0.length ≤ i5
  b6 : H0.length ≤ i6
  h5 : H[i5]? = some (.map (K.map K4.ent) c5)
  h6 : H[i6]? = some (.map (foundE F) c6)
  ne : i5 ≠ i6
  kok : KOk H0.length H K c5
  out : O ≠ [] → H0.length ≤ bo ∧ H[bo]? = some (.cells (flatR O) 38)
  kn : ∀ kk ∈ K, kk.evs.length ≤ k
  on : O.length ≤ k

end Go.Dv

/- Names for the bodies and loops of functions of the translation, by their place in it (written by gen.py, own work). -/
namespace Go.Dv
open Go.Proofs
set_option maxRecDepth 100000
noncomputable def b16_0 : Code := atPath [true, true, true, true, true, false, true, false, false] (Try.f16.body.getD .skip)
noncomputable def l16_0 : Code := Code.loop b16_0
theorem el16_0 (s : St) : EvC Try.prog C4 l16_0 s = (EvC Try.prog C4 b16_0 s).bind fun r => match r with | (.normal, s') => EvC Try.prog C4 l16_0 s' | r => some r := EvC_loop _ _
noncomputable def c16 : Code := Try.f16.body.getD .skip
noncomputable def d16_14 : Code := atPath [true, true, true, true, true, false, true, false, false, true, true, false, false, true, true, true, true, false, true, false, true, false] (Try.f16.body.getD .skip)
theorem ed16_14 (tm : List AV) (H : AH) : EvC Try.prog C4 d16_14 (tm, H) = (runPlan Try.prog C4 (Ev Try.prog C4) H.length (opsAt d16_14) (.take 0 (.take 1 (.take 4 (.take 8 (graft (.all [(2, (.all [(3, (.take 5 (.take 6 (.all [(7, (.all [(9, .done)])), (9, (.all [(7, .done)]))])))), (9, (.all [(3, (.take 5 (.take 6 (.all [(7, .done)]))))]))])), (9, (.all [(2, (.all [(3, (.take 5 (.take 6 (.all [(7, .done)]))))]))]))]) (.all [(10, (.all [(11, (.all [(12, (.take 13 .done))]))]))])))))) (tm, H ++ [.fresh, .fresh, .fresh, .fresh, .fresh, .fresh, .fresh, .fresh, .fresh, .fresh, .fresh, .fresh, .fresh, .fresh])).bind fun s' => some (.normal, s') := ev_drawA (by kernel_rfl) (by kernel_rfl) tm H
noncomputable def d16_15 : Code := atPath [true, true, true, true, true, false, true, false, false, true, true, false, false, true, true, true, true, true, false] (Try.f16.body.getD .skip)
theorem ed16_15 (tm : List AV) (H : AH) : EvC Try.prog C4 d16_15 (tm, H) = (runPlan Try.prog C4 (Ev Try.prog C4) H.length (opsAt d16_15) (.take 0 (graft (.all [(1, (.all [(2, (.all [(3, .done)])), (3, (.all [(2, .done)]))])), (3, (.all [(1, (.all [(2, .done)]))]))]) (.all [(4, (.take 5 .done))]))) (tm, H)).bind fun s' => some (.normal, s') := ev_draw (by kernel_rfl) (by kernel_rfl) tm H
theorem fe16 (args : List AV) (H : AH) : Ev Try.prog C4 16 args H = (EvC Try.prog C4 c16 (args ++ List.replicate (66 - args.length) undefA, H)).bind fun r => match r with | (.normal, s) => some ((.tuple [s.1.getD 2 undefA, s.1.getD 3 undefA]), s.2) | (.ret, s) => some ((.tuple [s.1.getD 2 undefA, s.1.getD 3 undefA]), s.2) | _ => none := Ev_eq Try.func16 rfl args H (orc4 (by decide) args H)
theorem fc16 (C : Cfg Try.prog) (slot : Option Nat) (tm : List AV) (H : AH) (o : Oper) (xs : Array Operand) (ats : Array TypeId) : callA Try.prog C slot (evalA tm) o ⟨.value (.func 16), xs, ats⟩ H = (evL (evalA tm) xs.toList).map fun vs => (.enter 16 vs, H) := callF (by rw [Try.func16]; rfl) slot _ H o xs ats rfl
noncomputable def b20_0 : Code := atPath [true, true, false, true, false, false, true, false, false, true, false, true, false, false] (Try.f20.body.getD .skip)
noncomputable def l20_0 : Code := Code.loop b20_0
theorem el20_0 (s : St) : EvC Try.prog C4 l20_0 s = (EvC Try.prog C4 b20_0 s).bind fun r => match r with | (.normal, s') => EvC Try.prog C4 l20_0 s' | r => some r := EvC_loop _ _
noncomputable def b20_1 : Code := atPath [true, true, false, true, false, false, true, false, false, true, true, true, false, false] (Try.f20.body.getD .skip)
noncomputable def l20_1 : Code := Code.loop b20_1
theorem el20_1 (s : St) : EvC Try.prog C4 l20_1 s = (EvC Try.prog C4 b20_1 s).bind fun r => match r with | (.normal, s') => EvC Try.prog C4 l20_1 s' | r => some r := EvC_loop _ _
noncomputable def b20_2 : Code := atPath [true, true, false, true, false, false] (Try.f20.body.getD .skip)
noncomputable def l20_2 : Code := Code.loop b20_2
theorem el20_2 (s : St) : EvC Try.prog C4 l20_2 s = (EvC Try.prog C4 b20_2 s).bind fun r => match r with | (.normal, s') => EvC Try.prog C4 l20_2 s' | r => some r := EvC_loop _ _
noncomputable def c20 : Code := Try.f20.body.getD .skip
noncomputable def d20_9 : Code := atPath [true, true, false, true, false, false, true, false, false, true, false, true, false, false, true, false, false] (Try.f20.body.getD .skip)
theorem ed20_9 (tm : List AV) (H : AH) : EvC Try.prog C4 d20_9 (tm, H) = (runPlan Try.prog C4 (Ev Try.prog C4) H.length (opsAt d20_9) (.take 0 (.take 1 (.take 2 (.take 3 (.take 4 (.take 5 (.take 7 (.take 8 (.take 9 (.take 10 (graft (.all [(6, (.all [(11, .done)])), (11, (.all [(6, .done)]))]) (.all [(12, (.take 13 (.take 14 .done)))])))))))))))) (tm, H)).bind fun s' => some (.normal, s') := ev_draw (by kernel_rfl) (by kernel_rfl) tm H
noncomputable def d20_13 : Code := atPath [true, true, false, true, false, false, true, false, false, true, true, true, false, false, true, false, false, false] (Try.f20.body.getD .skip)
theorem ed20_13 (tm : List AV) (H : AH) : EvC Try.prog C4 d20_13 (tm, H) = (runPlan Try.prog C4 (Ev Try.prog C4) H.length (opsAt d20_13) (.take 0 (.take 1 (.take 2 (.take 4 (.take 5 (.take 6 (graft (.all [(3, (.all [(7, .done)])), (7, (.all [(3, .done)]))]) (.all [(8, .done)])))))))) (tm, H)).bind fun s' => some (.normal, s') := ev_draw (by kernel_rfl) (by kernel_rfl) tm H
noncomputable def d20_14 : Code := atPath [true, true, false, true, false, false, true, false, false, true, true, true, false, false, true, false, false, true, false, false] (Try.f20.body.getD .skip)
theorem ed20_14 (tm : List AV) (H : AH) : EvC Try.prog C4 d20_14 (tm, H) = (runPlan Try.prog C4 (Ev Try.prog C4) H.length (opsAt d20_14) (.take 0 (.take 1 (.take 2 (.take 3 (.take 4 (.take 6 (.take 7 (.take 8 (.take 9 (graft (.all [(5, (.all [(10, .done)])), (10, (.all [(5, .done)]))]) (.all [(11, (.all [(12, (.all [(13, (.take 14 .done))]))]))]))))))))))) (tm, H ++ [.fresh, .fresh, .fresh, .fresh, .fresh, .fresh, .fresh, .fresh, .fresh, .fresh, .fresh, .fresh, .fresh, .fresh, .fresh])).bind fun s' => some (.normal, s') := ev_drawA (by kernel_rfl) (by kernel_rfl) tm H
theorem fe20 (args : List AV) (H : AH) : Ev Try.prog C4 20 args H = (EvC Try.prog C4 c20 (args ++ List.replicate (67 - args.length) undefA, H)).bind fun r => match r with | (.normal, s) => some ((s.1.getD 2 undefA), s.2) | (.ret, s) => some ((s.1.getD 2 undefA), s.2) | _ => none := Ev_eq Try.func20 rfl args H (orc4 (by decide) args H)
theorem fc20 (C : Cfg Try.prog) (slot : Option Nat) (tm : List AV) (H : AH) (o : Oper) (xs : Array Operand) (ats : Array TypeId) : callA Try.prog C slot (evalA tm) o ⟨.value (.func 20), xs, ats⟩ H = (evL (evalA tm) xs.toList).map fun vs => (.enter 20 vs, H) := callF (by rw [Try.func20]; rfl) slot _ H o xs ats rfl
noncomputable def b19_0 : Code := atPath [true, true, false, true, false, false] (Try.f19.body.getD .skip)
noncomputable def l19_0 : Code := Code.loop b19_0
theorem el19_0 (s : St) : EvC Try.prog C4 l19_0 s = (EvC Try.prog C4 b19_0 s).bind fun r => match r with | (.normal, s') => EvC Try.prog C4 l19_0 s' | r => some r := EvC_loop _ _
noncomputable def c19 : Code := Try.f19.body.getD .skip
noncomputable def d19_6 : Code := atPath [true, true, false, true, false, false, true, false, false, false] (Try.f19.body.getD .skip)
theorem ed19_6 (tm : List AV) (H : AH) : EvC Try.prog C4 d19_6 (tm, H) = (runPlan Try.prog C4 (Ev Try.prog C4) H.length (opsAt d19_6) (.take 0 (.take 1 (.take 2 (.take 4 (.take 5 (.take 6 (graft (.all [(3, (.all [(7, (.take 8 .done))])), (7, (.all [(3, (.take 8 .done))]))]) .done))))))) (tm, H)).bind fun s' => some (.normal, s') := ev_draw (by kernel_rfl) (by kernel_rfl) tm H
theorem fe19 (args : List AV) (H : AH) : Ev Try.prog C4 19 args H = (EvC Try.prog C4 c19 (args ++ List.replicate (26 - args.length) undefA, H)).bind fun r => match r with | (.normal, s) => some ((s.1.getD 4 undefA), s.2) | (.ret, s) => some ((s.1.getD 4 undefA), s.2) | _ => none := Ev_eq Try.func19 rfl args H (orc4 (by decide) args H)
theorem fc19 (C : Cfg Try.prog) (slot : Option Nat) (tm : List AV) (H : AH) (o : Oper) (xs : Array Operand) (ats : Array TypeId) : callA Try.prog C slot (evalA tm) o ⟨.value (.func 19), xs, ats⟩ H = (evL (evalA tm) xs.toList).map fun vs => (.enter 19 vs, H) := callF (by rw [Try.func19]; rfl) slot _ H o xs ats rfl
noncomputable def c3 : Code := Try.f3.body.getD .skip
theorem fe3 (args : List AV) (H : AH) : Ev Try.prog C4 3 args H = (EvC Try.prog C4 c3 (args ++ List.replicate (52 - args.length) undefA, H)).bind fun r => match r with | (.normal, s) => some ((s.1.getD 2 undefA), s.2) | (.ret, s) => some ((s.1.getD 2 undefA), s.2) | _ => none := Ev_eq Try.func3 rfl args H (orc4 (by decide) args H)
theorem fc3 (C : Cfg Try.prog) (slot : Option Nat) (tm : List AV) (H : AH) (o : Oper) (xs : Array Operand) (ats : Array TypeId) : callA Try.prog C slot (evalA tm) o ⟨.value (.func 3), xs, ats⟩ H = (evL (evalA tm) xs.toList).map fun vs => (.enter 3 vs, H) := callF (by rw [Try.func3]; rfl) slot _ H o xs ats rfl
end Go.Dv

/- Rounds of race.Find's loop that find no race (printed by t43.py, own work). -/
namespace Go.Dv
open Go.Proofs
set_option maxRecDepth 100000
set_option linter.unusedSimpArgs false
set_option linter.unusedVariables false
attribute [local congr] bind_congr_first

theorem aop_mapEntry {P : Program} {C : Cfg P} {slot : Option Nat} {ev : Operand → Option AV} {dst : Option Tmp} {ty : TypeId} {pos : String} {after : Array Edge} {g : Option (Nat × Bool)} {H : AH} (t : TypeId) (m k : Operand) : aop P C slot ev ⟨dst, .mapEntry t m k, ty, pos, after, g⟩ H = (ev m).bind fun mv => (ev k).bind fun kv => (mapEntryA P t mv kv H).map fun (v, H') => (.val v, H') := rfl
theorem aop_entryStore {P : Program} {C : Cfg P} {slot : Option Nat} {ev : Operand → Option AV} {dst : Option Tmp} {ty : TypeId} {pos : String} {after : Array Edge} {g : Option (Nat × Bool)} {H : AH} (t : TypeId) (m s x : Operand) : aop P C slot ev ⟨dst, .entryStore t m s x, ty, pos, after, g⟩ H = (ev m).bind fun mv => (ev s).bind fun sv => (ev x).bind fun xv => (entryStoreA mv sv xv H).map fun H' => (.skip, H') := rfl
theorem q_not {P : Program} {ev : Operand → Option AV} (dst : Option Tmp) (ty : TypeId) (pos : String) (after : Array Edge) (g : Option (Nat × Bool)) (t : TypeId) (x : Operand) :
    quietA P ev ⟨dst, .unOp .not t x, ty, pos, after, g⟩ = (ev x).bind fun xv => match xv with
      | .bool b => some (.bool !b)
      | _ => (pureA P ev ⟨dst, .unOp .not t x, ty, pos, after, g⟩).bind fun n => match n with | .val v => some v | _ => none := by
  show ((pureA P ev ⟨dst, .unOp .not t x, ty, pos, after, g⟩).bind fun n => match n with | .val v => some v | _ => none) = _
  cases hx : ev x with
  | none => rw [pureA_none1 (x := x) (by simp [Op.operands]) hx]; rfl
  | some xv =>
    simp only [Option.bind_some]
    split
    · rw [pureA_not hx]; rfl
    · rfl
theorem ev_fn46 (tm : List AV) (f : Nat) : evalA tm (.func f) = some (.func (.func f) [] []) := rfl
theorem bs22 (slot : Option Nat) (a b c d e f : Int) (H : AH) : buildSliceA Try.prog slot 22 1 [(0, .agg [I a, I b, I c, I d, I e, I f])] H = (put slot H (.cells [I a, I b, I c, I d, I e, I f] 36)).map fun (i, H') => (.slice i 0 6 1 1 true, H') := by kernel_rfl

theorem FInv.evs {H0 : AH} {v : AV} {n : Nat} {tm : List AV} {H : AH} {k : Nat} {K : List K4} {F : List (S3 × Nat)} {O : List (E6 × E6)} {i5 i6 bo c5 c6 : Nat} (h : FInv H0 v n tm H k K F O i5 i6 bo c5 c6) {l : List E6} (hv : EvS H0 v l) : EvS H v l := hv.same h.keep

theorem KOk.grow {b : Nat} {H : AH} {K : List K4} {c : Nat} (h : KOk b H K c) (L : AH) : KOk b (H ++ L) K c where
  cells := fun k hk => by
    obtain ⟨h1, h2, h3⟩ := h.cells k hk
    exact ⟨h1, h2, by rw [List.getElem?_append_left (lt_of_get h3)]; exact h3⟩
  blks := h.blks
  borns := h.borns
  lt := h.lt
  spots := h.spots
  spot := h.spot

/-- A round that leaves what is kept and found as it is. -/
theorem FInv.next {H0 : AH} {v : AV} {n : Nat} {tm : List AV} {H : AH} {k : Nat} {K : List K4} {F : List (S3 × Nat)} {O : List (E6 × E6)} {i5 i6 bo c5 c6 : Nat} (h : FInv H0 v n tm H k K F O i5 i6 bo c5 c6) (L : AH) {tm' : List AV}
    (hl : tm'.length = 66) (hk : ∀ t ∈ [16, 17, 5, 6, 4], tm'.getD t undefA = tm.getD t undefA) (h18 : tm'.getD 18 undefA = I ((k + 1 : Nat) : Int)) : FInv H0 v n tm' (H ++ L) (k + 1) K F O i5 i6 bo c5 c6 where
  len := hl
  t16 := (hk 16 (by simp)).trans h.t16
  t17 := (hk 17 (by simp)).trans h.t17
  t18 := h18
  t5 := (hk 5 (by simp)).trans h.t5
  t6 := (hk 6 (by simp)).trans h.t6
  t4 := (hk 4 (by simp)).trans h.t4
  hb := by have := h.hb; rw [List.length_append]; omega
  keep := fun j hj => by rw [List.getElem?_append_left (by have := h.hb; omega)]; exact h.keep j hj
  b5 := h.b5
  b6 := h.b6
  h5 := by rw [List.getElem?_append_left (lt_of_get h.h5)]; exact h.h5
  h6 := by rw [List.getElem?_append_left (lt_of_get h.h6)]; exact h.h6
  ne := h.ne
  kok := h.kok.grow L
  out := fun ho => by
    obtain ⟨h1, h2⟩ := h.out ho
    exact ⟨h1, by rw [List.getElem?_append_left (lt_of_get h2)]; exact h2⟩
  kn := fun kk hk => Nat.le_succ_of_le (h.kn kk hk)
  on := Nat.le_succ_of_le h.on

/-- What a round reads. -/
structure FRead (H0 : AH) (v : AV) (n : Nat) (tm : List AV) (H : AH) (k : Nat) (K : List K4) (F : List (S3 × Nat)) (O : List (E6 × E6)) (i5 i6 bo c5 c6 : Nat) (x : E6) (ie ke : Nat) : Prop where
  inv : FInv H0 v n tm H k K F O i5 i6 bo c5 c6
  kn : k < n
  nn : n < 2 ^ 30
  hi : indexAddrA Try.prog 22 v (I k) = some (.ptr ie ke)
  hr : rdCells H ie ke 6 = some x.cells

set_option maxHeartbeats 4000000 in
theorem reg15 {G : AH} {tm : List AV} {sl : AV} {i5 g8 g9 : Nat} {x : E6} {cb : Bool} (hlen : tm.length = 66) (h5 : tm.getD 5 undefA = .map i5) (h8 : tm.getD 8 undefA = .ptr g8 0) (h9 : tm.getD 9 undefA = .ptr g9 0)
    (r9 : rdCells G g9 0 3 = some [I x.sp, I (bif decide (x.sp < 0) then x.bl else 0), I x.ce]) (r8 : rdCells G g8 0 6 = some [I x.sp, I x.bl, I x.ce, I x.th, I x.ki, I x.ph])
    (hlk : lookupA Try.prog 86 (.map i5) (.agg [I x.sp, I (bif decide (x.sp < 0) then x.bl else 0), I x.ce]) false G = some sl) (hhas : Ev Try.prog C4 48 [sl, .agg [I x.sp, I x.bl, I x.ce, I x.th, I x.ki, I x.ph]] G = some (.bool cb, G)) :
    ∃ tm', EvC Try.prog C4 d16_15 (tm, G) = some (.normal, (tm', G)) ∧ tm'.length = 66 ∧ tm'.getD 55 undefA = .bool (!cb) ∧ (∀ t ∈ [16, 17, 18, 5, 6, 4, 8, 9], tm'.getD t undefA = tm.getD t undefA) := by
  have d15 := ed16_15
  simp only [d16_15, opsAt, atPath, Try.f16, Option.getD_some] at d15 ⊢
  rw [d15]
  simp -implicitDefEqProofs only [hlen, h5, h8, h9, r9, r8, hlk, hhas, ↓fc48, ↓ld36, ↓ld34, ↓ld89, ↓ld3, ↓st36, ↓st34, ↓st89, ↓st3, z36, z34, z89, fa36_0, fa36_1, boolOf_undef, nb, ↓q_not, ↓aop_lookup, ↓aop_makeFunc, ↓aop_mapUpdate, ↓aop_mapEntry, ↓aop_entryStore, ↓aop_buildSlice, ↓aop_extract, ↓EvC_seq, ↓EvC_skip, ↓EvC_exit, ↓EvC_ret, ↓EvC_block, ↓EvC_cond, ↓ev_region, ↓runL_cons, ↓runL_nil, ↓stepO_none, ↓stepO_guard, ↓aop_move, ↓aop_assign, ↓aop_load, ↓aop_store, ↓aop_alloc, ↓aop_box, ↓aop_nilCheck, ↓aop_fieldAddr, ↓aop_field, ↓aop_indexAddr, ↓aop_binOp, ↓aop_pick, ↓aop_extract, ↓aop_buildSlice, ↓aop_slice, ↓aop_not, ↓aop_call, ↓callA_len, ↓callA_append, ev_tmp, ev_const, ofV_int, ofV_bool, ofV_str, ofV_nilSlice, ofV_nilPtr, putA_some, putA_none, gs_self, gs_ne, List.length_set, Option.bind_some, Option.map_some, intBinA, evL, evO, evP, ne_eq, not_false_eq_true, if_true, if_false, reduceCtorEq, ite_true, ite_false, reduceIte, put_app, AV.cells, and_true, true_and, and_self, decide_true, decide_false, ↓yielded_eq, yv_some, boolOf_bool, List.getElem?_toArray, List.getElem?_cons_zero, List.getElem?_cons_succ, Nat.reduceLT, Nat.reduceEqDiff, beq_self_eq_true, Option.some_beq_some, wr_app, wr_app0, rd_app, rd_app0, rdL_here, rdL_next, wrL_here, wrL_next, spl, List.all_cons, List.all_nil, AV.one, Bool.and_self, Bool.true_and, List.drop_zero, List.take_succ_cons, List.take_zero, List.drop_succ_cons, List.head?_cons, Nat.reduceAdd, Nat.reduceLeDiff, List.length_cons, List.length_nil, List.nil_append, List.cons_append, List.set_cons_zero, List.set_cons_succ, Int.toNat_natCast, Nat.add_zero, b_ft, b_tf, Bool.false_eq_true, ↓rp_done, ↓rp_take, ↓rp_all, ↓ra_nil, ↓ra_first, ↓ra_next, ↓quietO_none, ↓quietO_guard, ↓q_move, ↓q_assign, ↓q_pick, ↓q_binOp, ↓q_field, ↓q_fieldAddr, ↓q_indexAddr, ↓q_nilCheck, set_order, keepV_eq, stBeq_self, ↓rp_graft, put_slot, put_slot_app, List.length_append, List.append_assoc, Nat.add_assoc, ↓aop_build, evP, Bool.true_and, Bool.and_true, Bool.false_and, Bool.and_false, Bool.true_or, Bool.or_true, Bool.false_or, Bool.or_false, Bool.not_true, Bool.not_false]
  refine ⟨_, rfl, by simp only [List.length_set, hlen], by simp only [hlen, gs_self, gs_ne, List.length_set, ne_eq, Nat.reduceEqDiff, Nat.reduceLT, not_false_eq_true], fun t ht => ?_⟩
  simp only [List.mem_cons, List.not_mem_nil, or_false] at ht
  rcases ht with rfl | rfl | rfl | rfl | rfl | rfl | rfl | rfl <;> simp only [hlen, gs_self, gs_ne, List.length_set, ne_eq, Nat.reduceEqDiff, Nat.reduceLT, not_false_eq_true]

theorem reg15' {G : AH} {tm : List AV} {sl : AV} {i5 g8 g9 : Nat} {x : E6} {cb : Bool} {X : Option (AExit × St)} (hX : EvC Try.prog C4 d16_15 (tm, G) = X) (hlen : tm.length = 66) (h5 : tm.getD 5 undefA = .map i5) (h8 : tm.getD 8 undefA = .ptr g8 0) (h9 : tm.getD 9 undefA = .ptr g9 0)
    (r9 : rdCells G g9 0 3 = some [I x.sp, I (bif decide (x.sp < 0) then x.bl else 0), I x.ce]) (r8 : rdCells G g8 0 6 = some [I x.sp, I x.bl, I x.ce, I x.th, I x.ki, I x.ph])
    (hlk : lookupA Try.prog 86 (.map i5) (.agg [I x.sp, I (bif decide (x.sp < 0) then x.bl else 0), I x.ce]) false G = some sl) (hhas : Ev Try.prog C4 48 [sl, .agg [I x.sp, I x.bl, I x.ce, I x.th, I x.ki, I x.ph]] G = some (.bool cb, G)) :
    ∃ tm', X = some (.normal, (tm', G)) ∧ tm'.length = 66 ∧ tm'.getD 55 undefA = .bool (!cb) ∧ (∀ t ∈ [16, 17, 18, 5, 6, 4, 8, 9], tm'.getD t undefA = tm.getD t undefA) := by
  subst hX
  exact reg15 hlen h5 h8 h9 r9 r8 hlk hhas


set_option maxHeartbeats 4000000 in
theorem find_skip {H0 : AH} {v : AV} {n : Nat} {tm : List AV} {H : AH} {k : Nat} {K : List K4} {F : List (S3 × Nat)} {O : List (E6 × E6)} {i5 i6 bo c5 c6 : Nat} {x : E6} {ie ke : Nat} (h : FRead H0 v n tm H k K F O i5 i6 bo c5 c6 x ie ke) (hf : x.spot ∈ F.map (·.1)) :
    ∃ tm' L, EvC Try.prog C4 l16_0 (tm, H) = EvC Try.prog C4 l16_0 (tm', H ++ L) ∧ FInv H0 v n tm' (H ++ L) (k + 1) K F O i5 i6 bo c5 c6 := by
  have hlen := h.inv.len
  have h16 := h.inv.t16
  have h17 := h.inv.t17
  have h18 := h.inv.t18
  have h5 := h.inv.t5
  have h6 := h.inv.t6
  have hi := h.hi
  have hrd : ∀ L, rdCells (H ++ L) ie ke 6 = some [I x.sp, I x.bl, I x.ce, I x.th, I x.ki, I x.ph] := fun L => rd_old h.hr L
  have hkn := h.kn
  have hnn := h.nn
  have hlt : decide ((k : Int) < (n : Int)) = true := by simp; omega
  have hw : IntKind.i64.wrap ((k : Int) + 1) = ((k + 1 : Nat) : Int) := by rw [IntWalk.i64_in _ (by omega)]; omega
  have kc : ∀ H, Ev Try.prog C4 44 [acc x.sp x.bl x.ce x.th x.ki] H = some (.agg [I x.sp, I (bif decide (x.sp < 0) then x.bl else 0), I x.ce], H) := fun H => k4_cell H x.sp x.bl x.ce x.th x.ki
  have hlf : ∀ L, lookupA Try.prog 87 (.map i6) (.agg [I x.sp, I (bif decide (x.sp < 0) then x.bl else 0), I x.ce]) false (H ++ L) = some (.bool (decide (x.spot ∈ F.map (·.1)))) := fun L => look_found h.inv.h6 x.spot L
  have hH : (tm, H) = (tm, H ++ []) := by simp
  simp only [hf, decide_true] at hlf
  rw [el16_0, hH]
  simp -implicitDefEqProofs only [b16_0, atPath, Try.f16, Option.getD_some, hlen, h16, h17, h18, h5, h6, hlt, hw, hi, hrd, kc, hlf, ↓fc44, ↓fc45, ↓fc48, ↓ld36, ↓ld34, ↓ld89, ↓ld3, ↓st36, ↓st34, ↓st89, ↓st3, z36, z34, z89, fa36_0, fa36_1, boolOf_undef, nb, ↓q_not, ↓aop_lookup, ↓aop_makeFunc, ↓aop_mapUpdate, ↓aop_mapEntry, ↓aop_entryStore, ↓aop_buildSlice, ↓aop_extract, ↓EvC_seq, ↓EvC_skip, ↓EvC_exit, ↓EvC_ret, ↓EvC_block, ↓EvC_cond, ↓ev_region, ↓runL_cons, ↓runL_nil, ↓stepO_none, ↓stepO_guard, ↓aop_move, ↓aop_assign, ↓aop_load, ↓aop_store, ↓aop_alloc, ↓aop_box, ↓aop_nilCheck, ↓aop_fieldAddr, ↓aop_field, ↓aop_indexAddr, ↓aop_binOp, ↓aop_pick, ↓aop_extract, ↓aop_buildSlice, ↓aop_slice, ↓aop_not, ↓aop_call, ↓callA_len, ↓callA_append, ev_tmp, ev_const, ofV_int, ofV_bool, ofV_str, ofV_nilSlice, ofV_nilPtr, putA_some, putA_none, gs_self, gs_ne, List.length_set, Option.bind_some, Option.map_some, intBinA, evL, evO, evP, ne_eq, not_false_eq_true, if_true, if_false, reduceCtorEq, ite_true, ite_false, reduceIte, put_app, AV.cells, and_true, true_and, and_self, decide_true, decide_false, ↓yielded_eq, yv_some, boolOf_bool, List.getElem?_toArray, List.getElem?_cons_zero, List.getElem?_cons_succ, Nat.reduceLT, Nat.reduceEqDiff, beq_self_eq_true, Option.some_beq_some, wr_app, wr_app0, rd_app, rd_app0, rdL_here, rdL_next, wrL_here, wrL_next, spl, List.all_cons, List.all_nil, AV.one, Bool.and_self, Bool.true_and, List.drop_zero, List.take_succ_cons, List.take_zero, List.drop_succ_cons, List.head?_cons, Nat.reduceAdd, Nat.reduceLeDiff, List.length_cons, List.length_nil, List.nil_append, List.cons_append, List.set_cons_zero, List.set_cons_succ, Int.toNat_natCast, Nat.add_zero, b_ft, b_tf, Bool.false_eq_true]
  refine ⟨_, _, rfl, h.inv.next _ (by simp only [List.length_set, hlen]) (fun t ht => ?_) (by simp only [hlen, gs_self, gs_ne, List.length_set, ne_eq, Nat.reduceEqDiff, Nat.reduceLT, not_false_eq_true])⟩
  simp only [List.mem_cons, List.not_mem_nil, or_false] at ht
  rcases ht with rfl | rfl | rfl | rfl | rfl <;> simp only [hlen, gs_self, gs_ne, List.length_set, ne_eq, Nat.reduceEqDiff, Nat.reduceLT, not_false_eq_true]


set_option maxHeartbeats 4000000 in
theorem find_same {H0 : AH} {v : AV} {n : Nat} {tm : List AV} {H : AH} {k : Nat} {K : List K4} {F : List (S3 × Nat)} {O : List (E6 × E6)} {i5 i6 bo c5 c6 : Nat} {x : E6} {ie ke : Nat} (h : FRead H0 v n tm H k K F O i5 i6 bo c5 c6 x ie ke) (hf : x.spot ∉ F.map (·.1)) (hno : firstAt (fun y => y.clash x) (keptL K x.spot) 0 = none) (hin : (keptL K x.spot).any x.eqv = true) :
    ∃ tm' L, EvC Try.prog C4 l16_0 (tm, H) = EvC Try.prog C4 l16_0 (tm', H ++ L) ∧ FInv H0 v n tm' (H ++ L) (k + 1) K F O i5 i6 bo c5 c6 := by
  have hlen := h.inv.len
  have h16 := h.inv.t16
  have h17 := h.inv.t17
  have h18 := h.inv.t18
  have h5 := h.inv.t5
  have h6 := h.inv.t6
  have hi := h.hi
  have hrd : ∀ L, rdCells (H ++ L) ie ke 6 = some [I x.sp, I x.bl, I x.ce, I x.th, I x.ki, I x.ph] := fun L => rd_old h.hr L
  have hkn := h.kn
  have hnn := h.nn
  have hlt : decide ((k : Int) < (n : Int)) = true := by simp; omega
  have hw : IntKind.i64.wrap ((k : Int) + 1) = ((k + 1 : Nat) : Int) := by rw [IntWalk.i64_in _ (by omega)]; omega
  have kc : ∀ H, Ev Try.prog C4 44 [acc x.sp x.bl x.ce x.th x.ki] H = some (.agg [I x.sp, I (bif decide (x.sp < 0) then x.bl else 0), I x.ce], H) := fun H => k4_cell H x.sp x.bl x.ce x.th x.ki
  have hlf : ∀ L, lookupA Try.prog 87 (.map i6) (.agg [I x.sp, I (bif decide (x.sp < 0) then x.bl else 0), I x.ce]) false (H ++ L) = some (.bool (decide (x.spot ∈ F.map (·.1)))) := fun L => look_found h.inv.h6 x.spot L
  have hH : (tm, H) = (tm, H ++ []) := by simp
  simp only [hf, decide_false] at hlf
  have hnl : (keptL K x.spot).length < 2 ^ 62 := by
    unfold keptL
    split
    · rename_i kk ha
      have := h.inv.kn kk (List.mem_of_find?_eq_some ha)
      omega
    · simp
  have hlk : ∀ L, lookupA Try.prog 86 (.map i5) (.agg [I x.sp, I (bif decide (x.sp < 0) then x.bl else 0), I x.ce]) false (H ++ L) = some (keptV K x.spot) := fun L => look_kept h.inv.h5 x.spot L
  have hix : ∀ o L, Ev Try.prog C4 45 [keptV K x.spot, fn46 H.length] (H ++ (.cells [I x.sp, I x.bl, I x.ce, I x.th, I x.ki, I x.ph] 36 :: o :: L)) = some (I (idxOf (firstAt (fun y => y.clash x) (keptL K x.spot) 0)), H ++ (.cells [I x.sp, I x.bl, I x.ce, I x.th, I x.ki, I x.ph] 36 :: o :: L)) := fun o L =>
    k4_idx (x := x) ((h.inv.kok.evs x.spot).more _) (by rw [rd_app0]; rfl) hnl
  have hhas : ∀ L, Ev Try.prog C4 48 [keptV K x.spot, .agg [I x.sp, I x.bl, I x.ce, I x.th, I x.ki, I x.ph]] (H ++ L) = some (.bool ((keptL K x.spot).any x.eqv), H ++ L) := fun L => k4_has (x := x) ((h.inv.kok.evs x.spot).more L) hnl
  have zneg : decide ((-1 : Int) ≥ 0) = false := by decide
  rw [hno] at hix
  simp only [idxOf] at hix
  rw [hin] at hhas
  rw [el16_0, hH]
  simp -implicitDefEqProofs only [b16_0, atPath, Try.f16, Option.getD_some, hlen, h16, h17, h18, h5, h6, hlt, hw, hi, hrd, kc, hlf, ↓fc44, ↓fc45, ↓fc48, hlk, hix, zneg, ↓ld36, ↓ld34, ↓ld89, ↓ld3, ↓st36, ↓st34, ↓st89, ↓st3, z36, z34, z89, fa36_0, fa36_1, boolOf_undef, nb, ↓q_not, ↓aop_lookup, ↓aop_makeFunc, ↓aop_mapUpdate, ↓aop_mapEntry, ↓aop_entryStore, ↓aop_buildSlice, ↓aop_extract, ↓EvC_seq, ↓EvC_skip, ↓EvC_exit, ↓EvC_ret, ↓EvC_block, ↓EvC_cond, ↓ev_region, ↓runL_cons, ↓runL_nil, ↓stepO_none, ↓stepO_guard, ↓aop_move, ↓aop_assign, ↓aop_load, ↓aop_store, ↓aop_alloc, ↓aop_box, ↓aop_nilCheck, ↓aop_fieldAddr, ↓aop_field, ↓aop_indexAddr, ↓aop_binOp, ↓aop_pick, ↓aop_extract, ↓aop_buildSlice, ↓aop_slice, ↓aop_not, ↓aop_call, ↓callA_len, ↓callA_append, ev_tmp, ev_const, ofV_int, ofV_bool, ofV_str, ofV_nilSlice, ofV_nilPtr, putA_some, putA_none, gs_self, gs_ne, List.length_set, Option.bind_some, Option.map_some, intBinA, evL, evO, evP, ne_eq, not_false_eq_true, if_true, if_false, reduceCtorEq, ite_true, ite_false, reduceIte, put_app, AV.cells, and_true, true_and, and_self, decide_true, decide_false, ↓yielded_eq, yv_some, boolOf_bool, List.getElem?_toArray, List.getElem?_cons_zero, List.getElem?_cons_succ, Nat.reduceLT, Nat.reduceEqDiff, beq_self_eq_true, Option.some_beq_some, wr_app, wr_app0, rd_app, rd_app0, rdL_here, rdL_next, wrL_here, wrL_next, spl, List.all_cons, List.all_nil, AV.one, Bool.and_self, Bool.true_and, List.drop_zero, List.take_succ_cons, List.take_zero, List.drop_succ_cons, List.head?_cons, Nat.reduceAdd, Nat.reduceLeDiff, List.length_cons, List.length_nil, List.nil_append, List.cons_append, List.set_cons_zero, List.set_cons_succ, Int.toNat_natCast, Nat.add_zero, b_ft, b_tf, Bool.false_eq_true]
  generalize hX : EvC Try.prog C4 (Code.region 15 _ true) _ = X
  obtain ⟨tm1, he, hl1, g55, hk1⟩ := reg15' (cb := true) (x := x) (g8 := H.length) (g9 := H.length + 1) hX (by simp only [List.length_set, hlen]) (by simp only [hlen, h5, gs_self, gs_ne, List.length_set, ne_eq, Nat.reduceEqDiff, Nat.reduceLT, not_false_eq_true]) (by simp only [hlen, gs_self, gs_ne, List.length_set, ne_eq, Nat.reduceEqDiff, Nat.reduceLT, not_false_eq_true]) (by simp only [hlen, gs_self, gs_ne, List.length_set, ne_eq, Nat.reduceEqDiff, Nat.reduceLT, not_false_eq_true])
    (by rw [rd_app]; rfl) (by rw [rd_app0]; rfl) (hlk _) (hhas _)
  subst he
  have z16 := hk1 16 (by simp)
  have z17 := hk1 17 (by simp)
  have z18 := hk1 18 (by simp)
  have z5 := hk1 5 (by simp)
  have z6 := hk1 6 (by simp)
  have z4 := hk1 4 (by simp)
  have z8 := hk1 8 (by simp)
  have z9 := hk1 9 (by simp)
  simp only [hlen, h5, gs_self, gs_ne, List.length_set, ne_eq, Nat.reduceEqDiff, Nat.reduceLT, not_false_eq_true] at z16 z17 z18 z5 z6 z4 z8 z9
  simp -implicitDefEqProofs only [hl1, g55, z18, h18, hw, Bool.not_true, ↓EvC_seq, ↓EvC_skip, ↓EvC_exit, ↓EvC_ret, ↓EvC_block, ↓EvC_cond, ↓ev_region, ↓runL_cons, ↓runL_nil, ↓stepO_none, ↓stepO_guard, ↓aop_move, ↓aop_assign, ↓aop_load, ↓aop_store, ↓aop_alloc, ↓aop_box, ↓aop_nilCheck, ↓aop_fieldAddr, ↓aop_field, ↓aop_indexAddr, ↓aop_binOp, ↓aop_pick, ↓aop_extract, ↓aop_buildSlice, ↓aop_slice, ↓aop_not, ↓aop_call, ↓callA_len, ↓callA_append, ev_tmp, ev_const, ofV_int, ofV_bool, ofV_str, ofV_nilSlice, ofV_nilPtr, putA_some, putA_none, gs_self, gs_ne, List.length_set, Option.bind_some, Option.map_some, intBinA, evL, evO, evP, ne_eq, not_false_eq_true, if_true, if_false, reduceCtorEq, ite_true, ite_false, reduceIte, put_app, AV.cells, and_true, true_and, and_self, decide_true, decide_false, ↓yielded_eq, yv_some, boolOf_bool, List.getElem?_toArray, List.getElem?_cons_zero, List.getElem?_cons_succ, Nat.reduceLT, Nat.reduceEqDiff, beq_self_eq_true, Option.some_beq_some, wr_app, wr_app0, rd_app, rd_app0, rdL_here, rdL_next, wrL_here, wrL_next, spl, List.all_cons, List.all_nil, AV.one, Bool.and_self, Bool.true_and, List.drop_zero, List.take_succ_cons, List.take_zero, List.drop_succ_cons, List.head?_cons, Nat.reduceAdd, Nat.reduceLeDiff, List.length_cons, List.length_nil, List.nil_append, List.cons_append, List.set_cons_zero, List.set_cons_succ, Int.toNat_natCast, Nat.add_zero, b_ft, b_tf, Bool.false_eq_true]
  refine ⟨_, _, rfl, h.inv.next _ (by simp only [List.length_set, hl1]) (fun t ht => ?_) (by simp only [hl1, gs_self, gs_ne, List.length_set, ne_eq, Nat.reduceEqDiff, Nat.reduceLT, not_false_eq_true])⟩
  simp only [List.mem_cons, List.not_mem_nil, or_false] at ht
  rcases ht with rfl | rfl | rfl | rfl | rfl <;> simp only [hl1, z16, z17, z5, z6, z4, h16, h17, h5, h6, gs_self, gs_ne, List.length_set, ne_eq, Nat.reduceEqDiff, Nat.reduceLT, not_false_eq_true]
end Go.Dv

/- A round of race.Find's loop that keeps its event (printed by t43.py, own work). -/
namespace Go.Dv
open Go.Proofs
set_option maxRecDepth 100000
set_option linter.unusedSimpArgs false
set_option linter.unusedVariables false
attribute [local congr] bind_congr_first


set_option maxHeartbeats 4000000 in
theorem find_keep_old {H0 : AH} {v : AV} {n : Nat} {tm : List AV} {H : AH} {k : Nat} {K : List K4} {F : List (S3 × Nat)} {O : List (E6 × E6)} {i5 i6 bo c5 c6 : Nat} {x : E6} {ie ke : Nat} (h : FRead H0 v n tm H k K F O i5 i6 bo c5 c6 x ie ke) {kk : K4} {j : Nat} (hf : x.spot ∉ F.map (·.1)) (hno : firstAt (fun y => y.clash x) (keptL K x.spot) 0 = none) (hin : (keptL K x.spot).any x.eqv = false) (ha : at? K x.spot = some kk) (hj : K[j]? = some kk) :
    ∃ tm', EvC Try.prog C4 l16_0 (tm, H) = EvC Try.prog C4 l16_0 (tm', (H.set kk.blk .dead).set i5 (.map ((K.map K4.ent).set j (kk.s.av, AV.slice (H.length + 3) 0 6 (kk.evs.length + 1) (kk.evs.length + 1) false, kk.born)) c5) ++ [AObj.cells [I x.sp, I x.bl, I x.ce, I x.th, I x.ki, I x.ph] 36, .cells [I x.sp, I (bif decide (x.sp < 0) then x.bl else 0), I x.ce] 89, .cells [I x.sp, I x.bl, I x.ce, I x.th, I x.ki, I x.ph] 36, .cells (flat6 (kk.evs ++ [x])) 36]) ∧ tm'.length = 66 ∧ (∀ t ∈ [16, 17, 5, 6, 4], tm'.getD t undefA = tm.getD t undefA) ∧ tm'.getD 18 undefA = I ((k + 1 : Nat) : Int) := by
  have hlen := h.inv.len
  have h16 := h.inv.t16
  have h17 := h.inv.t17
  have h18 := h.inv.t18
  have h5 := h.inv.t5
  have h6 := h.inv.t6
  have hi := h.hi
  have hrd : ∀ L, rdCells (H ++ L) ie ke 6 = some [I x.sp, I x.bl, I x.ce, I x.th, I x.ki, I x.ph] := fun L => rd_old h.hr L
  have hkn := h.kn
  have hnn := h.nn
  have hlt : decide ((k : Int) < (n : Int)) = true := by simp; omega
  have hw : IntKind.i64.wrap ((k : Int) + 1) = ((k + 1 : Nat) : Int) := by rw [IntWalk.i64_in _ (by omega)]; omega
  have kc : ∀ H, Ev Try.prog C4 44 [acc x.sp x.bl x.ce x.th x.ki] H = some (.agg [I x.sp, I (bif decide (x.sp < 0) then x.bl else 0), I x.ce], H) := fun H => k4_cell H x.sp x.bl x.ce x.th x.ki
  have hlf : ∀ L, lookupA Try.prog 87 (.map i6) (.agg [I x.sp, I (bif decide (x.sp < 0) then x.bl else 0), I x.ce]) false (H ++ L) = some (.bool (decide (x.spot ∈ F.map (·.1)))) := fun L => look_found h.inv.h6 x.spot L
  have hH : (tm, H) = (tm, H ++ []) := by simp
  simp only [hf, decide_false] at hlf
  have hnl : (keptL K x.spot).length < 2 ^ 62 := by
    unfold keptL
    split
    · rename_i kk ha
      have := h.inv.kn kk (List.mem_of_find?_eq_some ha)
      omega
    · simp
  have hlk : ∀ L, lookupA Try.prog 86 (.map i5) (.agg [I x.sp, I (bif decide (x.sp < 0) then x.bl else 0), I x.ce]) false (H ++ L) = some (keptV K x.spot) := fun L => look_kept h.inv.h5 x.spot L
  have hix : ∀ o L, Ev Try.prog C4 45 [keptV K x.spot, fn46 H.length] (H ++ (.cells [I x.sp, I x.bl, I x.ce, I x.th, I x.ki, I x.ph] 36 :: o :: L)) = some (I (idxOf (firstAt (fun y => y.clash x) (keptL K x.spot) 0)), H ++ (.cells [I x.sp, I x.bl, I x.ce, I x.th, I x.ki, I x.ph] 36 :: o :: L)) := fun o L =>
    k4_idx (x := x) ((h.inv.kok.evs x.spot).more _) (by rw [rd_app0]; rfl) hnl
  have hhas : ∀ L, Ev Try.prog C4 48 [keptV K x.spot, .agg [I x.sp, I x.bl, I x.ce, I x.th, I x.ki, I x.ph]] (H ++ L) = some (.bool ((keptL K x.spot).any x.eqv), H ++ L) := fun L => k4_has (x := x) ((h.inv.kok.evs x.spot).more L) hnl
  have zneg : decide ((-1 : Int) ≥ 0) = false := by decide
  rw [hno] at hix
  simp only [idxOf] at hix
  rw [hin] at hhas
  obtain ⟨hkb, hkn0, hkc⟩ := h.inv.kok.cells kk (List.mem_of_find?_eq_some ha)
  have hke : (K.map K4.ent)[j]? = some kk.ent := by rw [List.getElem?_map, hj]; rfl
  have hme : ∀ L, mapEntryA Try.prog 86 (.map i5) (.agg [I x.sp, I (bif decide (x.sp < 0) then x.bl else 0), I x.ce]) (H ++ L) = some (.tuple [.slice kk.blk 0 6 kk.evs.length kk.evs.length false, .int .i64 kk.born], H ++ L) := fun L => entry_old h.inv.h5 ha L
  have hkl := h.inv.kn kk (List.mem_of_find?_eq_some ha)
  obtain ⟨Hd, hHd⟩ : ∃ Hd, Hd = H.set kk.blk .dead := ⟨_, rfl⟩
  have hbl := lt_of_get hkc
  have hap : appendA Try.prog none 22 (some 22) (.slice kk.blk 0 6 kk.evs.length kk.evs.length false) (.slice (H.length + 2) 0 6 1 1 true) (H ++ [.cells [I x.sp, I x.bl, I x.ce, I x.th, I x.ki, I x.ph] 36, .cells [I x.sp, I (bif decide (x.sp < 0) then x.bl else 0), I x.ce] 89, .cells [I x.sp, I x.bl, I x.ce, I x.th, I x.ki, I x.ph] 36]) =
      some (.slice (H.length + 3) 0 6 (kk.evs.length + 1) (kk.evs.length + 1) false, Hd ++ [.cells [I x.sp, I x.bl, I x.ce, I x.th, I x.ki, I x.ph] 36, .cells [I x.sp, I (bif decide (x.sp < 0) then x.bl else 0), I x.ce] 89, .cells [I x.sp, I x.bl, I x.ce, I x.th, I x.ki, I x.ph] 36, .cells (flat6 (kk.evs ++ [x])) 36]) := by
    refine app_more appT22 (old := flat6 kk.evs) (new := [I x.sp, I x.bl, I x.ce, I x.th, I x.ki, I x.ph]) (by rw [List.getElem?_append_left hbl]; exact hkc) (flat6_length _) (by rw [rd_app]; rfl) rfl ?_ ?_
    · rw [by36]; simp [growOk]; omega
    · rw [List.set_append_left _ _ hbl, ← hHd, flat6_snoc]
      simp [put, hHd, E6.cells]
  have h5d : Hd[i5]? = some (.map (K.map K4.ent) c5) := by
    rw [hHd, List.getElem?_set_ne (fun e => ?_)]
    · exact h.inv.h5
    · have := h.inv.h5; rw [← e, hkc] at this; cases this
  have hes : ∀ v' L, entryStoreA (.map i5) (.int .i64 kk.born) v' (Hd ++ L) = some (Hd.set i5 (.map ((K.map K4.ent).set j (kk.s.av, v', kk.born)) c5) ++ L) := fun v' L => store_at h5d hke (by rw [List.map_map]; exact h.inv.kok.borns) v' L
  rw [el16_0, hH]
  simp -implicitDefEqProofs only [b16_0, atPath, Try.f16, Option.getD_some, hlen, h16, h17, h18, h5, h6, hlt, hw, hi, hrd, kc, hlf, ↓fc44, ↓fc45, ↓fc48, hlk, hix, zneg, ↓ld36, ↓ld34, ↓ld89, ↓ld3, ↓st36, ↓st34, ↓st89, ↓st3, z36, z34, z89, fa36_0, fa36_1, boolOf_undef, nb, ↓q_not, ↓aop_lookup, ↓aop_makeFunc, ↓aop_mapUpdate, ↓aop_mapEntry, ↓aop_entryStore, ↓aop_buildSlice, ↓aop_extract, ↓EvC_seq, ↓EvC_skip, ↓EvC_exit, ↓EvC_ret, ↓EvC_block, ↓EvC_cond, ↓ev_region, ↓runL_cons, ↓runL_nil, ↓stepO_none, ↓stepO_guard, ↓aop_move, ↓aop_assign, ↓aop_load, ↓aop_store, ↓aop_alloc, ↓aop_box, ↓aop_nilCheck, ↓aop_fieldAddr, ↓aop_field, ↓aop_indexAddr, ↓aop_binOp, ↓aop_pick, ↓aop_extract, ↓aop_buildSlice, ↓aop_slice, ↓aop_not, ↓aop_call, ↓callA_len, ↓callA_append, ev_tmp, ev_const, ofV_int, ofV_bool, ofV_str, ofV_nilSlice, ofV_nilPtr, putA_some, putA_none, gs_self, gs_ne, List.length_set, Option.bind_some, Option.map_some, intBinA, evL, evO, evP, ne_eq, not_false_eq_true, if_true, if_false, reduceCtorEq, ite_true, ite_false, reduceIte, put_app, AV.cells, and_true, true_and, and_self, decide_true, decide_false, ↓yielded_eq, yv_some, boolOf_bool, List.getElem?_toArray, List.getElem?_cons_zero, List.getElem?_cons_succ, Nat.reduceLT, Nat.reduceEqDiff, beq_self_eq_true, Option.some_beq_some, wr_app, wr_app0, rd_app, rd_app0, rdL_here, rdL_next, wrL_here, wrL_next, spl, List.all_cons, List.all_nil, AV.one, Bool.and_self, Bool.true_and, List.drop_zero, List.take_succ_cons, List.take_zero, List.drop_succ_cons, List.head?_cons, Nat.reduceAdd, Nat.reduceLeDiff, List.length_cons, List.length_nil, List.nil_append, List.cons_append, List.set_cons_zero, List.set_cons_succ, Int.toNat_natCast, Nat.add_zero, b_ft, b_tf, Bool.false_eq_true]
  generalize hX : EvC Try.prog C4 (Code.region 15 _ true) _ = X
  obtain ⟨tm1, he, hl1, g55, hk1⟩ := reg15' (cb := false) (x := x) (g8 := H.length) (g9 := H.length + 1) hX (by simp only [List.length_set, hlen]) (by simp only [hlen, h5, gs_self, gs_ne, List.length_set, ne_eq, Nat.reduceEqDiff, Nat.reduceLT, not_false_eq_true]) (by simp only [hlen, gs_self, gs_ne, List.length_set, ne_eq, Nat.reduceEqDiff, Nat.reduceLT, not_false_eq_true]) (by simp only [hlen, gs_self, gs_ne, List.length_set, ne_eq, Nat.reduceEqDiff, Nat.reduceLT, not_false_eq_true])
    (by rw [rd_app]; rfl) (by rw [rd_app0]; rfl) (hlk _) (hhas _)
  subst he
  have z16 := hk1 16 (by simp)
  have z17 := hk1 17 (by simp)
  have z18 := hk1 18 (by simp)
  have z5 := hk1 5 (by simp)
  have z6 := hk1 6 (by simp)
  have z4 := hk1 4 (by simp)
  have z8 := hk1 8 (by simp)
  have z9 := hk1 9 (by simp)
  simp only [hlen, h5, gs_self, gs_ne, List.length_set, ne_eq, Nat.reduceEqDiff, Nat.reduceLT, not_false_eq_true] at z16 z17 z18 z5 z6 z4 z8 z9
  simp -implicitDefEqProofs only [hl1, g55, z18, z5, z8, z9, h18, hw, Bool.not_false, hme, hap, hes, bs22, ↓ld36, ↓ld34, ↓ld89, ↓ld3, ↓st36, ↓st34, ↓st89, ↓st3, z36, z34, z89, fa36_0, fa36_1, boolOf_undef, nb, ↓q_not, ↓aop_lookup, ↓aop_makeFunc, ↓aop_mapUpdate, ↓aop_mapEntry, ↓aop_entryStore, ↓aop_buildSlice, ↓aop_extract, ↓EvC_seq, ↓EvC_skip, ↓EvC_exit, ↓EvC_ret, ↓EvC_block, ↓EvC_cond, ↓ev_region, ↓runL_cons, ↓runL_nil, ↓stepO_none, ↓stepO_guard, ↓aop_move, ↓aop_assign, ↓aop_load, ↓aop_store, ↓aop_alloc, ↓aop_box, ↓aop_nilCheck, ↓aop_fieldAddr, ↓aop_field, ↓aop_indexAddr, ↓aop_binOp, ↓aop_pick, ↓aop_extract, ↓aop_buildSlice, ↓aop_slice, ↓aop_not, ↓aop_call, ↓callA_len, ↓callA_append, ev_tmp, ev_const, ofV_int, ofV_bool, ofV_str, ofV_nilSlice, ofV_nilPtr, putA_some, putA_none, gs_self, gs_ne, List.length_set, Option.bind_some, Option.map_some, intBinA, evL, evO, evP, ne_eq, not_false_eq_true, if_true, if_false, reduceCtorEq, ite_true, ite_false, reduceIte, put_app, AV.cells, and_true, true_and, and_self, decide_true, decide_false, ↓yielded_eq, yv_some, boolOf_bool, List.getElem?_toArray, List.getElem?_cons_zero, List.getElem?_cons_succ, Nat.reduceLT, Nat.reduceEqDiff, beq_self_eq_true, Option.some_beq_some, wr_app, wr_app0, rd_app, rd_app0, rdL_here, rdL_next, wrL_here, wrL_next, spl, List.all_cons, List.all_nil, AV.one, Bool.and_self, Bool.true_and, List.drop_zero, List.take_succ_cons, List.take_zero, List.drop_succ_cons, List.head?_cons, Nat.reduceAdd, Nat.reduceLeDiff, List.length_cons, List.length_nil, List.nil_append, List.cons_append, List.set_cons_zero, List.set_cons_succ, Int.toNat_natCast, Nat.add_zero, b_ft, b_tf, Bool.false_eq_true]
  rw [← hHd]
  refine ⟨_, rfl, by simp only [List.length_set, hl1], (fun t ht => ?_), by simp only [hl1, gs_self, gs_ne, List.length_set, ne_eq, Nat.reduceEqDiff, Nat.reduceLT, not_false_eq_true]⟩
  simp only [List.mem_cons, List.not_mem_nil, or_false] at ht
  rcases ht with rfl | rfl | rfl | rfl | rfl <;> simp only [hl1, z16, z17, z5, z6, z4, h16, h17, h5, h6, gs_self, gs_ne, List.length_set, ne_eq, Nat.reduceEqDiff, Nat.reduceLT, not_false_eq_true]


set_option maxHeartbeats 4000000 in
theorem find_keep_new {H0 : AH} {v : AV} {n : Nat} {tm : List AV} {H : AH} {k : Nat} {K : List K4} {F : List (S3 × Nat)} {O : List (E6 × E6)} {i5 i6 bo c5 c6 : Nat} {x : E6} {ie ke : Nat} (h : FRead H0 v n tm H k K F O i5 i6 bo c5 c6 x ie ke) (hf : x.spot ∉ F.map (·.1)) (ha : at? K x.spot = none) :
    ∃ tm', EvC Try.prog C4 l16_0 (tm, H) = EvC Try.prog C4 l16_0 (tm', H.set i5 (.map (K.map K4.ent ++ [(x.spot.av, AV.slice (H.length + 3) 0 6 1 1 false, c5)]) (c5 + 1)) ++ [AObj.cells [I x.sp, I x.bl, I x.ce, I x.th, I x.ki, I x.ph] 36, .cells [I x.sp, I (bif decide (x.sp < 0) then x.bl else 0), I x.ce] 89, .cells [I x.sp, I x.bl, I x.ce, I x.th, I x.ki, I x.ph] 36, .cells [I x.sp, I x.bl, I x.ce, I x.th, I x.ki, I x.ph] 36]) ∧ tm'.length = 66 ∧ (∀ t ∈ [16, 17, 5, 6, 4], tm'.getD t undefA = tm.getD t undefA) ∧ tm'.getD 18 undefA = I ((k + 1 : Nat) : Int) := by
  have hlen := h.inv.len
  have h16 := h.inv.t16
  have h17 := h.inv.t17
  have h18 := h.inv.t18
  have h5 := h.inv.t5
  have h6 := h.inv.t6
  have hi := h.hi
  have hrd : ∀ L, rdCells (H ++ L) ie ke 6 = some [I x.sp, I x.bl, I x.ce, I x.th, I x.ki, I x.ph] := fun L => rd_old h.hr L
  have hkn := h.kn
  have hnn := h.nn
  have hlt : decide ((k : Int) < (n : Int)) = true := by simp; omega
  have hw : IntKind.i64.wrap ((k : Int) + 1) = ((k + 1 : Nat) : Int) := by rw [IntWalk.i64_in _ (by omega)]; omega
  have kc : ∀ H, Ev Try.prog C4 44 [acc x.sp x.bl x.ce x.th x.ki] H = some (.agg [I x.sp, I (bif decide (x.sp < 0) then x.bl else 0), I x.ce], H) := fun H => k4_cell H x.sp x.bl x.ce x.th x.ki
  have hlf : ∀ L, lookupA Try.prog 87 (.map i6) (.agg [I x.sp, I (bif decide (x.sp < 0) then x.bl else 0), I x.ce]) false (H ++ L) = some (.bool (decide (x.spot ∈ F.map (·.1)))) := fun L => look_found h.inv.h6 x.spot L
  have hH : (tm, H) = (tm, H ++ []) := by simp
  simp only [hf, decide_false] at hlf
  have hnl : (keptL K x.spot).length < 2 ^ 62 := by
    unfold keptL
    split
    · rename_i kk ha
      have := h.inv.kn kk (List.mem_of_find?_eq_some ha)
      omega
    · simp
  have hlk : ∀ L, lookupA Try.prog 86 (.map i5) (.agg [I x.sp, I (bif decide (x.sp < 0) then x.bl else 0), I x.ce]) false (H ++ L) = some (keptV K x.spot) := fun L => look_kept h.inv.h5 x.spot L
  have hix : ∀ o L, Ev Try.prog C4 45 [keptV K x.spot, fn46 H.length] (H ++ (.cells [I x.sp, I x.bl, I x.ce, I x.th, I x.ki, I x.ph] 36 :: o :: L)) = some (I (idxOf (firstAt (fun y => y.clash x) (keptL K x.spot) 0)), H ++ (.cells [I x.sp, I x.bl, I x.ce, I x.th, I x.ki, I x.ph] 36 :: o :: L)) := fun o L =>
    k4_idx (x := x) ((h.inv.kok.evs x.spot).more _) (by rw [rd_app0]; rfl) hnl
  have hhas : ∀ L, Ev Try.prog C4 48 [keptV K x.spot, .agg [I x.sp, I x.bl, I x.ce, I x.th, I x.ki, I x.ph]] (H ++ L) = some (.bool ((keptL K x.spot).any x.eqv), H ++ L) := fun L => k4_has (x := x) ((h.inv.kok.evs x.spot).more L) hnl
  have zneg : decide ((-1 : Int) ≥ 0) = false := by decide
  have hno : firstAt (fun y => y.clash x) (keptL K x.spot) 0 = none := by simp [keptL, ha, firstAt]
  have hin : (keptL K x.spot).any x.eqv = false := by simp [keptL, ha]
  rw [hno] at hix
  simp only [idxOf] at hix
  rw [hin] at hhas
  obtain ⟨Hn, hHn⟩ : ∃ Hn, Hn = H.set i5 (.map (K.map K4.ent ++ [(x.spot.av, .nilSlice, c5)]) (c5 + 1)) := ⟨_, rfl⟩
  have hl5 := lt_of_get h.inv.h5
  have hnlen : Hn.length = H.length := by rw [hHn, List.length_set]
  have hme : ∀ L, mapEntryA Try.prog 86 (.map i5) (.agg [I x.sp, I (bif decide (x.sp < 0) then x.bl else 0), I x.ce]) (H ++ L) = some (.tuple [.nilSlice, .int .i64 c5], Hn ++ L) := fun L => by rw [hHn]; exact entry_new h.inv.h5 ha L
  have hap : appendA Try.prog none 22 (some 22) .nilSlice (.slice (H.length + 2) 0 6 1 1 true) (Hn ++ [.cells [I x.sp, I x.bl, I x.ce, I x.th, I x.ki, I x.ph] 36, .cells [I x.sp, I (bif decide (x.sp < 0) then x.bl else 0), I x.ce] 89, .cells [I x.sp, I x.bl, I x.ce, I x.th, I x.ki, I x.ph] 36]) =
      some (.slice (H.length + 3) 0 6 1 1 false, Hn ++ [.cells [I x.sp, I x.bl, I x.ce, I x.th, I x.ki, I x.ph] 36, .cells [I x.sp, I (bif decide (x.sp < 0) then x.bl else 0), I x.ce] 89, .cells [I x.sp, I x.bl, I x.ce, I x.th, I x.ki, I x.ph] 36, .cells [I x.sp, I x.bl, I x.ce, I x.th, I x.ki, I x.ph] 36]) := by
    refine app_first appT22 (new := [I x.sp, I x.bl, I x.ce, I x.th, I x.ki, I x.ph]) (by rw [← hnlen, rd_app]; rfl) ?_ ?_
    · rw [by36]; decide
    · simp [put, hnlen]
  have h5n : Hn[i5]? = some (.map (K.map K4.ent ++ [(x.spot.av, .nilSlice, c5)]) (c5 + 1)) := by rw [hHn, List.getElem?_set_self hl5]
  have hes : ∀ v' L, entryStoreA (.map i5) (.int .i64 c5) v' (Hn ++ L) = some (H.set i5 (.map (K.map K4.ent ++ [(x.spot.av, v', c5)]) (c5 + 1)) ++ L) := fun v' L => by
    have := store_at h5n (j := K.length) (e := (x.spot.av, .nilSlice, c5)) (by rw [List.getElem?_append_right (by simp)]; simp) ?_ v' L
    · rw [this, hHn, List.set_set]
      congr 4
      rw [List.set_append_right _ _ (by simp)]
      simp
    · rw [List.map_append, List.map_map, List.nodup_append]
      refine ⟨h.inv.kok.borns, by simp, fun a ha' b hb e => ?_⟩
      simp at hb
      subst hb
      obtain ⟨kk, hk, rfl⟩ := List.mem_map.1 ha'
      have := h.inv.kok.lt kk hk
      simp [K4.ent] at e
      omega
  rw [el16_0, hH]
  simp -implicitDefEqProofs only [b16_0, atPath, Try.f16, Option.getD_some, hlen, h16, h17, h18, h5, h6, hlt, hw, hi, hrd, kc, hlf, ↓fc44, ↓fc45, ↓fc48, hlk, hix, zneg, ↓ld36, ↓ld34, ↓ld89, ↓ld3, ↓st36, ↓st34, ↓st89, ↓st3, z36, z34, z89, fa36_0, fa36_1, boolOf_undef, nb, ↓q_not, ↓aop_lookup, ↓aop_makeFunc, ↓aop_mapUpdate, ↓aop_mapEntry, ↓aop_entryStore, ↓aop_buildSlice, ↓aop_extract, ↓EvC_seq, ↓EvC_skip, ↓EvC_exit, ↓EvC_ret, ↓EvC_block, ↓EvC_cond, ↓ev_region, ↓runL_cons, ↓runL_nil, ↓stepO_none, ↓stepO_guard, ↓aop_move, ↓aop_assign, ↓aop_load, ↓aop_store, ↓aop_alloc, ↓aop_box, ↓aop_nilCheck, ↓aop_fieldAddr, ↓aop_field, ↓aop_indexAddr, ↓aop_binOp, ↓aop_pick, ↓aop_extract, ↓aop_buildSlice, ↓aop_slice, ↓aop_not, ↓aop_call, ↓callA_len, ↓callA_append, ev_tmp, ev_const, ofV_int, ofV_bool, ofV_str, ofV_nilSlice, ofV_nilPtr, putA_some, putA_none, gs_self, gs_ne, List.length_set, Option.bind_some, Option.map_some, intBinA, evL, evO, evP, ne_eq, not_false_eq_true, if_true, if_false, reduceCtorEq, ite_true, ite_false, reduceIte, put_app, AV.cells, and_true, true_and, and_self, decide_true, decide_false, ↓yielded_eq, yv_some, boolOf_bool, List.getElem?_toArray, List.getElem?_cons_zero, List.getElem?_cons_succ, Nat.reduceLT, Nat.reduceEqDiff, beq_self_eq_true, Option.some_beq_some, wr_app, wr_app0, rd_app, rd_app0, rdL_here, rdL_next, wrL_here, wrL_next, spl, List.all_cons, List.all_nil, AV.one, Bool.and_self, Bool.true_and, List.drop_zero, List.take_succ_cons, List.take_zero, List.drop_succ_cons, List.head?_cons, Nat.reduceAdd, Nat.reduceLeDiff, List.length_cons, List.length_nil, List.nil_append, List.cons_append, List.set_cons_zero, List.set_cons_succ, Int.toNat_natCast, Nat.add_zero, b_ft, b_tf, Bool.false_eq_true]
  generalize hX : EvC Try.prog C4 (Code.region 15 _ true) _ = X
  obtain ⟨tm1, he, hl1, g55, hk1⟩ := reg15' (cb := false) (x := x) (g8 := H.length) (g9 := H.length + 1) hX (by simp only [List.length_set, hlen]) (by simp only [hlen, h5, gs_self, gs_ne, List.length_set, ne_eq, Nat.reduceEqDiff, Nat.reduceLT, not_false_eq_true]) (by simp only [hlen, gs_self, gs_ne, List.length_set, ne_eq, Nat.reduceEqDiff, Nat.reduceLT, not_false_eq_true]) (by simp only [hlen, gs_self, gs_ne, List.length_set, ne_eq, Nat.reduceEqDiff, Nat.reduceLT, not_false_eq_true])
    (by rw [rd_app]; rfl) (by rw [rd_app0]; rfl) (hlk _) (hhas _)
  subst he
  have z16 := hk1 16 (by simp)
  have z17 := hk1 17 (by simp)
  have z18 := hk1 18 (by simp)
  have z5 := hk1 5 (by simp)
  have z6 := hk1 6 (by simp)
  have z4 := hk1 4 (by simp)
  have z8 := hk1 8 (by simp)
  have z9 := hk1 9 (by simp)
  simp only [hlen, h5, gs_self, gs_ne, List.length_set, ne_eq, Nat.reduceEqDiff, Nat.reduceLT, not_false_eq_true] at z16 z17 z18 z5 z6 z4 z8 z9
  simp -implicitDefEqProofs only [hl1, g55, z18, z5, z8, z9, h18, hw, Bool.not_false, hme, hap, hes, bs22, ↓ld36, ↓ld34, ↓ld89, ↓ld3, ↓st36, ↓st34, ↓st89, ↓st3, z36, z34, z89, fa36_0, fa36_1, boolOf_undef, nb, ↓q_not, ↓aop_lookup, ↓aop_makeFunc, ↓aop_mapUpdate, ↓aop_mapEntry, ↓aop_entryStore, ↓aop_buildSlice, ↓aop_extract, ↓EvC_seq, ↓EvC_skip, ↓EvC_exit, ↓EvC_ret, ↓EvC_block, ↓EvC_cond, ↓ev_region, ↓runL_cons, ↓runL_nil, ↓stepO_none, ↓stepO_guard, ↓aop_move, ↓aop_assign, ↓aop_load, ↓aop_store, ↓aop_alloc, ↓aop_box, ↓aop_nilCheck, ↓aop_fieldAddr, ↓aop_field, ↓aop_indexAddr, ↓aop_binOp, ↓aop_pick, ↓aop_extract, ↓aop_buildSlice, ↓aop_slice, ↓aop_not, ↓aop_call, ↓callA_len, ↓callA_append, ev_tmp, ev_const, ofV_int, ofV_bool, ofV_str, ofV_nilSlice, ofV_nilPtr, putA_some, putA_none, gs_self, gs_ne, List.length_set, Option.bind_some, Option.map_some, intBinA, evL, evO, evP, ne_eq, not_false_eq_true, if_true, if_false, reduceCtorEq, ite_true, ite_false, reduceIte, put_app, AV.cells, and_true, true_and, and_self, decide_true, decide_false, ↓yielded_eq, yv_some, boolOf_bool, List.getElem?_toArray, List.getElem?_cons_zero, List.getElem?_cons_succ, Nat.reduceLT, Nat.reduceEqDiff, beq_self_eq_true, Option.some_beq_some, wr_app, wr_app0, rd_app, rd_app0, rdL_here, rdL_next, wrL_here, wrL_next, spl, List.all_cons, List.all_nil, AV.one, Bool.and_self, Bool.true_and, List.drop_zero, List.take_succ_cons, List.take_zero, List.drop_succ_cons, List.head?_cons, Nat.reduceAdd, Nat.reduceLeDiff, List.length_cons, List.length_nil, List.nil_append, List.cons_append, List.set_cons_zero, List.set_cons_succ, Int.toNat_natCast, Nat.add_zero, b_ft, b_tf, Bool.false_eq_true]
  refine ⟨_, rfl, by simp only [List.length_set, hl1], (fun t ht => ?_), by simp only [hl1, gs_self, gs_ne, List.length_set, ne_eq, Nat.reduceEqDiff, Nat.reduceLT, not_false_eq_true]⟩
  simp only [List.mem_cons, List.not_mem_nil, or_false] at ht
  rcases ht with rfl | rfl | rfl | rfl | rfl <;> simp only [hl1, z16, z17, z5, z6, z4, h16, h17, h5, h6, gs_self, gs_ne, List.length_set, ne_eq, Nat.reduceEqDiff, Nat.reduceLT, not_false_eq_true]
end Go.Dv

/- A round of race.Find's loop that finds a race (printed by t43.py, own work). -/
namespace Go.Dv
open Go.Proofs
set_option maxRecDepth 100000
set_option linter.unusedSimpArgs false
set_option linter.unusedVariables false
attribute [local congr] bind_congr_first


/-- The heap behind an append to the list of races: the older list is gone. -/
def delO (O : List (E6 × E6)) (G : AH) (bo : Nat) : AH := match O with | [] => G | _ => G.set bo .dead

theorem bu38 (a b c d e a' b' c' d' e' : Int) : buildA Try.prog 38 [(0, acc a b c d e), (1, acc a' b' c' d' e')] = some (.agg [I a, I b, I c, I d, I e, I a', I b', I c', I d', I e']) := by kernel_rfl
theorem bs24 (slot : Option Nat) (a b c d e a' b' c' d' e' : Int) (H : AH) : buildSliceA Try.prog slot 24 1 [(0, .agg [I a, I b, I c, I d, I e, I a', I b', I c', I d', I e'])] H = (put slot H (.cells [I a, I b, I c, I d, I e, I a', I b', I c', I d', I e'] 38)).map fun (i, H') => (.slice i 0 10 1 1 true, H') := by kernel_rfl

set_option maxHeartbeats 8000000 in
/-- The region that lays a race at the end of the list. -/
theorem reg14 {G Gd : AH} {tm : List AV} {O : List (E6 × E6)} {ov sl ov' : AV} {i5 g8 g9 blk i : Nat} {x y : E6} {new : List AV} (hlen : tm.length = 66) (h4 : tm.getD 4 undefA = ov) (h5 : tm.getD 5 undefA = .map i5) (h8 : tm.getD 8 undefA = .ptr g8 0) (h9 : tm.getD 9 undefA = .ptr g9 0) (h10 : tm.getD 10 undefA = I i)
    (r9 : ∀ L, rdCells (G ++ L) g9 0 3 = some [I x.sp, I (bif decide (x.sp < 0) then x.bl else 0), I x.ce]) (r8 : ∀ L, rdCells (G ++ L) g8 0 5 = some [I x.sp, I x.bl, I x.ce, I x.th, I x.ki])
    (hlk : ∀ L, lookupA Try.prog 86 (.map i5) (.agg [I x.sp, I (bif decide (x.sp < 0) then x.bl else 0), I x.ce]) false (G ++ L) = some sl) (hi : indexAddrA Try.prog 22 sl (I i) = some (.ptr blk (i * 6)))
    (ry : ∀ L, rdCells (G ++ L) blk (i * 6) 5 = some [I y.sp, I y.bl, I y.ce, I y.th, I y.ki])
    (hap : appendA Try.prog (some (G.length + 12)) 24 (some 24) ov (.slice (G.length + 11) 0 10 1 1 true) (G ++ [.fresh, .fresh, .fresh, .fresh, .fresh, .fresh, .fresh, .fresh, .fresh, .fresh, .fresh, .cells [I y.sp, I y.bl, I y.ce, I y.th, I y.ki, I x.sp, I x.bl, I x.ce, I x.th, I x.ki] 38, .fresh, .fresh]) = some (ov', Gd ++ [.fresh, .fresh, .fresh, .fresh, .fresh, .fresh, .fresh, .fresh, .fresh, .fresh, .fresh, .cells [I y.sp, I y.bl, I y.ce, I y.th, I y.ki, I x.sp, I x.bl, I x.ce, I x.th, I x.ki] 38, .cells new 38, .fresh])) :
    ∃ tm', EvC Try.prog C4 d16_14 (tm, G) = some (.normal, (tm', Gd ++ [.fresh, .fresh, .fresh, .fresh, .fresh, .fresh, .fresh, .fresh, .fresh, .fresh, .fresh, .cells [I y.sp, I y.bl, I y.ce, I y.th, I y.ki, I x.sp, I x.bl, I x.ce, I x.th, I x.ki] 38, .cells new 38, .fresh])) ∧ tm'.length = 66 ∧ tm'.getD 4 undefA = ov' ∧ (∀ t ∈ [16, 17, 18, 5, 6], tm'.getD t undefA = tm.getD t undefA) := by
  have d14 := ed16_14
  simp only [d16_14, opsAt, atPath, Try.f16, Option.getD_some] at d14 ⊢
  rw [d14]
  simp -implicitDefEqProofs only [hlen, h4, h5, h8, h9, h10, r9, r8, hlk, hi, ry, hap, bu38, bs24, ↓ld36, ↓ld34, ↓ld89, ↓ld3, ↓st36, ↓st34, ↓st89, ↓st3, z36, z34, z89, fa36_0, fa36_1, boolOf_undef, nb, ↓q_not, ↓aop_lookup, ↓aop_makeFunc, ↓aop_mapUpdate, ↓aop_mapEntry, ↓aop_entryStore, ↓aop_buildSlice, ↓aop_extract, ↓EvC_seq, ↓EvC_skip, ↓EvC_exit, ↓EvC_ret, ↓EvC_block, ↓EvC_cond, ↓ev_region, ↓runL_cons, ↓runL_nil, ↓stepO_none, ↓stepO_guard, ↓aop_move, ↓aop_assign, ↓aop_load, ↓aop_store, ↓aop_alloc, ↓aop_box, ↓aop_nilCheck, ↓aop_fieldAddr, ↓aop_field, ↓aop_indexAddr, ↓aop_binOp, ↓aop_pick, ↓aop_extract, ↓aop_buildSlice, ↓aop_slice, ↓aop_not, ↓aop_call, ↓callA_len, ↓callA_append, ev_tmp, ev_const, ofV_int, ofV_bool, ofV_str, ofV_nilSlice, ofV_nilPtr, putA_some, putA_none, gs_self, gs_ne, List.length_set, Option.bind_some, Option.map_some, intBinA, evL, evO, evP, ne_eq, not_false_eq_true, if_true, if_false, reduceCtorEq, ite_true, ite_false, reduceIte, put_app, AV.cells, and_true, true_and, and_self, decide_true, decide_false, ↓yielded_eq, yv_some, boolOf_bool, List.getElem?_toArray, List.getElem?_cons_zero, List.getElem?_cons_succ, Nat.reduceLT, Nat.reduceEqDiff, beq_self_eq_true, Option.some_beq_some, wr_app, wr_app0, rd_app, rd_app0, rdL_here, rdL_next, wrL_here, wrL_next, spl, List.all_cons, List.all_nil, AV.one, Bool.and_self, Bool.true_and, List.drop_zero, List.take_succ_cons, List.take_zero, List.drop_succ_cons, List.head?_cons, Nat.reduceAdd, Nat.reduceLeDiff, List.length_cons, List.length_nil, List.nil_append, List.cons_append, List.set_cons_zero, List.set_cons_succ, Int.toNat_natCast, Nat.add_zero, b_ft, b_tf, Bool.false_eq_true, ↓rp_done, ↓rp_take, ↓rp_all, ↓ra_nil, ↓ra_first, ↓ra_next, ↓quietO_none, ↓quietO_guard, ↓q_move, ↓q_assign, ↓q_pick, ↓q_binOp, ↓q_field, ↓q_fieldAddr, ↓q_indexAddr, ↓q_nilCheck, set_order, keepV_eq, stBeq_self, ↓rp_graft, put_slot, put_slot_app, List.length_append, List.append_assoc, Nat.add_assoc, ↓aop_build, evP, Bool.true_and, Bool.and_true, Bool.false_and, Bool.and_false, Bool.true_or, Bool.or_true, Bool.false_or, Bool.or_false, Bool.not_true, Bool.not_false]
  refine ⟨_, rfl, by simp only [List.length_set, hlen], by simp only [hlen, gs_self, gs_ne, List.length_set, ne_eq, Nat.reduceEqDiff, Nat.reduceLT, not_false_eq_true], fun t ht => ?_⟩
  simp only [List.mem_cons, List.not_mem_nil, or_false] at ht
  rcases ht with rfl | rfl | rfl | rfl | rfl <;> simp only [hlen, gs_self, gs_ne, List.length_set, ne_eq, Nat.reduceEqDiff, Nat.reduceLT, not_false_eq_true]

theorem reg14' {G Gd : AH} {tm : List AV} {O : List (E6 × E6)} {ov sl ov' : AV} {i5 g8 g9 blk i : Nat} {x y : E6} {new : List AV} {X : Option (AExit × St)} (hX : EvC Try.prog C4 d16_14 (tm, G) = X) (hlen : tm.length = 66) (h4 : tm.getD 4 undefA = ov) (h5 : tm.getD 5 undefA = .map i5) (h8 : tm.getD 8 undefA = .ptr g8 0) (h9 : tm.getD 9 undefA = .ptr g9 0) (h10 : tm.getD 10 undefA = I i)
    (r9 : ∀ L, rdCells (G ++ L) g9 0 3 = some [I x.sp, I (bif decide (x.sp < 0) then x.bl else 0), I x.ce]) (r8 : ∀ L, rdCells (G ++ L) g8 0 5 = some [I x.sp, I x.bl, I x.ce, I x.th, I x.ki])
    (hlk : ∀ L, lookupA Try.prog 86 (.map i5) (.agg [I x.sp, I (bif decide (x.sp < 0) then x.bl else 0), I x.ce]) false (G ++ L) = some sl) (hi : indexAddrA Try.prog 22 sl (I i) = some (.ptr blk (i * 6)))
    (ry : ∀ L, rdCells (G ++ L) blk (i * 6) 5 = some [I y.sp, I y.bl, I y.ce, I y.th, I y.ki])
    (hap : appendA Try.prog (some (G.length + 12)) 24 (some 24) ov (.slice (G.length + 11) 0 10 1 1 true) (G ++ [.fresh, .fresh, .fresh, .fresh, .fresh, .fresh, .fresh, .fresh, .fresh, .fresh, .fresh, .cells [I y.sp, I y.bl, I y.ce, I y.th, I y.ki, I x.sp, I x.bl, I x.ce, I x.th, I x.ki] 38, .fresh, .fresh]) = some (ov', Gd ++ [.fresh, .fresh, .fresh, .fresh, .fresh, .fresh, .fresh, .fresh, .fresh, .fresh, .fresh, .cells [I y.sp, I y.bl, I y.ce, I y.th, I y.ki, I x.sp, I x.bl, I x.ce, I x.th, I x.ki] 38, .cells new 38, .fresh])) :
    ∃ tm', X = some (.normal, (tm', Gd ++ [.fresh, .fresh, .fresh, .fresh, .fresh, .fresh, .fresh, .fresh, .fresh, .fresh, .fresh, .cells [I y.sp, I y.bl, I y.ce, I y.th, I y.ki, I x.sp, I x.bl, I x.ce, I x.th, I x.ki] 38, .cells new 38, .fresh])) ∧ tm'.length = 66 ∧ tm'.getD 4 undefA = ov' ∧ (∀ t ∈ [16, 17, 18, 5, 6], tm'.getD t undefA = tm.getD t undefA) := by
  subst hX
  exact reg14 (O := O) hlen h4 h5 h8 h9 h10 r9 r8 hlk hi ry hap


set_option maxHeartbeats 4000000 in
theorem find_race {H0 : AH} {v : AV} {n : Nat} {tm : List AV} {H : AH} {k : Nat} {K : List K4} {F : List (S3 × Nat)} {O : List (E6 × E6)} {i5 i6 bo c5 c6 : Nat} {x : E6} {ie ke : Nat} (h : FRead H0 v n tm H k K F O i5 i6 bo c5 c6 x ie ke) {i : Nat} {y : E6} (hf : x.spot ∉ F.map (·.1)) (hno : firstAt (fun y => y.clash x) (keptL K x.spot) 0 = some i) (hy : (keptL K x.spot)[i]? = some y) :
    ∃ Gd, Gd = delO O (H.set i6 (.map (foundE (F ++ [(x.spot, c6)])) (c6 + 1))) bo ∧ ∃ tm', EvC Try.prog C4 l16_0 (tm, H) = EvC Try.prog C4 l16_0 (tm', Gd ++ [AObj.cells [I x.sp, I x.bl, I x.ce, I x.th, I x.ki, I x.ph] 36, .cells [I x.sp, I (bif decide (x.sp < 0) then x.bl else 0), I x.ce] 89, .fresh, .fresh, .fresh, .fresh, .fresh, .fresh, .fresh, .fresh, .fresh, .fresh, .fresh, .cells [I y.sp, I y.bl, I y.ce, I y.th, I y.ki, I x.sp, I x.bl, I x.ce, I x.th, I x.ki] 38, .cells (flatR (O ++ [(y, x)])) 38, .fresh]) ∧ tm'.length = 66 ∧ tm'.getD 4 undefA = outV (O ++ [(y, x)]) (H.length + 14) ∧ (∀ t ∈ [16, 17, 5, 6], tm'.getD t undefA = tm.getD t undefA) ∧ tm'.getD 18 undefA = I ((k + 1 : Nat) : Int) := by
  have hlen := h.inv.len
  have h16 := h.inv.t16
  have h17 := h.inv.t17
  have h18 := h.inv.t18
  have h5 := h.inv.t5
  have h6 := h.inv.t6
  have hi := h.hi
  have hrd : ∀ L, rdCells (H ++ L) ie ke 6 = some [I x.sp, I x.bl, I x.ce, I x.th, I x.ki, I x.ph] := fun L => rd_old h.hr L
  have hkn := h.kn
  have hnn := h.nn
  have hlt : decide ((k : Int) < (n : Int)) = true := by simp; omega
  have hw : IntKind.i64.wrap ((k : Int) + 1) = ((k + 1 : Nat) : Int) := by rw [IntWalk.i64_in _ (by omega)]; omega
  have kc : ∀ H, Ev Try.prog C4 44 [acc x.sp x.bl x.ce x.th x.ki] H = some (.agg [I x.sp, I (bif decide (x.sp < 0) then x.bl else 0), I x.ce], H) := fun H => k4_cell H x.sp x.bl x.ce x.th x.ki
  have hlf : ∀ L, lookupA Try.prog 87 (.map i6) (.agg [I x.sp, I (bif decide (x.sp < 0) then x.bl else 0), I x.ce]) false (H ++ L) = some (.bool (decide (x.spot ∈ F.map (·.1)))) := fun L => look_found h.inv.h6 x.spot L
  have hH : (tm, H) = (tm, H ++ []) := by simp
  simp only [hf, decide_false] at hlf
  have hnl : (keptL K x.spot).length < 2 ^ 62 := by
    unfold keptL
    split
    · rename_i kk ha
      have := h.inv.kn kk (List.mem_of_find?_eq_some ha)
      omega
    · simp
  have hlk : ∀ L, lookupA Try.prog 86 (.map i5) (.agg [I x.sp, I (bif decide (x.sp < 0) then x.bl else 0), I x.ce]) false (H ++ L) = some (keptV K x.spot) := fun L => look_kept h.inv.h5 x.spot L
  have hix : ∀ o L, Ev Try.prog C4 45 [keptV K x.spot, fn46 H.length] (H ++ (.cells [I x.sp, I x.bl, I x.ce, I x.th, I x.ki, I x.ph] 36 :: o :: L)) = some (I (idxOf (firstAt (fun y => y.clash x) (keptL K x.spot) 0)), H ++ (.cells [I x.sp, I x.bl, I x.ce, I x.th, I x.ki, I x.ph] 36 :: o :: L)) := fun o L =>
    k4_idx (x := x) ((h.inv.kok.evs x.spot).more _) (by rw [rd_app0]; rfl) hnl
  have hhas : ∀ L, Ev Try.prog C4 48 [keptV K x.spot, .agg [I x.sp, I x.bl, I x.ce, I x.th, I x.ki, I x.ph]] (H ++ L) = some (.bool ((keptL K x.spot).any x.eqv), H ++ L) := fun L => k4_has (x := x) ((h.inv.kok.evs x.spot).more L) hnl
  rw [hno] at hix
  simp only [idxOf] at hix
  have zpos : decide (((i : Nat) : Int) ≥ 0) = true := by simp
  have h4 := h.inv.t4
  obtain ⟨H6, hH6⟩ : ∃ H6, H6 = H.set i6 (.map (foundE (F ++ [(x.spot, c6)])) (c6 + 1)) := ⟨_, rfl⟩
  have hl6 := lt_of_get h.inv.h6
  have h6len : H6.length = H.length := by rw [hH6, List.length_set]
  have hmp : ∀ L, mapPutA Try.prog 87 (.map i6) (.agg [I x.sp, I (bif decide (x.sp < 0) then x.bl else 0), I x.ce]) (.bool true) (H ++ L) = some (H6 ++ L) := fun L => by rw [hH6]; exact put_found h.inv.h6 hf L
  rw [el16_0, hH]
  simp -implicitDefEqProofs only [b16_0, atPath, Try.f16, Option.getD_some, hlen, h16, h17, h18, h5, h6, hlt, hw, hi, hrd, kc, hlf, ↓fc44, ↓fc45, ↓fc48, hlk, hix, hmp, zpos, ↓ld36, ↓ld34, ↓ld89, ↓ld3, ↓st36, ↓st34, ↓st89, ↓st3, z36, z34, z89, fa36_0, fa36_1, boolOf_undef, nb, ↓q_not, ↓aop_lookup, ↓aop_makeFunc, ↓aop_mapUpdate, ↓aop_mapEntry, ↓aop_entryStore, ↓aop_buildSlice, ↓aop_extract, ↓EvC_seq, ↓EvC_skip, ↓EvC_exit, ↓EvC_ret, ↓EvC_block, ↓EvC_cond, ↓ev_region, ↓runL_cons, ↓runL_nil, ↓stepO_none, ↓stepO_guard, ↓aop_move, ↓aop_assign, ↓aop_load, ↓aop_store, ↓aop_alloc, ↓aop_box, ↓aop_nilCheck, ↓aop_fieldAddr, ↓aop_field, ↓aop_indexAddr, ↓aop_binOp, ↓aop_pick, ↓aop_extract, ↓aop_buildSlice, ↓aop_slice, ↓aop_not, ↓aop_call, ↓callA_len, ↓callA_append, ev_tmp, ev_const, ofV_int, ofV_bool, ofV_str, ofV_nilSlice, ofV_nilPtr, putA_some, putA_none, gs_self, gs_ne, List.length_set, Option.bind_some, Option.map_some, intBinA, evL, evO, evP, ne_eq, not_false_eq_true, if_true, if_false, reduceCtorEq, ite_true, ite_false, reduceIte, put_app, AV.cells, and_true, true_and, and_self, decide_true, decide_false, ↓yielded_eq, yv_some, boolOf_bool, List.getElem?_toArray, List.getElem?_cons_zero, List.getElem?_cons_succ, Nat.reduceLT, Nat.reduceEqDiff, beq_self_eq_true, Option.some_beq_some, wr_app, wr_app0, rd_app, rd_app0, rdL_here, rdL_next, wrL_here, wrL_next, spl, List.all_cons, List.all_nil, AV.one, Bool.and_self, Bool.true_and, List.drop_zero, List.take_succ_cons, List.take_zero, List.drop_succ_cons, List.head?_cons, Nat.reduceAdd, Nat.reduceLeDiff, List.length_cons, List.length_nil, List.nil_append, List.cons_append, List.set_cons_zero, List.set_cons_succ, Int.toNat_natCast, Nat.add_zero, b_ft, b_tf, Bool.false_eq_true, ↓rp_done, ↓rp_take, ↓rp_all, ↓ra_nil, ↓ra_first, ↓ra_next, ↓quietO_none, ↓quietO_guard, ↓q_move, ↓q_assign, ↓q_pick, ↓q_binOp, ↓q_field, ↓q_fieldAddr, ↓q_indexAddr, ↓q_nilCheck, set_order, keepV_eq, stBeq_self, ↓rp_graft, put_slot, put_slot_app, List.length_append, List.append_assoc, Nat.add_assoc, ↓aop_build, evP, Bool.true_and, Bool.and_true, Bool.false_and, Bool.and_false, Bool.true_or, Bool.or_true, Bool.false_or, Bool.or_false, Bool.not_true, Bool.not_false]
  generalize hX : EvC Try.prog C4 (Code.region 14 _ true) _ = X
  obtain ⟨kk, ha, hkl⟩ : ∃ kk, at? K x.spot = some kk ∧ keptL K x.spot = kk.evs := by
    unfold keptL at hy ⊢
    cases ha : at? K x.spot with
    | none => rw [ha] at hy; simp at hy
    | some kk => exact ⟨kk, rfl, rfl⟩
  rw [hkl] at hy
  have hkv : keptV K x.spot = kk.sl := by unfold keptV; rw [ha]
  obtain ⟨_, _, hkc⟩ := h.inv.kok.cells kk (List.mem_of_find?_eq_some ha)
  have hkc6 : H6[kk.blk]? = some (.cells (flat6 kk.evs) 36) := by
    rw [hH6, List.getElem?_set_ne (fun e => ?_)]
    · exact hkc
    · have := h.inv.h6; rw [e, hkc] at this; cases this
  have h56 : H6[i5]? = some (.map (K.map K4.ent) c5) := by
    rw [hH6, List.getElem?_set_ne (fun e => h.inv.ne e.symm)]
    exact h.inv.h5
  have hiy := lt_of_get hy
  have hry := rd_flat hkc6 hy
  have hon := h.inv.on
  obtain ⟨Gd, hGd⟩ : ∃ Gd, Gd = delO O H6 bo := ⟨_, rfl⟩
  have hap : appendA Try.prog (some ((H6 ++ [AObj.cells [I x.sp, I x.bl, I x.ce, I x.th, I x.ki, I x.ph] 36, .cells [I x.sp, I (bif decide (x.sp < 0) then x.bl else 0), I x.ce] 89]).length + 12)) 24 (some 24) (outV O bo) (.slice ((H6 ++ [AObj.cells [I x.sp, I x.bl, I x.ce, I x.th, I x.ki, I x.ph] 36, .cells [I x.sp, I (bif decide (x.sp < 0) then x.bl else 0), I x.ce] 89]).length + 11) 0 10 1 1 true) ((H6 ++ [AObj.cells [I x.sp, I x.bl, I x.ce, I x.th, I x.ki, I x.ph] 36, .cells [I x.sp, I (bif decide (x.sp < 0) then x.bl else 0), I x.ce] 89]) ++ [.fresh, .fresh, .fresh, .fresh, .fresh, .fresh, .fresh, .fresh, .fresh, .fresh, .fresh, .cells [I y.sp, I y.bl, I y.ce, I y.th, I y.ki, I x.sp, I x.bl, I x.ce, I x.th, I x.ki] 38, .fresh, .fresh]) =
      some (outV (O ++ [(y, x)]) (H.length + 14), (Gd ++ [AObj.cells [I x.sp, I x.bl, I x.ce, I x.th, I x.ki, I x.ph] 36, .cells [I x.sp, I (bif decide (x.sp < 0) then x.bl else 0), I x.ce] 89]) ++ [.fresh, .fresh, .fresh, .fresh, .fresh, .fresh, .fresh, .fresh, .fresh, .fresh, .fresh, .cells [I y.sp, I y.bl, I y.ce, I y.th, I y.ki, I x.sp, I x.bl, I x.ce, I x.th, I x.ki] 38, .cells (flatR (O ++ [(y, x)])) 38, .fresh]) := by
    have hg : growOk (Try.prog.bytesOf 38) (O.length + 1) = true := by rw [by38]; simp [growOk]; omega
    have hrx : rdCells ((H6 ++ [AObj.cells [I x.sp, I x.bl, I x.ce, I x.th, I x.ki, I x.ph] 36, .cells [I x.sp, I (bif decide (x.sp < 0) then x.bl else 0), I x.ce] 89]) ++ [.fresh, .fresh, .fresh, .fresh, .fresh, .fresh, .fresh, .fresh, .fresh, .fresh, .fresh, .cells [I y.sp, I y.bl, I y.ce, I y.th, I y.ki, I x.sp, I x.bl, I x.ce, I x.th, I x.ki] 38, .fresh, .fresh]) ((H6 ++ [AObj.cells [I x.sp, I x.bl, I x.ce, I x.th, I x.ki, I x.ph] 36, .cells [I x.sp, I (bif decide (x.sp < 0) then x.bl else 0), I x.ce] 89]).length + 11) 0 10 = some [I y.sp, I y.bl, I y.ce, I y.th, I y.ki, I x.sp, I x.bl, I x.ce, I x.th, I x.ki] := by
      rw [rd_app]; rfl
    cases hO : O with
    | nil =>
      rw [hO] at hGd hg
      simp only [delO] at hGd
      rw [hGd]
      refine (app_first appT24 hrx hg (i := H.length + 14) (G' := (H6 ++ [AObj.cells [I x.sp, I x.bl, I x.ce, I x.th, I x.ki, I x.ph] 36, .cells [I x.sp, I (bif decide (x.sp < 0) then x.bl else 0), I x.ce] 89]) ++ [.fresh, .fresh, .fresh, .fresh, .fresh, .fresh, .fresh, .fresh, .fresh, .fresh, .fresh, .cells [I y.sp, I y.bl, I y.ce, I y.th, I y.ki, I x.sp, I x.bl, I x.ce, I x.th, I x.ki] 38, .cells (flatR ([] ++ [(y, x)])) 38, .fresh]) ?_)
      rw [put_slot_app]
      simp [put_slot, h6len, flatR, rcells]
    | cons p O' =>
      rw [hO] at hGd hg
      simp only [delO] at hGd
      obtain ⟨_, hbo⟩ := h.inv.out (by rw [hO]; simp)
      rw [hO] at hbo
      have hbo6 : H6[bo]? = some (.cells (flatR (p :: O')) 38) := by
        rw [hH6, List.getElem?_set_ne (fun e => ?_)]
        · exact hbo
        · have := h.inv.h6; rw [e, hbo] at this; cases this
      have hbl := lt_of_get hbo6
      refine (app_more appT24 (old := flatR (p :: O')) (blk := bo) (n := (p :: O').length) (by rw [List.append_assoc, List.getElem?_append_left hbl]; exact hbo6) (flatR_length _) hrx rfl hg (i := H.length + 14) (G' := (Gd ++ [AObj.cells [I x.sp, I x.bl, I x.ce, I x.th, I x.ki, I x.ph] 36, .cells [I x.sp, I (bif decide (x.sp < 0) then x.bl else 0), I x.ce] 89]) ++ [.fresh, .fresh, .fresh, .fresh, .fresh, .fresh, .fresh, .fresh, .fresh, .fresh, .fresh, .cells [I y.sp, I y.bl, I y.ce, I y.th, I y.ki, I x.sp, I x.bl, I x.ce, I x.th, I x.ki] 38, .cells (flatR ((p :: O') ++ [(y, x)])) 38, .fresh]) ?_).trans ?_
      · rw [List.append_assoc, List.set_append_left _ _ hbl, ← hGd, ← List.append_assoc]
        have hgl : Gd.length = H6.length := by rw [hGd, List.length_set]
        rw [show (H6 ++ [AObj.cells [I x.sp, I x.bl, I x.ce, I x.th, I x.ki, I x.ph] 36, .cells [I x.sp, I (bif decide (x.sp < 0) then x.bl else 0), I x.ce] 89]).length = (Gd ++ [AObj.cells [I x.sp, I x.bl, I x.ce, I x.th, I x.ki, I x.ph] 36, .cells [I x.sp, I (bif decide (x.sp < 0) then x.bl else 0), I x.ce] 89]).length by simp [hgl], put_slot_app]
        rw [flatR_snoc]
        simp [put_slot, hgl, h6len, rcells]
      · simp [outV]
  obtain ⟨tm', he, hl', g4, hk⟩ := reg14' (O := O) hX (by simp only [List.length_set, hlen]) (by simp only [hlen, h4, gs_self, gs_ne, List.length_set, ne_eq, Nat.reduceEqDiff, Nat.reduceLT, not_false_eq_true]) (by simp only [hlen, h5, gs_self, gs_ne, List.length_set, ne_eq, Nat.reduceEqDiff, Nat.reduceLT, not_false_eq_true]) (by simp only [hlen, gs_self, gs_ne, List.length_set, ne_eq, Nat.reduceEqDiff, Nat.reduceLT, not_false_eq_true]) (by simp only [hlen, gs_self, gs_ne, List.length_set, ne_eq, Nat.reduceEqDiff, Nat.reduceLT, not_false_eq_true]) (by simp only [hlen, gs_self, gs_ne, List.length_set, ne_eq, Nat.reduceEqDiff, Nat.reduceLT, not_false_eq_true])
    (i5 := i5) (g8 := H.length) (g9 := H.length + 1) (i := i) (blk := kk.blk) (x := x) (y := y) (fun L => by rw [← h6len, List.append_assoc, rd_app]; rfl) (fun L => by rw [← h6len, List.append_assoc, rd_app0]; rfl) (fun L => by rw [List.append_assoc]; exact look_kept h56 x.spot _)
    (by rw [hkv, K4.sl, ia22, if_pos ⟨by omega, by omega, rfl⟩]; simp) (fun L => by rw [List.append_assoc]; have := rd_sub (rd_old hry ([AObj.cells [I x.sp, I x.bl, I x.ce, I x.th, I x.ki, I x.ph] 36, .cells [I x.sp, I (bif decide (x.sp < 0) then x.bl else 0), I x.ce] 89] ++ L)) 0 5 (by omega); simpa [E6.cells] using this) hap
  subst he
  have z16 := hk 16 (by simp)
  have z17 := hk 17 (by simp)
  have z18 := hk 18 (by simp)
  have z5 := hk 5 (by simp)
  have z6 := hk 6 (by simp)
  simp only [hlen, gs_self, gs_ne, List.length_set, ne_eq, Nat.reduceEqDiff, Nat.reduceLT, not_false_eq_true] at z16 z17 z18 z5 z6
  refine ⟨Gd, by rw [hGd, hH6], ?_⟩
  simp -implicitDefEqProofs only [hl', z18, h18, hw, ↓EvC_seq, ↓EvC_skip, ↓EvC_exit, ↓EvC_ret, ↓EvC_block, ↓EvC_cond, ↓ev_region, ↓runL_cons, ↓runL_nil, ↓stepO_none, ↓stepO_guard, ↓aop_move, ↓aop_assign, ↓aop_load, ↓aop_store, ↓aop_alloc, ↓aop_box, ↓aop_nilCheck, ↓aop_fieldAddr, ↓aop_field, ↓aop_indexAddr, ↓aop_binOp, ↓aop_pick, ↓aop_extract, ↓aop_buildSlice, ↓aop_slice, ↓aop_not, ↓aop_call, ↓callA_len, ↓callA_append, ev_tmp, ev_const, ofV_int, ofV_bool, ofV_str, ofV_nilSlice, ofV_nilPtr, putA_some, putA_none, gs_self, gs_ne, List.length_set, Option.bind_some, Option.map_some, intBinA, evL, evO, evP, ne_eq, not_false_eq_true, if_true, if_false, reduceCtorEq, ite_true, ite_false, reduceIte, put_app, AV.cells, and_true, true_and, and_self, decide_true, decide_false, ↓yielded_eq, yv_some, boolOf_bool, List.getElem?_toArray, List.getElem?_cons_zero, List.getElem?_cons_succ, Nat.reduceLT, Nat.reduceEqDiff, beq_self_eq_true, Option.some_beq_some, wr_app, wr_app0, rd_app, rd_app0, rdL_here, rdL_next, wrL_here, wrL_next, spl, List.all_cons, List.all_nil, AV.one, Bool.and_self, Bool.true_and, List.drop_zero, List.take_succ_cons, List.take_zero, List.drop_succ_cons, List.head?_cons, Nat.reduceAdd, Nat.reduceLeDiff, List.length_cons, List.length_nil, List.nil_append, List.cons_append, List.set_cons_zero, List.set_cons_succ, Int.toNat_natCast, Nat.add_zero, b_ft, b_tf, Bool.false_eq_true, List.append_assoc]
  refine ⟨_, rfl, by simp only [List.length_set, hl'], by simp only [hl', g4, gs_self, gs_ne, List.length_set, ne_eq, Nat.reduceEqDiff, Nat.reduceLT, not_false_eq_true], (fun t ht => ?_), by simp only [hl', gs_self, gs_ne, List.length_set, ne_eq, Nat.reduceEqDiff, Nat.reduceLT, not_false_eq_true]⟩
  simp only [List.mem_cons, List.not_mem_nil, or_false] at ht
  rcases ht with rfl | rfl | rfl | rfl <;> simp only [hl', z16, z17, z5, z6, gs_self, gs_ne, List.length_set, ne_eq, Nat.reduceEqDiff, Nat.reduceLT, not_false_eq_true]
end Go.Dv

/- One round of race.Find's loop does one step of the model; the loop (own work). -/
namespace Go.Dv
open Go.Proofs
set_option maxRecDepth 100000
set_option linter.unusedSimpArgs false
set_option linter.unusedVariables false

theorem firstAt_get (p : E6 → Bool) : ∀ (l : List E6) (n i : Nat), firstAt p l n = some i → ∃ y, n ≤ i ∧ l[i - n]? = some y ∧ p y = true
  | [], n, i, h => by simp [firstAt] at h
  | x :: xs, n, i, h => by
    simp only [firstAt] at h
    split at h
    · rename_i hp
      cases h
      exact ⟨x, Nat.le_refl _, by simp, hp⟩
    · obtain ⟨y, h1, h2, h3⟩ := firstAt_get p xs (n + 1) i h
      exact ⟨y, by omega, by rw [show i - n = (i - (n + 1)) + 1 by omega]; exact h2, h3⟩

theorem nodup_set {α : Type} {v : α} : ∀ {l : List α} (j : Nat), l.Nodup → v ∉ l → (l.set j v).Nodup
  | [], j, h, hv => by simp
  | a :: l, 0, h, hv => by
    simp only [List.set_cons_zero, List.nodup_cons] at h ⊢
    exact ⟨fun hm => hv (by simp [hm]), h.2⟩
  | a :: l, j + 1, h, hv => by
    simp only [List.set_cons_succ, List.nodup_cons] at h ⊢
    refine ⟨fun hm => ?_, nodup_set j h.2 fun hm => hv (by simp [hm])⟩
    rcases List.mem_or_eq_of_mem_set hm with hm | he
    · exact h.1 hm
    · exact hv (by simp [he])

theorem set_same {α : Type} {l : List α} {j : Nat} {a : α} (h : l[j]? = some a) : l.set j a = l := by
  apply List.ext_getElem?
  intro q
  rw [List.getElem?_set]
  split
  · rename_i hq
    subst hq
    rw [h]
    simp [lt_of_get h]
  · rfl

theorem mem_set_get {α : Type} {l : List α} {j : Nat} {a b : α} (h : b ∈ l.set j a) : b = a ∨ ∃ q, q ≠ j ∧ l[q]? = some b := by
  obtain ⟨q, hq⟩ := List.mem_iff_getElem?.1 h
  rw [List.getElem?_set] at hq
  split at hq
  · split at hq
    · cases hq; exact .inl rfl
    · cases hq
  · rename_i hne
    exact .inr ⟨q, fun e => hne e.symm, hq⟩

theorem nodup_ne {α β : Type} {f : α → β} {l : List α} (h : (l.map f).Nodup) {q j : Nat} {a b : α} (hq : l[q]? = some a) (hj : l[j]? = some b) (hne : q ≠ j) : f a ≠ f b := by
  intro e
  have h1 := lt_of_get hq
  have h2 := lt_of_get hj
  rw [List.getElem?_eq_getElem h1] at hq
  rw [List.getElem?_eq_getElem h2] at hj
  have hp := List.pairwise_iff_getElem.1 h
  rcases Nat.lt_or_gt_of_ne hne with hl | hl
  · exact hp q j (by simpa using h1) (by simpa using h2) hl (by simp [Option.some.inj hq, Option.some.inj hj, e])
  · exact hp j q (by simpa using h2) (by simpa using h1) hl (by simp [Option.some.inj hq, Option.some.inj hj, e])

theorem keptL_set {K : List K4} {j : Nat} {kk : K4} (hj : K[j]? = some kk) (hn : (K.map K4.s).Nodup) (evs : List E6) (blk : Nat) (s : S3) :
    keptL (K.set j ⟨kk.s, evs, blk, kk.born⟩) s = if s = kk.s then evs else keptL K s := by
  induction K generalizing j with
  | nil => simp at hj
  | cons k K ih =>
    simp only [List.map_cons, List.nodup_cons] at hn
    cases j with
    | zero =>
      simp at hj
      subst hj
      simp only [List.set_cons_zero, keptL, at?, List.find?_cons]
      by_cases h : s = k.s <;> simp [h]
    | succ j =>
      simp only [List.getElem?_cons_succ] at hj
      have hmem : kk ∈ K := List.mem_of_getElem? hj
      have hks : k.s ≠ kk.s := fun e => hn.1 (by rw [e]; exact List.mem_map.2 ⟨kk, hmem, rfl⟩)
      have := ih hj hn.2
      simp only [keptL, at?] at this
      simp only [List.set_cons_succ, keptL, at?, List.find?_cons]
      by_cases h : s = k.s
      · subst h
        simp [hks]
      · simp only [h, decide_false]
        exact this

theorem keptL_snoc {K : List K4} {s0 : S3} (ha : at? K s0 = none) (evs : List E6) (blk born : Nat) (s : S3) :
    keptL (K ++ [⟨s0, evs, blk, born⟩]) s = if s = s0 then evs else keptL K s := by
  unfold keptL
  simp only [at?] at ha ⊢
  rw [List.find?_append]
  by_cases h : s = s0
  · subst h
    rw [ha]
    simp
  · simp only [h, if_false]
    cases K.find? fun k => decide (s = k.s) with
    | none => simp [h]
    | some k => rfl

section
variable {H0 : AH} {v : AV} {n : Nat} {tm : List AV} {H : AH} {k : Nat} {K : List K4} {F : List (S3 × Nat)} {O : List (E6 × E6)} {i5 i6 bo c5 c6 : Nat} {x : E6} {ie ke : Nat}

theorem FInv.ne5 (h : FInv H0 v n tm H k K F O i5 i6 bo c5 c6) {kk : K4} (hk : kk ∈ K) : kk.blk ≠ i5 ∧ kk.blk ≠ i6 ∧ (O ≠ [] → kk.blk ≠ bo) := by
  obtain ⟨_, _, hc⟩ := h.kok.cells kk hk
  refine ⟨fun e => ?_, fun e => ?_, fun ho e => ?_⟩
  · have := h.h5; rw [← e, hc] at this; cases this
  · have := h.h6; rw [← e, hc] at this; cases this
  · have := (h.out ho).2; rw [← e, hc] at this; injection this with this; injection this with _ this; cases this
theorem FInv.neO (h : FInv H0 v n tm H k K F O i5 i6 bo c5 c6) (ho : O ≠ []) : bo ≠ i5 ∧ bo ≠ i6 := by
  refine ⟨fun e => ?_, fun e => ?_⟩
  · have := h.h5; rw [← e, (h.out ho).2] at this; cases this
  · have := h.h6; rw [← e, (h.out ho).2] at this; cases this

theorem delO_get (O : List (E6 × E6)) (G : AH) (bo j : Nat) (h : O ≠ [] → bo ≠ j) : (delO O G bo)[j]? = G[j]? := by
  cases O with
  | nil => rfl
  | cons p O => exact List.getElem?_set_ne (h (by simp))
theorem delO_len (O : List (E6 × E6)) (G : AH) (bo : Nat) : (delO O G bo).length = G.length := by
  cases O with
  | nil => rfl
  | cons p O => exact List.length_set

theorem find_round (h : FRead H0 v n tm H k K F O i5 i6 bo c5 c6 x ie ke) :
    ∃ tm' H' K' F' O' bo' c5' c6', EvC Try.prog C4 l16_0 (tm, H) = EvC Try.prog C4 l16_0 (tm', H') ∧ FInv H0 v n tm' H' (k + 1) K' F' O' i5 i6 bo' c5' c6' ∧ absF K' F' O' = (absF K F O).step x := by
  have hI := h.inv
  by_cases hf : x.spot ∈ F.map (·.1)
  · obtain ⟨tm', L, he, hi⟩ := find_skip h hf
    have e : (absF K F O).found x.spot = true := decide_eq_true hf
    refine ⟨tm', _, _, _, _, _, _, _, he, hi, ?_⟩
    unfold FS.step
    rw [if_pos e]
  · have hstep : (absF K F O).found x.spot = false := decide_eq_false hf
    cases hno : firstAt (fun y => y.clash x) (keptL K x.spot) 0 with
    | some i =>
      obtain ⟨y, _, hy, _⟩ := firstAt_get _ _ _ _ hno
      rw [Nat.sub_zero] at hy
      obtain ⟨Gd, hGd, tm', he, hl', g4, hk, g18⟩ := find_race h hf hno hy
      have hGl : Gd.length = H.length := by rw [hGd, delO_len, List.length_set]
      have hG : ∀ j, j ≠ i6 → (O ≠ [] → bo ≠ j) → Gd[j]? = H[j]? := fun j h1 h2 => by
        rw [hGd, delO_get _ _ _ _ h2, List.getElem?_set_ne (fun e => h1 e.symm)]
      have hG6 : Gd[i6]? = some (.map (foundE (F ++ [(x.spot, c6)])) (c6 + 1)) := by
        rw [hGd, delO_get _ _ _ _ (fun ho => (hI.neO ho).2), List.getElem?_set_self (lt_of_get hI.h6)]
      have hkeep : ∀ {j : Nat} {o : AObj}, H[j]? = some o → j ≠ i6 → (O ≠ [] → bo ≠ j) → ∀ L : AH, (Gd ++ L)[j]? = some o := fun hj h1 h2 L => by
        rw [List.getElem?_append_left (by rw [hGl]; exact lt_of_get hj), hG _ h1 h2]; exact hj
      refine ⟨tm', _, K, F ++ [(x.spot, c6)], O ++ [(y, x)], H.length + 14, c5, c6 + 1, he, ?_, ?_⟩
      · refine ⟨hl', (hk 16 (by simp)).trans hI.t16, (hk 17 (by simp)).trans hI.t17, g18, (hk 5 (by simp)).trans hI.t5, (hk 6 (by simp)).trans hI.t6, g4, ?_, fun j hj => ?_, hI.b5, hI.b6, ?_, ?_, hI.ne, ⟨fun kk hkk => ?_, hI.kok.blks, hI.kok.borns, hI.kok.lt, hI.kok.spots, hI.kok.spot⟩, fun _ => ⟨by have := hI.hb; omega, ?_⟩, fun kk hkk => Nat.le_succ_of_le (hI.kn kk hkk), by have := hI.on; simp; omega⟩
        · rw [List.length_append, hGl]; have := hI.hb; omega
        · rw [List.getElem?_append_left (by rw [hGl]; have := hI.hb; omega), hG j (by have := hI.b6; omega) (fun ho => by have := (hI.out ho).1; omega)]
          exact hI.keep j hj
        · exact hkeep hI.h5 hI.ne (fun ho => (hI.neO ho).1) _
        · rw [List.getElem?_append_left (by rw [hGl]; exact lt_of_get hI.h6)]; exact hG6
        · obtain ⟨h1, h2, h3⟩ := hI.kok.cells kk hkk
          obtain ⟨e5, e6, eo⟩ := hI.ne5 hkk
          exact ⟨h1, h2, hkeep h3 e6 (fun ho e => eo ho e.symm) _⟩
        · rw [List.getElem?_append_right (by omega), hGl, Nat.add_sub_cancel_left]; rfl
      · simp only [FS.step]
        rw [if_neg (by rw [hstep]; simp)]
        simp only [absF, hno, hy, Option.map_some, Option.toList_some]
        congr 1
        funext s
        rw [Bool.eq_iff_iff]
        simp [or_comm]
    | none =>
      cases hin : (keptL K x.spot).any x.eqv with
      | true =>
        obtain ⟨tm', L, he, hi⟩ := find_same h hf hno hin
        refine ⟨tm', _, _, _, _, _, _, _, he, hi, ?_⟩
        simp only [FS.step]
        rw [if_neg (by rw [hstep]; simp)]
        simp only [absF, hno, hin, if_true]
      | false =>
        cases ha : at? K x.spot with
        | some kk =>
          obtain ⟨j, _, hj, hks⟩ := at_some ha
          have hmem := List.mem_of_getElem? hj
          obtain ⟨tm', he, hl', hk, g18⟩ := find_keep_old h hf hno hin ha hj
          obtain ⟨e5, e6, eo⟩ := hI.ne5 hmem
          obtain ⟨hb1, hb2, hb3⟩ := hI.kok.cells kk hmem
          have hKe : (K.map K4.ent).set j (kk.s.av, AV.slice (H.length + 3) 0 6 (kk.evs.length + 1) (kk.evs.length + 1) false, kk.born) = (K.set j ⟨kk.s, kk.evs ++ [x], H.length + 3, kk.born⟩).map K4.ent := by
            rw [List.map_set]; simp [K4.ent, K4.sl]
          rw [hKe] at he
          have hl5 := lt_of_get hI.h5
          have hG : ∀ {q : Nat} {o : AObj}, H[q]? = some o → q ≠ i5 → q ≠ kk.blk → ∀ (es : List (AV × AV × Nat)) (c : Nat) (L : AH), ((H.set kk.blk .dead).set i5 (.map es c) ++ L)[q]? = some o := fun hq h1 h2 es c L => by
            rw [List.getElem?_append_left (by simp only [List.length_set]; exact lt_of_get hq), List.getElem?_set_ne (fun e => h1 e.symm), List.getElem?_set_ne (fun e => h2 e.symm)]; exact hq
          refine ⟨tm', _, K.set j ⟨kk.s, kk.evs ++ [x], H.length + 3, kk.born⟩, F, O, bo, c5, c6, he, ?_, ?_⟩
          · refine ⟨hl', (hk 16 (by simp)).trans hI.t16, (hk 17 (by simp)).trans hI.t17, g18, (hk 5 (by simp)).trans hI.t5, (hk 6 (by simp)).trans hI.t6, (hk 4 (by simp)).trans hI.t4, ?_, fun q hq => ?_, hI.b5, hI.b6, ?_, ?_, hI.ne, ⟨fun k' hk' => ?_, ?_, ?_, fun k' hk' => ?_, ?_, fun k' hk' => ?_⟩, fun ho => ?_, fun k' hk' => ?_, Nat.le_succ_of_le hI.on⟩
            · simp only [List.length_append, List.length_set]; have := hI.hb; omega
            · obtain ⟨o, ho⟩ : ∃ o, H[q]? = some o := ⟨_, List.getElem?_eq_getElem (by have := hI.hb; omega)⟩
              rw [hG ho (by have := hI.b5; omega) (by omega), ← ho]
              exact hI.keep q hq
            · rw [List.getElem?_append_left (by simpa using hl5), List.getElem?_set_self (by simpa using hl5)]
            · exact hG hI.h6 (fun e => hI.ne e.symm) (fun e => e6 e.symm) _ _ _
            · rcases mem_set_get hk' with rfl | ⟨q, hqj, hq⟩
              · refine ⟨by have := hI.hb; simp only; omega, by simp, ?_⟩
                simp only
                rw [List.getElem?_append_right (by simp), List.length_set, List.length_set, Nat.add_sub_cancel_left]; rfl
              · have hm := List.mem_of_getElem? hq
                obtain ⟨a1, a2, a3⟩ := hI.kok.cells k' hm
                exact ⟨a1, a2, hG a3 (hI.ne5 hm).1 (nodup_ne hI.kok.blks hq hj hqj) _ _ _⟩
            · rw [List.map_set]
              refine nodup_set _ hI.kok.blks fun hm => ?_
              obtain ⟨k', hk', e⟩ := List.mem_map.1 hm
              have := lt_of_get (hI.kok.cells k' hk').2.2
              simp only at e
              omega
            · rw [List.map_set, set_same (by rw [List.getElem?_map, hj]; rfl)]
              exact hI.kok.borns
            · rcases mem_set_get hk' with rfl | ⟨q, _, hq⟩
              · exact hI.kok.lt kk hmem
              · exact hI.kok.lt k' (List.mem_of_getElem? hq)
            · rw [List.map_set, set_same (by rw [List.getElem?_map, hj]; rfl)]
              exact hI.kok.spots
            · rcases mem_set_get hk' with rfl | ⟨q, _, hq⟩
              · intro e he'
                simp only [List.mem_append, List.mem_singleton] at he'
                rcases he' with he' | rfl
                · exact hI.kok.spot kk hmem e he'
                · exact hks.symm
              · exact hI.kok.spot k' (List.mem_of_getElem? hq)
            · exact ⟨(hI.out ho).1, hG (hI.out ho).2 (hI.neO ho).1 (fun e => eo ho e.symm) _ _ _⟩
            · rcases mem_set_get hk' with rfl | ⟨q, _, hq⟩
              · have := hI.kn kk hmem; simp; omega
              · exact Nat.le_succ_of_le (hI.kn k' (List.mem_of_getElem? hq))
          · simp only [FS.step]
            rw [if_neg (by rw [hstep]; simp)]
            simp only [absF, hno, hin]
            simp only [Bool.false_eq_true, if_false]
            congr 1
            funext s
            rw [keptL_set hj hI.kok.spots, hks]
            by_cases hs : s = x.spot
            · simp only [hs, if_true]
              simp [keptL, ha]
            · simp only [hs, if_false]
        | none =>
          obtain ⟨tm', he, hl', hk, g18⟩ := find_keep_new h hf ha
          have hKe : K.map K4.ent ++ [(x.spot.av, AV.slice (H.length + 3) 0 6 1 1 false, c5)] = (K ++ [(⟨x.spot, [x], H.length + 3, c5⟩ : K4)]).map K4.ent := by simp [K4.ent, K4.sl]
          rw [hKe] at he
          have hl5 := lt_of_get hI.h5
          have hG : ∀ {q : Nat} {o : AObj}, H[q]? = some o → q ≠ i5 → ∀ (es : List (AV × AV × Nat)) (c : Nat) (L : AH), (H.set i5 (.map es c) ++ L)[q]? = some o := fun hq h1 es c L => by
            rw [List.getElem?_append_left (by simp only [List.length_set]; exact lt_of_get hq), List.getElem?_set_ne (fun e => h1 e.symm)]; exact hq
          refine ⟨tm', _, K ++ [⟨x.spot, [x], H.length + 3, c5⟩], F, O, bo, c5 + 1, c6, he, ?_, ?_⟩
          · refine ⟨hl', (hk 16 (by simp)).trans hI.t16, (hk 17 (by simp)).trans hI.t17, g18, (hk 5 (by simp)).trans hI.t5, (hk 6 (by simp)).trans hI.t6, (hk 4 (by simp)).trans hI.t4, ?_, fun q hq => ?_, hI.b5, hI.b6, ?_, ?_, hI.ne, ⟨fun k' hk' => ?_, ?_, ?_, fun k' hk' => ?_, ?_, fun k' hk' => ?_⟩, fun ho => ?_, fun k' hk' => ?_, Nat.le_succ_of_le hI.on⟩
            · simp only [List.length_append, List.length_set]; have := hI.hb; omega
            · obtain ⟨o, ho⟩ : ∃ o, H[q]? = some o := ⟨_, List.getElem?_eq_getElem (by have := hI.hb; omega)⟩
              rw [hG ho (by have := hI.b5; omega), ← ho]
              exact hI.keep q hq
            · rw [List.getElem?_append_left (by simpa using hl5), List.getElem?_set_self (by simpa using hl5)]
            · exact hG hI.h6 (fun e => hI.ne e.symm) _ _ _
            · rcases List.mem_append.1 hk' with hm | hm
              · obtain ⟨a1, a2, a3⟩ := hI.kok.cells k' hm
                exact ⟨a1, a2, hG a3 (hI.ne5 hm).1 _ _ _⟩
              · simp at hm
                subst hm
                refine ⟨by have := hI.hb; simp only; omega, by simp, ?_⟩
                simp only
                rw [List.getElem?_append_right (by simp), List.length_set, Nat.add_sub_cancel_left]; rfl
            · rw [List.map_append, List.nodup_append]
              refine ⟨hI.kok.blks, by simp, fun a ha' b hb e => ?_⟩
              obtain ⟨k', hk', rfl⟩ := List.mem_map.1 ha'
              have := lt_of_get (hI.kok.cells k' hk').2.2
              simp at hb
              omega
            · rw [List.map_append, List.nodup_append]
              refine ⟨hI.kok.borns, by simp, fun a ha' b hb e => ?_⟩
              obtain ⟨k', hk', rfl⟩ := List.mem_map.1 ha'
              have := hI.kok.lt k' hk'
              simp at hb
              omega
            · rcases List.mem_append.1 hk' with hm | hm
              · exact Nat.lt_succ_of_lt (hI.kok.lt k' hm)
              · simp at hm; subst hm; exact Nat.lt_succ_self _
            · rw [List.map_append, List.nodup_append]
              refine ⟨hI.kok.spots, by simp, fun a ha' b hb e => ?_⟩
              obtain ⟨k', hk', rfl⟩ := List.mem_map.1 ha'
              simp at hb
              simp only [at?, List.find?_eq_none, decide_eq_true_eq] at ha
              exact ha k' hk' (by rw [e, hb])
            · rcases List.mem_append.1 hk' with hm | hm
              · exact hI.kok.spot k' hm
              · simp at hm; subst hm; intro e he'; simp at he'; rw [he']
            · exact ⟨(hI.out ho).1, hG (hI.out ho).2 (hI.neO ho).1 _ _ _⟩
            · rcases List.mem_append.1 hk' with hm | hm
              · exact Nat.le_succ_of_le (hI.kn k' hm)
              · simp at hm; subst hm; simp
          · simp only [FS.step]
            rw [if_neg (by rw [hstep]; simp)]
            simp only [absF, hno, hin]
            simp only [Bool.false_eq_true, if_false]
            congr 1
            funext s
            rw [keptL_snoc ha]
            by_cases hs : s = x.spot
            · simp only [hs, if_true]
              simp [keptL, ha]
            · simp only [hs, if_false]
end
end Go.Dv
