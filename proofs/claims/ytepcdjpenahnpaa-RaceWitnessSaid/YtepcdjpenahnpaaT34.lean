/- race.Witness and ref21.Witness, whole; the law RaceWitness on abstract heaps (printed by t34.py, own work). -/
import Derived.Test.YtepcdjpenahnpaaT33
namespace Go.Dv
open Go.Proofs
set_option maxRecDepth 100000
set_option linter.unusedSimpArgs false
set_option linter.unusedVariables false
attribute [local congr] bind_congr_first

def rcells (a b : E6) : List AV := [I a.sp, I a.bl, I a.ce, I a.th, I a.ki, I b.sp, I b.bl, I b.ce, I b.th, I b.ki]
theorem wit_outer' {v : AV} {l : List E6} {a b : E6} {r : Nat} {tm : List AV} {H : AH} {X : Option (AExit × St)} (hX : EvC Try.prog C3 l22_1 (tm, H) = X) (hl : l.length < 2 ^ 62) (hv : EvS H v l)
    (hA : ∀ L, rdCells (H ++ L) r 0 5 = some [I a.sp, I a.bl, I a.ce, I a.th, I a.ki]) (hB : ∀ L, rdCells (H ++ L) r 5 5 = some [I b.sp, I b.bl, I b.ce, I b.th, I b.ki])
    (hlen : tm.length = 61) (h0 : tm.getD 0 undefA = v) (h3 : tm.getD 3 undefA = .ptr r 0) (h15 : tm.getD 15 undefA = v) (h16 : tm.getD 16 undefA = I l.length) (h17 : tm.getD 17 undefA = I ((0 : Nat) : Int)) :
    ∃ e tm' L, X = some (e, (tm', H ++ L)) ∧ tm'.length = 61 ∧
      ((∃ i n, firstPair (fun x y => x.wit y a b) l l 0 = some (i, n) ∧ e = .ret ∧ tm'.getD 4 undefA = I i ∧ tm'.getD 5 undefA = I n ∧ tm'.getD 6 undefA = .bool true ∧ tm'.getD 7 undefA = I 0) ∨
       (firstPair (fun x y => x.wit y a b) l l 0 = none ∧ e = .exit 0)) := by
  subst hX
  have := wit_outer (a := a) (b := b) hl l.length 0 tm H (by omega) (by omega) hv hA hB hlen h0 h3 h15 h16 h17
  simpa using this

theorem ref_wit_outer' {v : AV} {l : List E6} {a b : E6} {r : Nat} {tm : List AV} {H : AH} {X : Option (AExit × St)} (hX : EvC Try.prog C3 l23_1 (tm, H) = X) (hl : l.length < 2 ^ 62) (hv : EvS H v l)
    (hA : ∀ L, rdCells (H ++ L) r 0 5 = some [I a.sp, I a.bl, I a.ce, I a.th, I a.ki]) (hB : ∀ L, rdCells (H ++ L) r 5 5 = some [I b.sp, I b.bl, I b.ce, I b.th, I b.ki])
    (hlen : tm.length = 51) (h0 : tm.getD 0 undefA = v) (h3 : tm.getD 3 undefA = .ptr r 0) (h7 : tm.getD 7 undefA = I ((0 : Nat) : Int)) :
    ∃ e tm' L, X = some (e, (tm', H ++ L)) ∧ tm'.length = 51 ∧
      ((∃ i n, firstPair (fun x y => x.wit' y a b) l l 0 = some (i, n) ∧ e = .ret ∧ tm'.getD 4 undefA = I i ∧ tm'.getD 5 undefA = I n ∧ tm'.getD 6 undefA = .bool true) ∨
       (firstPair (fun x y => x.wit' y a b) l l 0 = none ∧ e = .exit 0)) := by
  subst hX
  have := ref_wit_outer (a := a) (b := b) hl l.length 0 tm H (by omega) (by omega) hv hA hB hlen h0 h3 h7
  simpa using this

def witOf : Option (Nat × Nat) → AV × AV × AV
  | some (i, n) => (I i, I n, .bool true)
  | none => (I 0, I 0, .bool false)

theorem wit_ev {v : AV} {H : AH} {l : List E6} {a b : E6} (hv : EvS H v l) (hl : l.length < 2 ^ 62) : ∃ L, Ev Try.prog C3 22 [v, .agg (rcells a b)] H = some (
    (bif !(decide ((l.length : Int) > 4000)) && !(l.any E6.bad) then .tuple [(witOf (firstPair (fun x y => x.wit y a b) l l 0)).1, (witOf (firstPair (fun x y => x.wit y a b) l l 0)).2.1, (witOf (firstPair (fun x y => x.wit y a b) l l 0)).2.2, I 0] else .tuple [I 0, I 0, .bool false, I 1]), H ++ L) := by
  have g0 : ([v, .agg (rcells a b)] ++ List.replicate (61 - [v, .agg (rcells a b)].length) undefA).length = 61 := by simp
  have g1 : ([v, .agg (rcells a b)] ++ List.replicate (61 - [v, .agg (rcells a b)].length) undefA).getD 0 undefA = v := rfl
  have g2 : ([v, .agg (rcells a b)] ++ List.replicate (61 - [v, .agg (rcells a b)].length) undefA).getD 1 undefA = .agg (rcells a b) := rfl
  have hla := hv.evs.len
  have hval : ∀ L, Ev Try.prog C3 18 [v] (H ++ L) = some (.bool (!(decide ((l.length : Int) > 4000)) && !(l.any E6.bad)), H ++ L) := fun L => valid_ev (hv.more L).evs hl
  have hH : H = H ++ [] := by simp
  rw [fe22]
  generalize [v, .agg (rcells a b)] ++ List.replicate (61 - [v, .agg (rcells a b)].length) undefA = tm at *
  cases hb : (!(decide ((l.length : Int) > 4000)) && !(l.any E6.bad))
  · rw [hb] at hval
    apply Exists.intro
    conv => lhs; rw [hH]
    simp -implicitDefEqProofs only [c22, Try.f22, Option.getD_some, g0, g1, g2, hval, ↓fc18, Bool.not_false, cond_false, ↓EvC_seq, ↓EvC_skip, ↓EvC_exit, ↓EvC_ret, ↓EvC_block, ↓EvC_cond, ↓ev_region, ↓runL_cons, ↓runL_nil, ↓stepO_none, ↓stepO_guard, ↓aop_move, ↓aop_assign, ↓aop_load, ↓aop_store, ↓aop_alloc, ↓aop_box, ↓aop_nilCheck, ↓aop_fieldAddr, ↓aop_field, ↓aop_indexAddr, ↓aop_binOp, ↓aop_pick, ↓aop_extract, ↓aop_buildSlice, ↓aop_slice, ↓aop_not, ↓aop_call, ↓callA_len, ↓callA_append, ev_tmp, ev_const, ofV_int, ofV_bool, ofV_str, ofV_nilSlice, ofV_nilPtr, putA_some, putA_none, gs_self, gs_ne, List.length_set, Option.bind_some, Option.map_some, intBinA, evL, evO, evP, ne_eq, not_false_eq_true, if_true, if_false, reduceCtorEq, ite_true, ite_false, reduceIte, put_app, AV.cells, and_true, true_and, and_self, decide_true, decide_false, ↓yielded_eq, yv_some, boolOf_bool, List.getElem?_toArray, List.getElem?_cons_zero, List.getElem?_cons_succ, Nat.reduceLT, Nat.reduceEqDiff, beq_self_eq_true, Option.some_beq_some, wr_app, wr_app0, rd_app, rd_app0, rdL_here, rdL_next, wrL_here, wrL_next, spl, List.all_cons, List.all_nil, AV.one, Bool.and_self, Bool.true_and, List.drop_zero, List.take_succ_cons, List.take_zero, List.drop_succ_cons, List.head?_cons, Nat.reduceAdd, Nat.reduceLeDiff, List.length_cons, List.length_nil, List.nil_append, List.cons_append, List.set_cons_zero, List.set_cons_succ, Int.toNat_natCast, Nat.add_zero, b_ft, b_tf, Bool.false_eq_true]
    with_reducible rfl
  · rw [hb] at hval
    conv => enter [1, L]; lhs; rw [hH]
    simp -implicitDefEqProofs only [c22, Try.f22, Option.getD_some, g0, g1, g2, hval, hla, ↓fc18, Bool.not_true, cond_true, ↓EvC_seq, ↓EvC_skip, ↓EvC_exit, ↓EvC_ret, ↓EvC_block, ↓EvC_cond, ↓ev_region, ↓runL_cons, ↓runL_nil, ↓stepO_none, ↓stepO_guard, ↓aop_move, ↓aop_assign, ↓aop_load, ↓aop_store, ↓aop_alloc, ↓aop_box, ↓aop_nilCheck, ↓aop_fieldAddr, ↓aop_field, ↓aop_indexAddr, ↓aop_binOp, ↓aop_pick, ↓aop_extract, ↓aop_buildSlice, ↓aop_slice, ↓aop_not, ↓aop_call, ↓callA_len, ↓callA_append, ev_tmp, ev_const, ofV_int, ofV_bool, ofV_str, ofV_nilSlice, ofV_nilPtr, putA_some, putA_none, gs_self, gs_ne, List.length_set, Option.bind_some, Option.map_some, intBinA, evL, evO, evP, ne_eq, not_false_eq_true, if_true, if_false, reduceCtorEq, ite_true, ite_false, reduceIte, put_app, AV.cells, and_true, true_and, and_self, decide_true, decide_false, ↓yielded_eq, yv_some, boolOf_bool, List.getElem?_toArray, List.getElem?_cons_zero, List.getElem?_cons_succ, Nat.reduceLT, Nat.reduceEqDiff, beq_self_eq_true, Option.some_beq_some, wr_app, wr_app0, rd_app, rd_app0, rdL_here, rdL_next, wrL_here, wrL_next, spl, List.all_cons, List.all_nil, AV.one, Bool.and_self, Bool.true_and, List.drop_zero, List.take_succ_cons, List.take_zero, List.drop_succ_cons, List.head?_cons, Nat.reduceAdd, Nat.reduceLeDiff, List.length_cons, List.length_nil, List.nil_append, List.cons_append, List.set_cons_zero, List.set_cons_succ, Int.toNat_natCast, Nat.add_zero, b_ft, b_tf, Bool.false_eq_true]
    generalize hX : EvC Try.prog C3 (Code.loop _) _ = X
    have hA : ∀ L, rdCells ((H ++ [.cells (rcells a b) 38]) ++ L) H.length 0 5 = some [I a.sp, I a.bl, I a.ce, I a.th, I a.ki] := fun L => by rw [List.append_assoc, rd_app0]; rfl
    have hB : ∀ L, rdCells ((H ++ [.cells (rcells a b) 38]) ++ L) H.length 5 5 = some [I b.sp, I b.bl, I b.ce, I b.th, I b.ki] := fun L => by rw [List.append_assoc, rd_app0]; rfl
    obtain ⟨e, tm', L, he, hl', hc⟩ := wit_outer' (a := a) (b := b) (r := H.length) hX hl (hv.more _) hA hB (by simp only [List.length_set, g0]) (by simp only [g0, g1, gs_self, gs_ne, List.length_set, ne_eq, Nat.reduceEqDiff, Nat.reduceLT, not_false_eq_true]) (by simp only [g0, gs_self, gs_ne, List.length_set, ne_eq, Nat.reduceEqDiff, Nat.reduceLT, not_false_eq_true]) (by simp only [g0, gs_self, gs_ne, List.length_set, ne_eq, Nat.reduceEqDiff, Nat.reduceLT, not_false_eq_true]) (by simp only [g0, gs_self, gs_ne, List.length_set, ne_eq, Nat.reduceEqDiff, Nat.reduceLT, not_false_eq_true]) (by simp only [g0, gs_self, gs_ne, List.length_set, ne_eq, Nat.reduceEqDiff, Nat.reduceLT, not_false_eq_true] <;> rfl)
    subst he
    rcases hc with ⟨i, n, hf, rfl, g4, g5, g6, g7⟩ | ⟨hf, rfl⟩
    · refine ⟨[.cells (rcells a b) 38] ++ L, ?_⟩
      rw [hf]
      simp -implicitDefEqProofs only [hl', g4, g5, g6, g7, witOf, List.append_assoc, ↓EvC_seq, ↓EvC_skip, ↓EvC_exit, ↓EvC_ret, ↓EvC_block, ↓EvC_cond, ↓ev_region, ↓runL_cons, ↓runL_nil, ↓stepO_none, ↓stepO_guard, ↓aop_move, ↓aop_assign, ↓aop_load, ↓aop_store, ↓aop_alloc, ↓aop_box, ↓aop_nilCheck, ↓aop_fieldAddr, ↓aop_field, ↓aop_indexAddr, ↓aop_binOp, ↓aop_pick, ↓aop_extract, ↓aop_buildSlice, ↓aop_slice, ↓aop_not, ↓aop_call, ↓callA_len, ↓callA_append, ev_tmp, ev_const, ofV_int, ofV_bool, ofV_str, ofV_nilSlice, ofV_nilPtr, putA_some, putA_none, gs_self, gs_ne, List.length_set, Option.bind_some, Option.map_some, intBinA, evL, evO, evP, ne_eq, not_false_eq_true, if_true, if_false, reduceCtorEq, ite_true, ite_false, reduceIte, put_app, AV.cells, and_true, true_and, and_self, decide_true, decide_false, ↓yielded_eq, yv_some, boolOf_bool, List.getElem?_toArray, List.getElem?_cons_zero, List.getElem?_cons_succ, Nat.reduceLT, Nat.reduceEqDiff, beq_self_eq_true, Option.some_beq_some, wr_app, wr_app0, rd_app, rd_app0, rdL_here, rdL_next, wrL_here, wrL_next, spl, List.all_cons, List.all_nil, AV.one, Bool.and_self, Bool.true_and, List.drop_zero, List.take_succ_cons, List.take_zero, List.drop_succ_cons, List.head?_cons, Nat.reduceAdd, Nat.reduceLeDiff, List.length_cons, List.length_nil, List.nil_append, List.cons_append, List.set_cons_zero, List.set_cons_succ, Int.toNat_natCast, Nat.add_zero, b_ft, b_tf, Bool.false_eq_true]
    · refine ⟨[.cells (rcells a b) 38] ++ L, ?_⟩
      rw [hf]
      simp -implicitDefEqProofs only [hl', witOf, List.append_assoc, ↓EvC_seq, ↓EvC_skip, ↓EvC_exit, ↓EvC_ret, ↓EvC_block, ↓EvC_cond, ↓ev_region, ↓runL_cons, ↓runL_nil, ↓stepO_none, ↓stepO_guard, ↓aop_move, ↓aop_assign, ↓aop_load, ↓aop_store, ↓aop_alloc, ↓aop_box, ↓aop_nilCheck, ↓aop_fieldAddr, ↓aop_field, ↓aop_indexAddr, ↓aop_binOp, ↓aop_pick, ↓aop_extract, ↓aop_buildSlice, ↓aop_slice, ↓aop_not, ↓aop_call, ↓callA_len, ↓callA_append, ev_tmp, ev_const, ofV_int, ofV_bool, ofV_str, ofV_nilSlice, ofV_nilPtr, putA_some, putA_none, gs_self, gs_ne, List.length_set, Option.bind_some, Option.map_some, intBinA, evL, evO, evP, ne_eq, not_false_eq_true, if_true, if_false, reduceCtorEq, ite_true, ite_false, reduceIte, put_app, AV.cells, and_true, true_and, and_self, decide_true, decide_false, ↓yielded_eq, yv_some, boolOf_bool, List.getElem?_toArray, List.getElem?_cons_zero, List.getElem?_cons_succ, Nat.reduceLT, Nat.reduceEqDiff, beq_self_eq_true, Option.some_beq_some, wr_app, wr_app0, rd_app, rd_app0, rdL_here, rdL_next, wrL_here, wrL_next, spl, List.all_cons, List.all_nil, AV.one, Bool.and_self, Bool.true_and, List.drop_zero, List.take_succ_cons, List.take_zero, List.drop_succ_cons, List.head?_cons, Nat.reduceAdd, Nat.reduceLeDiff, List.length_cons, List.length_nil, List.nil_append, List.cons_append, List.set_cons_zero, List.set_cons_succ, Int.toNat_natCast, Nat.add_zero, b_ft, b_tf, Bool.false_eq_true]

theorem ref_wit_ev {v : AV} {H : AH} {l : List E6} {a b : E6} (hv : EvS H v l) (hl : l.length < 2 ^ 62) : ∃ L, Ev Try.prog C3 23 [v, .agg (rcells a b)] H = some (
    .tuple [(witOf (firstPair (fun x y => x.wit' y a b) l l 0)).1, (witOf (firstPair (fun x y => x.wit' y a b) l l 0)).2.1, (witOf (firstPair (fun x y => x.wit' y a b) l l 0)).2.2], H ++ L) := by
  have g0 : ([v, .agg (rcells a b)] ++ List.replicate (51 - [v, .agg (rcells a b)].length) undefA).length = 51 := by simp
  have g1 : ([v, .agg (rcells a b)] ++ List.replicate (51 - [v, .agg (rcells a b)].length) undefA).getD 0 undefA = v := rfl
  have g2 : ([v, .agg (rcells a b)] ++ List.replicate (51 - [v, .agg (rcells a b)].length) undefA).getD 1 undefA = .agg (rcells a b) := rfl
  have hH : H = H ++ [] := by simp
  rw [fe23]
  generalize [v, .agg (rcells a b)] ++ List.replicate (51 - [v, .agg (rcells a b)].length) undefA = tm at *
  conv => enter [1, L]; lhs; rw [hH]
  simp -implicitDefEqProofs only [c23, Try.f23, Option.getD_some, g0, g1, g2, ↓EvC_seq, ↓EvC_skip, ↓EvC_exit, ↓EvC_ret, ↓EvC_block, ↓EvC_cond, ↓ev_region, ↓runL_cons, ↓runL_nil, ↓stepO_none, ↓stepO_guard, ↓aop_move, ↓aop_assign, ↓aop_load, ↓aop_store, ↓aop_alloc, ↓aop_box, ↓aop_nilCheck, ↓aop_fieldAddr, ↓aop_field, ↓aop_indexAddr, ↓aop_binOp, ↓aop_pick, ↓aop_extract, ↓aop_buildSlice, ↓aop_slice, ↓aop_not, ↓aop_call, ↓callA_len, ↓callA_append, ev_tmp, ev_const, ofV_int, ofV_bool, ofV_str, ofV_nilSlice, ofV_nilPtr, putA_some, putA_none, gs_self, gs_ne, List.length_set, Option.bind_some, Option.map_some, intBinA, evL, evO, evP, ne_eq, not_false_eq_true, if_true, if_false, reduceCtorEq, ite_true, ite_false, reduceIte, put_app, AV.cells, and_true, true_and, and_self, decide_true, decide_false, ↓yielded_eq, yv_some, boolOf_bool, List.getElem?_toArray, List.getElem?_cons_zero, List.getElem?_cons_succ, Nat.reduceLT, Nat.reduceEqDiff, beq_self_eq_true, Option.some_beq_some, wr_app, wr_app0, rd_app, rd_app0, rdL_here, rdL_next, wrL_here, wrL_next, spl, List.all_cons, List.all_nil, AV.one, Bool.and_self, Bool.true_and, List.drop_zero, List.take_succ_cons, List.take_zero, List.drop_succ_cons, List.head?_cons, Nat.reduceAdd, Nat.reduceLeDiff, List.length_cons, List.length_nil, List.nil_append, List.cons_append, List.set_cons_zero, List.set_cons_succ, Int.toNat_natCast, Nat.add_zero, b_ft, b_tf, Bool.false_eq_true]
  generalize hX : EvC Try.prog C3 (Code.loop _) _ = X
  have hA : ∀ L, rdCells ((H ++ [.cells (rcells a b) 38]) ++ L) H.length 0 5 = some [I a.sp, I a.bl, I a.ce, I a.th, I a.ki] := fun L => by rw [List.append_assoc, rd_app0]; rfl
  have hB : ∀ L, rdCells ((H ++ [.cells (rcells a b) 38]) ++ L) H.length 5 5 = some [I b.sp, I b.bl, I b.ce, I b.th, I b.ki] := fun L => by rw [List.append_assoc, rd_app0]; rfl
  obtain ⟨e, tm', L, he, hl', hc⟩ := ref_wit_outer' (a := a) (b := b) (r := H.length) hX hl (hv.more _) hA hB (by simp only [List.length_set, g0]) (by simp only [g0, g1, gs_self, gs_ne, List.length_set, ne_eq, Nat.reduceEqDiff, Nat.reduceLT, not_false_eq_true]) (by simp only [g0, gs_self, gs_ne, List.length_set, ne_eq, Nat.reduceEqDiff, Nat.reduceLT, not_false_eq_true]) (by simp only [g0, gs_self, gs_ne, List.length_set, ne_eq, Nat.reduceEqDiff, Nat.reduceLT, not_false_eq_true] <;> rfl)
  subst he
  refine ⟨[.cells (rcells a b) 38] ++ L, ?_⟩
  rcases hc with ⟨i, n, hf, rfl, g4, g5, g6⟩ | ⟨hf, rfl⟩
  · rw [hf]
    simp -implicitDefEqProofs only [hl', g4, g5, g6, witOf, List.append_assoc, ↓EvC_seq, ↓EvC_skip, ↓EvC_exit, ↓EvC_ret, ↓EvC_block, ↓EvC_cond, ↓ev_region, ↓runL_cons, ↓runL_nil, ↓stepO_none, ↓stepO_guard, ↓aop_move, ↓aop_assign, ↓aop_load, ↓aop_store, ↓aop_alloc, ↓aop_box, ↓aop_nilCheck, ↓aop_fieldAddr, ↓aop_field, ↓aop_indexAddr, ↓aop_binOp, ↓aop_pick, ↓aop_extract, ↓aop_buildSlice, ↓aop_slice, ↓aop_not, ↓aop_call, ↓callA_len, ↓callA_append, ev_tmp, ev_const, ofV_int, ofV_bool, ofV_str, ofV_nilSlice, ofV_nilPtr, putA_some, putA_none, gs_self, gs_ne, List.length_set, Option.bind_some, Option.map_some, intBinA, evL, evO, evP, ne_eq, not_false_eq_true, if_true, if_false, reduceCtorEq, ite_true, ite_false, reduceIte, put_app, AV.cells, and_true, true_and, and_self, decide_true, decide_false, ↓yielded_eq, yv_some, boolOf_bool, List.getElem?_toArray, List.getElem?_cons_zero, List.getElem?_cons_succ, Nat.reduceLT, Nat.reduceEqDiff, beq_self_eq_true, Option.some_beq_some, wr_app, wr_app0, rd_app, rd_app0, rdL_here, rdL_next, wrL_here, wrL_next, spl, List.all_cons, List.all_nil, AV.one, Bool.and_self, Bool.true_and, List.drop_zero, List.take_succ_cons, List.take_zero, List.drop_succ_cons, List.head?_cons, Nat.reduceAdd, Nat.reduceLeDiff, List.length_cons, List.length_nil, List.nil_append, List.cons_append, List.set_cons_zero, List.set_cons_succ, Int.toNat_natCast, Nat.add_zero, b_ft, b_tf, Bool.false_eq_true]
  · rw [hf]
    simp -implicitDefEqProofs only [hl', witOf, List.append_assoc, ↓EvC_seq, ↓EvC_skip, ↓EvC_exit, ↓EvC_ret, ↓EvC_block, ↓EvC_cond, ↓ev_region, ↓runL_cons, ↓runL_nil, ↓stepO_none, ↓stepO_guard, ↓aop_move, ↓aop_assign, ↓aop_load, ↓aop_store, ↓aop_alloc, ↓aop_box, ↓aop_nilCheck, ↓aop_fieldAddr, ↓aop_field, ↓aop_indexAddr, ↓aop_binOp, ↓aop_pick, ↓aop_extract, ↓aop_buildSlice, ↓aop_slice, ↓aop_not, ↓aop_call, ↓callA_len, ↓callA_append, ev_tmp, ev_const, ofV_int, ofV_bool, ofV_str, ofV_nilSlice, ofV_nilPtr, putA_some, putA_none, gs_self, gs_ne, List.length_set, Option.bind_some, Option.map_some, intBinA, evL, evO, evP, ne_eq, not_false_eq_true, if_true, if_false, reduceCtorEq, ite_true, ite_false, reduceIte, put_app, AV.cells, and_true, true_and, and_self, decide_true, decide_false, ↓yielded_eq, yv_some, boolOf_bool, List.getElem?_toArray, List.getElem?_cons_zero, List.getElem?_cons_succ, Nat.reduceLT, Nat.reduceEqDiff, beq_self_eq_true, Option.some_beq_some, wr_app, wr_app0, rd_app, rd_app0, rdL_here, rdL_next, wrL_here, wrL_next, spl, List.all_cons, List.all_nil, AV.one, Bool.and_self, Bool.true_and, List.drop_zero, List.take_succ_cons, List.take_zero, List.drop_succ_cons, List.head?_cons, Nat.reduceAdd, Nat.reduceLeDiff, List.length_cons, List.length_nil, List.nil_append, List.cons_append, List.set_cons_zero, List.set_cons_succ, Int.toNat_natCast, Nat.add_zero, b_ft, b_tf, Bool.false_eq_true]

/-! the plain law -/
theorem accEqB_eq {a b c d e a' b' c' d' e' : Int} (h : accEqB a b c d e a' b' c' d' e' = true) : a = a' ∧ b = b' ∧ c = c' ∧ d = d' ∧ e = e' := by
  simp only [accEqB, Bool.and_eq_true, beq_iff_eq] at h
  exact ⟨h.1, h.2.1, h.2.2.1, h.2.2.2.1, h.2.2.2.2.1⟩

theorem spot_clash (x y : E6) : (x.spotEq y && x.clash y) = x.race y := by
  simp only [E6.spotEq, E6.clash, E6.race, spotEqB, clashB, raceB, sameB, bne]
  cases e1 : (x.sp == y.sp)
  · simp
  · have e2 := eq_of_beq e1
    rw [e2]
    have hk : ∀ k : Bool, (x.ki == y.ki) = k → k = true → (y.ki == 1) = (x.ki == 1) := by
      intro k h hk
      subst hk
      rw [eq_of_beq h]
    cases e3 : decide (y.sp < 0)
    · have e4 : decide (y.sp ≥ 0) = true := by simp at e3 ⊢; exact e3
      rw [e4]
      cases (x.bl == y.bl) <;> cases (x.ce == y.ce) <;> cases (x.th == y.th) <;> cases (x.ph == y.ph) <;> cases (x.ki == y.ki) <;> cases (x.ki == 1) <;> simp
    · have e4 : decide (y.sp ≥ 0) = false := by simp at e3 ⊢; exact e3
      rw [e4]
      simp only [cond_true]
      cases (x.bl == y.bl) <;> cases (x.ce == y.ce) <;> cases (x.th == y.th) <;> cases (x.ph == y.ph) <;> cases (x.ki == y.ki) <;> cases (x.ki == 1) <;> simp

theorem wit_same (x y a b : E6) : x.wit y a b = x.wit' y a b := by
  unfold E6.wit E6.wit'
  cases h1 : x.accEq a
  · rfl
  · cases h2 : y.accEq b
    · rfl
    · obtain ⟨e1, e2, e3, e4, e5⟩ := accEqB_eq h1
      obtain ⟨f1, f2, f3, f4, f5⟩ := accEqB_eq h2
      rw [← spot_clash]
      simp only [E6.spotEq, e1, e2, e3, f1, f2, f3, Bool.true_and]

theorem firstPair_same (l : List E6) (a b : E6) : firstPair (fun x y => x.wit y a b) l l 0 = firstPair (fun x y => x.wit' y a b) l l 0 := by
  have : (fun x y : E6 => x.wit y a b) = (fun x y => x.wit' y a b) := by funext x y; exact wit_same x y a b
  rw [this]

end Go.Dv
