/- The outer loops of race.Witness and ref21.Witness (printed by t33.py, own work). -/
import Derived.Test.YtepcdjpenahnpaaT32
namespace Go.Dv
open Go.Proofs
set_option maxRecDepth 100000
set_option linter.unusedSimpArgs false
set_option linter.unusedVariables false
attribute [local congr] bind_congr_first

/-- The first pair, by its later place, from the later place n on. -/
def firstPair (p : E6 → E6 → Bool) (l : List E6) : List E6 → Nat → Option (Nat × Nat)
  | [], _ => none
  | y :: ys, n => match firstAt (fun x => p x y) (l.take n) 0 with
    | some i => some (i, n)
    | none => firstPair p l ys (n + 1)

theorem wit_inner' {v : AV} {p : List E6} {kk : Nat} {y a b : E6} {r iy : Nat} {tm : List AV} {H : AH} {X : Option (AExit × St)} (hX : EvC Try.prog C3 l22_0 (tm, H) = X) (hn : p.length < 2 ^ 62) (hv : EvS H v p)
    (hA : ∀ L, rdCells (H ++ L) r 0 5 = some [I a.sp, I a.bl, I a.ce, I a.th, I a.ki]) (hB : ∀ L, rdCells (H ++ L) r 5 5 = some [I b.sp, I b.bl, I b.ce, I b.th, I b.ki])
    (hy : ∀ L, rdCells (H ++ L) iy 0 6 = some [I y.sp, I y.bl, I y.ce, I y.th, I y.ki, I y.ph]) (hy5 : ∀ L, rdCells (H ++ L) iy 0 5 = some [I y.sp, I y.bl, I y.ce, I y.th, I y.ki])
    (hlen : tm.length = 61) (h3 : tm.getD 3 undefA = .ptr r 0) (h8 : tm.getD 8 undefA = I kk) (h9 : tm.getD 9 undefA = .ptr iy 0) (h24 : tm.getD 24 undefA = v) (h25 : tm.getD 25 undefA = I p.length) (h26 : tm.getD 26 undefA = I ((0 : Nat) : Int)) :
    ∃ e tm' L, X = some (e, (tm', H ++ L)) ∧ tm'.length = 61 ∧
      ((∃ i, firstAt (fun x => x.wit y a b) p 0 = some i ∧ e = .ret ∧ tm'.getD 4 undefA = I i ∧ tm'.getD 5 undefA = I kk ∧ tm'.getD 6 undefA = .bool true ∧ tm'.getD 7 undefA = I 0) ∨
       (firstAt (fun x => x.wit y a b) p 0 = none ∧ e = .exit 2 ∧ (∀ t ∈ [0, 3, 8, 9, 15, 16, 17, 24, 25], tm'.getD t undefA = tm.getD t undefA))) := by
  subst hX
  have := wit_inner (a := a) (b := b) (y := y) (kk := kk) hn p.length 0 tm H (by omega) (by omega) hv hA hB hy hy5 hlen h3 h8 h9 h24 h25 h26
  simpa using this

theorem wit_outer_round {v : AV} {H : AH} {l : List E6} {tm : List AV} {k r : Nat} {y a b : E6} (hv : EvS H v l) (hk : k < l.length) (hl : l.length < 2 ^ 62) (hyk : l[k]? = some y)
    (hA : ∀ L, rdCells (H ++ L) r 0 5 = some [I a.sp, I a.bl, I a.ce, I a.th, I a.ki]) (hB : ∀ L, rdCells (H ++ L) r 5 5 = some [I b.sp, I b.bl, I b.ce, I b.th, I b.ki])
    (hlen : tm.length = 61) (h0 : tm.getD 0 undefA = v) (h3 : tm.getD 3 undefA = .ptr r 0) (h15 : tm.getD 15 undefA = v) (h16 : tm.getD 16 undefA = I l.length) (h17 : tm.getD 17 undefA = I k) :
    (∃ i, firstAt (fun x => x.wit y a b) (l.take k) 0 = some i ∧ ∃ tm' L, EvC Try.prog C3 l22_1 (tm, H) = some (.ret, (tm', H ++ L)) ∧ tm'.length = 61 ∧ tm'.getD 4 undefA = I i ∧ tm'.getD 5 undefA = I k ∧ tm'.getD 6 undefA = .bool true ∧ tm'.getD 7 undefA = I 0) ∨
    (firstAt (fun x => x.wit y a b) (l.take k) 0 = none ∧ ∃ tm' L, EvC Try.prog C3 l22_1 (tm, H) = EvC Try.prog C3 l22_1 (tm', H ++ L) ∧ tm'.length = 61 ∧ (∀ t ∈ [0, 3, 15, 16], tm'.getD t undefA = tm.getD t undefA) ∧ tm'.getD 17 undefA = I ((k + 1 : Nat) : Int)) := by
  obtain ⟨i, kc, hi, hr⟩ := hv.evs.ix k y hyk
  obtain ⟨v', hsl, hv'⟩ := hv.pre (n := k) (by omega)
  have hpl : (l.take k).length = k := by simp; omega
  have hla := hv'.evs.len
  rw [hpl] at hla
  have hlt : decide ((k : Int) < (l.length : Int)) = true := by simp; omega
  have hw : IntKind.i64.wrap ((k : Int) + 1) = ((k + 1 : Nat) : Int) := by rw [IntWalk.i64_in _ (by omega)]; omega
  have hrd : ∀ L, rdCells (H ++ L) i kc 6 = some [I y.sp, I y.bl, I y.ce, I y.th, I y.ki, I y.ph] := fun L => rd_old hr L
  have hH : (tm, H) = (tm, H ++ []) := by simp
  rw [el22_1, hH]
  simp -implicitDefEqProofs only [b22_1, atPath, Try.f22, Option.getD_some, hlen, h0, h3, h15, h16, h17, hlt, hi, hrd, hsl, hla, ↓ld36, ↓ld34, ↓ld3, ↓st36, ↓st34, ↓st3, z36, z34, fa36_0, fa36_1, fa38_0, fa38_1, ↓EvC_seq, ↓EvC_skip, ↓EvC_exit, ↓EvC_ret, ↓EvC_block, ↓EvC_cond, ↓ev_region, ↓runL_cons, ↓runL_nil, ↓stepO_none, ↓stepO_guard, ↓aop_move, ↓aop_assign, ↓aop_load, ↓aop_store, ↓aop_alloc, ↓aop_box, ↓aop_nilCheck, ↓aop_fieldAddr, ↓aop_field, ↓aop_indexAddr, ↓aop_binOp, ↓aop_pick, ↓aop_extract, ↓aop_buildSlice, ↓aop_slice, ↓aop_not, ↓aop_call, ↓callA_len, ↓callA_append, ev_tmp, ev_const, ofV_int, ofV_bool, ofV_str, ofV_nilSlice, ofV_nilPtr, putA_some, putA_none, gs_self, gs_ne, List.length_set, Option.bind_some, Option.map_some, intBinA, evL, evO, evP, ne_eq, not_false_eq_true, if_true, if_false, reduceCtorEq, ite_true, ite_false, reduceIte, put_app, AV.cells, and_true, true_and, and_self, decide_true, decide_false, ↓yielded_eq, yv_some, boolOf_bool, List.getElem?_toArray, List.getElem?_cons_zero, List.getElem?_cons_succ, Nat.reduceLT, Nat.reduceEqDiff, beq_self_eq_true, Option.some_beq_some, wr_app, wr_app0, rd_app, rd_app0, rdL_here, rdL_next, wrL_here, wrL_next, spl, List.all_cons, List.all_nil, AV.one, Bool.and_self, Bool.true_and, List.drop_zero, List.take_succ_cons, List.take_zero, List.drop_succ_cons, List.head?_cons, Nat.reduceAdd, Nat.reduceLeDiff, List.length_cons, List.length_nil, List.nil_append, List.cons_append, List.set_cons_zero, List.set_cons_succ, Int.toNat_natCast, Nat.add_zero, b_ft, b_tf, Bool.false_eq_true]
  generalize hX : EvC Try.prog C3 (Code.loop _) _ = X
  have hiy : ∀ L, rdCells ((H ++ [.cells [I y.sp, I y.bl, I y.ce, I y.th, I y.ki, I y.ph] 36]) ++ L) H.length 0 6 = some [I y.sp, I y.bl, I y.ce, I y.th, I y.ki, I y.ph] := fun L => by rw [List.append_assoc, rd_app0]; rfl
  have hiy5 : ∀ L, rdCells ((H ++ [.cells [I y.sp, I y.bl, I y.ce, I y.th, I y.ki, I y.ph] 36]) ++ L) H.length 0 5 = some [I y.sp, I y.bl, I y.ce, I y.th, I y.ki] := fun L => by rw [List.append_assoc, rd_app0]; rfl
  obtain ⟨e, tm', L, he, hl', hc⟩ := wit_inner' (a := a) (b := b) (y := y) (kk := k) (r := r) (iy := H.length) hX (by omega) (hv'.more _) (rd_grow hA _) (rd_grow hB _) hiy hiy5 (by simp only [List.length_set, hlen]) (by simp only [hlen, h3, gs_self, gs_ne, List.length_set, ne_eq, Nat.reduceEqDiff, Nat.reduceLT, not_false_eq_true]) (by simp only [hlen, gs_self, gs_ne, List.length_set, ne_eq, Nat.reduceEqDiff, Nat.reduceLT, not_false_eq_true]) (by simp only [hlen, gs_self, gs_ne, List.length_set, ne_eq, Nat.reduceEqDiff, Nat.reduceLT, not_false_eq_true]) (by simp only [hlen, gs_self, gs_ne, List.length_set, ne_eq, Nat.reduceEqDiff, Nat.reduceLT, not_false_eq_true]) (by simp only [hlen, hpl, gs_self, gs_ne, List.length_set, ne_eq, Nat.reduceEqDiff, Nat.reduceLT, not_false_eq_true]) (by simp only [hlen, gs_self, gs_ne, List.length_set, ne_eq, Nat.reduceEqDiff, Nat.reduceLT, not_false_eq_true] <;> rfl)
  subst he
  rcases hc with ⟨i', hf, rfl, g4, g5, g6, g7⟩ | ⟨hf, rfl, hkeep⟩
  · refine .inl ⟨i', hf, ?_⟩
    simp -implicitDefEqProofs only [↓EvC_seq, ↓EvC_skip, ↓EvC_exit, ↓EvC_ret, ↓EvC_block, ↓EvC_cond, ↓ev_region, ↓runL_cons, ↓runL_nil, ↓stepO_none, ↓stepO_guard, ↓aop_move, ↓aop_assign, ↓aop_load, ↓aop_store, ↓aop_alloc, ↓aop_box, ↓aop_nilCheck, ↓aop_fieldAddr, ↓aop_field, ↓aop_indexAddr, ↓aop_binOp, ↓aop_pick, ↓aop_extract, ↓aop_buildSlice, ↓aop_slice, ↓aop_not, ↓aop_call, ↓callA_len, ↓callA_append, ev_tmp, ev_const, ofV_int, ofV_bool, ofV_str, ofV_nilSlice, ofV_nilPtr, putA_some, putA_none, gs_self, gs_ne, List.length_set, Option.bind_some, Option.map_some, intBinA, evL, evO, evP, ne_eq, not_false_eq_true, if_true, if_false, reduceCtorEq, ite_true, ite_false, reduceIte, put_app, AV.cells, and_true, true_and, and_self, decide_true, decide_false, ↓yielded_eq, yv_some, boolOf_bool, List.getElem?_toArray, List.getElem?_cons_zero, List.getElem?_cons_succ, Nat.reduceLT, Nat.reduceEqDiff, beq_self_eq_true, Option.some_beq_some, wr_app, wr_app0, rd_app, rd_app0, rdL_here, rdL_next, wrL_here, wrL_next, spl, List.all_cons, List.all_nil, AV.one, Bool.and_self, Bool.true_and, List.drop_zero, List.take_succ_cons, List.take_zero, List.drop_succ_cons, List.head?_cons, Nat.reduceAdd, Nat.reduceLeDiff, List.length_cons, List.length_nil, List.nil_append, List.cons_append, List.set_cons_zero, List.set_cons_succ, Int.toNat_natCast, Nat.add_zero, b_ft, b_tf, Bool.false_eq_true]
    exact ⟨_, _, by rw [List.append_assoc], hl', g4, g5, g6, g7⟩
  · refine .inr ⟨hf, ?_⟩
    have z0 := hkeep 0 (by simp)
    have z3 := hkeep 3 (by simp)
    have z15 := hkeep 15 (by simp)
    have z16 := hkeep 16 (by simp)
    have z17 := hkeep 17 (by simp)
    simp only [hlen, gs_self, gs_ne, List.length_set, ne_eq, Nat.reduceEqDiff, Nat.reduceLT, not_false_eq_true] at z0 z3 z15 z16 z17
    simp -implicitDefEqProofs only [hl', z17, h17, hw, ↓EvC_seq, ↓EvC_skip, ↓EvC_exit, ↓EvC_ret, ↓EvC_block, ↓EvC_cond, ↓ev_region, ↓runL_cons, ↓runL_nil, ↓stepO_none, ↓stepO_guard, ↓aop_move, ↓aop_assign, ↓aop_load, ↓aop_store, ↓aop_alloc, ↓aop_box, ↓aop_nilCheck, ↓aop_fieldAddr, ↓aop_field, ↓aop_indexAddr, ↓aop_binOp, ↓aop_pick, ↓aop_extract, ↓aop_buildSlice, ↓aop_slice, ↓aop_not, ↓aop_call, ↓callA_len, ↓callA_append, ev_tmp, ev_const, ofV_int, ofV_bool, ofV_str, ofV_nilSlice, ofV_nilPtr, putA_some, putA_none, gs_self, gs_ne, List.length_set, Option.bind_some, Option.map_some, intBinA, evL, evO, evP, ne_eq, not_false_eq_true, if_true, if_false, reduceCtorEq, ite_true, ite_false, reduceIte, put_app, AV.cells, and_true, true_and, and_self, decide_true, decide_false, ↓yielded_eq, yv_some, boolOf_bool, List.getElem?_toArray, List.getElem?_cons_zero, List.getElem?_cons_succ, Nat.reduceLT, Nat.reduceEqDiff, beq_self_eq_true, Option.some_beq_some, wr_app, wr_app0, rd_app, rd_app0, rdL_here, rdL_next, wrL_here, wrL_next, spl, List.all_cons, List.all_nil, AV.one, Bool.and_self, Bool.true_and, List.drop_zero, List.take_succ_cons, List.take_zero, List.drop_succ_cons, List.head?_cons, Nat.reduceAdd, Nat.reduceLeDiff, List.length_cons, List.length_nil, List.nil_append, List.cons_append, List.set_cons_zero, List.set_cons_succ, Int.toNat_natCast, Nat.add_zero, b_ft, b_tf, Bool.false_eq_true]
    refine ⟨_, _, by rw [List.append_assoc], by simp only [List.length_set, hl'], fun t ht => ?_, by simp only [hl', gs_self, gs_ne, List.length_set, ne_eq, Nat.reduceEqDiff, Nat.reduceLT, not_false_eq_true]⟩
    simp only [List.mem_cons, List.not_mem_nil, or_false] at ht
    rcases ht with rfl | rfl | rfl | rfl <;> simp only [hl', z0, z3, z15, z16, gs_self, gs_ne, List.length_set, ne_eq, Nat.reduceEqDiff, Nat.reduceLT, not_false_eq_true]

theorem wit_outer_end {H : AH} {tm : List AV} {n : Nat} (hlen : tm.length = 61) (h16 : tm.getD 16 undefA = I n) (h17 : tm.getD 17 undefA = I n) : ∃ tm', EvC Try.prog C3 l22_1 (tm, H) = some (.exit 0, (tm', H)) ∧ tm'.length = 61 := by
  have hlt : decide ((n : Int) < (n : Int)) = false := by simp
  rw [el22_1]
  simp -implicitDefEqProofs only [b22_1, atPath, Try.f22, Option.getD_some, hlen, h16, h17, hlt, ↓EvC_seq, ↓EvC_skip, ↓EvC_exit, ↓EvC_ret, ↓EvC_block, ↓EvC_cond, ↓ev_region, ↓runL_cons, ↓runL_nil, ↓stepO_none, ↓stepO_guard, ↓aop_move, ↓aop_assign, ↓aop_load, ↓aop_store, ↓aop_alloc, ↓aop_box, ↓aop_nilCheck, ↓aop_fieldAddr, ↓aop_field, ↓aop_indexAddr, ↓aop_binOp, ↓aop_pick, ↓aop_extract, ↓aop_buildSlice, ↓aop_slice, ↓aop_not, ↓aop_call, ↓callA_len, ↓callA_append, ev_tmp, ev_const, ofV_int, ofV_bool, ofV_str, ofV_nilSlice, ofV_nilPtr, putA_some, putA_none, gs_self, gs_ne, List.length_set, Option.bind_some, Option.map_some, intBinA, evL, evO, evP, ne_eq, not_false_eq_true, if_true, if_false, reduceCtorEq, ite_true, ite_false, reduceIte, put_app, AV.cells, and_true, true_and, and_self, decide_true, decide_false, ↓yielded_eq, yv_some, boolOf_bool, List.getElem?_toArray, List.getElem?_cons_zero, List.getElem?_cons_succ, Nat.reduceLT, Nat.reduceEqDiff, beq_self_eq_true, Option.some_beq_some, wr_app, wr_app0, rd_app, rd_app0, rdL_here, rdL_next, wrL_here, wrL_next, spl, List.all_cons, List.all_nil, AV.one, Bool.and_self, Bool.true_and, List.drop_zero, List.take_succ_cons, List.take_zero, List.drop_succ_cons, List.head?_cons, Nat.reduceAdd, Nat.reduceLeDiff, List.length_cons, List.length_nil, List.nil_append, List.cons_append, List.set_cons_zero, List.set_cons_succ, Int.toNat_natCast, Nat.add_zero, b_ft, b_tf, Bool.false_eq_true]
  exact ⟨_, rfl, by simp only [List.length_set, hlen]⟩

theorem wit_outer {v : AV} {l : List E6} {a b : E6} {r : Nat} (hl : l.length < 2 ^ 62) : ∀ (d k : Nat) (tm : List AV) (H : AH), l.length - k = d → k ≤ l.length → EvS H v l →
    (∀ L, rdCells (H ++ L) r 0 5 = some [I a.sp, I a.bl, I a.ce, I a.th, I a.ki]) → (∀ L, rdCells (H ++ L) r 5 5 = some [I b.sp, I b.bl, I b.ce, I b.th, I b.ki]) →
    tm.length = 61 → tm.getD 0 undefA = v → tm.getD 3 undefA = .ptr r 0 → tm.getD 15 undefA = v → tm.getD 16 undefA = I l.length → tm.getD 17 undefA = I k →
    ∃ e tm' L, EvC Try.prog C3 l22_1 (tm, H) = some (e, (tm', H ++ L)) ∧ tm'.length = 61 ∧
      ((∃ i n, firstPair (fun x y => x.wit y a b) l (l.drop k) k = some (i, n) ∧ e = .ret ∧ tm'.getD 4 undefA = I i ∧ tm'.getD 5 undefA = I n ∧ tm'.getD 6 undefA = .bool true ∧ tm'.getD 7 undefA = I 0) ∨
       (firstPair (fun x y => x.wit y a b) l (l.drop k) k = none ∧ e = .exit 0)) := by
  intro d
  induction d with
  | zero =>
    intro k tm H hd hk hv hA hB hlen h0 h3 h15 h16 h17
    obtain rfl : k = l.length := by omega
    obtain ⟨tm', he, hl'⟩ := wit_outer_end (H := H) hlen h16 h17
    exact ⟨_, tm', [], by rw [List.append_nil]; exact he, hl', .inr ⟨by simp [firstPair], rfl⟩⟩
  | succ d ih =>
    intro k tm H hd hk hv hA hB hlen h0 h3 h15 h16 h17
    obtain ⟨y, hy⟩ : ∃ y, l[k]? = some y := ⟨_, List.getElem?_eq_getElem (by omega)⟩
    have hdl : l.drop k = y :: l.drop (k + 1) := by rw [List.drop_eq_getElem_cons (by omega)]; congr 1; rw [List.getElem?_eq_getElem (by omega)] at hy; exact Option.some.inj hy
    rw [hdl]
    simp only [firstPair]
    rcases wit_outer_round (a := a) (b := b) hv (by omega) hl hy hA hB hlen h0 h3 h15 h16 h17 with ⟨i, hf, tm', L, hev, hl', g4, g5, g6, g7⟩ | ⟨hf, tm', L, hev, hl', hkeep, g17⟩
    · rw [hf]
      exact ⟨_, tm', L, hev, hl', .inl ⟨i, k, rfl, rfl, g4, g5, g6, g7⟩⟩
    · rw [hf]
      obtain ⟨e', tm2, L2, hev2, hl2, hc⟩ := ih (k + 1) tm' (H ++ L) (by omega) (by omega) (hv.more L) (rd_grow hA L) (rd_grow hB L) hl' ((hkeep 0 (by simp)).trans h0) ((hkeep 3 (by simp)).trans h3) ((hkeep 15 (by simp)).trans h15) ((hkeep 16 (by simp)).trans h16) g17
      exact ⟨e', tm2, L ++ L2, by rw [hev, hev2, List.append_assoc], hl2, hc⟩

theorem ref_wit_inner' {v : AV} {l : List E6} {kk : Nat} {y a b : E6} {r : Nat} {tm : List AV} {H : AH} {X : Option (AExit × St)} (hX : EvC Try.prog C3 l23_0 (tm, H) = X) (hkk : kk < l.length) (hn : l.length < 2 ^ 62) (hyk : l[kk]? = some y) (hv : EvS H v l)
    (hA : ∀ L, rdCells (H ++ L) r 0 5 = some [I a.sp, I a.bl, I a.ce, I a.th, I a.ki]) (hB : ∀ L, rdCells (H ++ L) r 5 5 = some [I b.sp, I b.bl, I b.ce, I b.th, I b.ki])
    (hlen : tm.length = 51) (h0 : tm.getD 0 undefA = v) (h3 : tm.getD 3 undefA = .ptr r 0) (h7 : tm.getD 7 undefA = I kk) (h8 : tm.getD 8 undefA = I ((0 : Nat) : Int)) :
    ∃ e tm' L, X = some (e, (tm', H ++ L)) ∧ tm'.length = 51 ∧
      ((∃ i, firstAt (fun x => x.wit' y a b) (l.take kk) 0 = some i ∧ e = .ret ∧ tm'.getD 4 undefA = I i ∧ tm'.getD 5 undefA = I kk ∧ tm'.getD 6 undefA = .bool true) ∨
       (firstAt (fun x => x.wit' y a b) (l.take kk) 0 = none ∧ e = .exit 2 ∧ (∀ t ∈ [0, 3, 7], tm'.getD t undefA = tm.getD t undefA))) := by
  subst hX
  have := ref_wit_inner (a := a) (b := b) (y := y) hkk hn hyk kk 0 tm H (by omega) (by omega) hv hA hB hlen h0 h3 h7 h8
  simpa using this

theorem ref_wit_outer_round {v : AV} {H : AH} {l : List E6} {tm : List AV} {k r : Nat} {y a b : E6} (hv : EvS H v l) (hk : k < l.length) (hl : l.length < 2 ^ 62) (hyk : l[k]? = some y)
    (hA : ∀ L, rdCells (H ++ L) r 0 5 = some [I a.sp, I a.bl, I a.ce, I a.th, I a.ki]) (hB : ∀ L, rdCells (H ++ L) r 5 5 = some [I b.sp, I b.bl, I b.ce, I b.th, I b.ki])
    (hlen : tm.length = 51) (h0 : tm.getD 0 undefA = v) (h3 : tm.getD 3 undefA = .ptr r 0) (h7 : tm.getD 7 undefA = I k) :
    (∃ i, firstAt (fun x => x.wit' y a b) (l.take k) 0 = some i ∧ ∃ tm' L, EvC Try.prog C3 l23_1 (tm, H) = some (.ret, (tm', H ++ L)) ∧ tm'.length = 51 ∧ tm'.getD 4 undefA = I i ∧ tm'.getD 5 undefA = I k ∧ tm'.getD 6 undefA = .bool true) ∨
    (firstAt (fun x => x.wit' y a b) (l.take k) 0 = none ∧ ∃ tm' L, EvC Try.prog C3 l23_1 (tm, H) = EvC Try.prog C3 l23_1 (tm', H ++ L) ∧ tm'.length = 51 ∧ (∀ t ∈ [0, 3], tm'.getD t undefA = tm.getD t undefA) ∧ tm'.getD 7 undefA = I ((k + 1 : Nat) : Int)) := by
  have hla := hv.evs.len
  have hlt : decide ((k : Int) < (l.length : Int)) = true := by simp; omega
  have hw : IntKind.i64.wrap ((k : Int) + 1) = ((k + 1 : Nat) : Int) := by rw [IntWalk.i64_in _ (by omega)]; omega
  rw [el23_1]
  simp -implicitDefEqProofs only [b23_1, atPath, Try.f23, Option.getD_some, hlen, h0, h3, h7, hlt, hla, ↓ld36, ↓ld34, ↓ld3, ↓st36, ↓st34, ↓st3, z36, z34, fa36_0, fa36_1, fa38_0, fa38_1, ↓EvC_seq, ↓EvC_skip, ↓EvC_exit, ↓EvC_ret, ↓EvC_block, ↓EvC_cond, ↓ev_region, ↓runL_cons, ↓runL_nil, ↓stepO_none, ↓stepO_guard, ↓aop_move, ↓aop_assign, ↓aop_load, ↓aop_store, ↓aop_alloc, ↓aop_box, ↓aop_nilCheck, ↓aop_fieldAddr, ↓aop_field, ↓aop_indexAddr, ↓aop_binOp, ↓aop_pick, ↓aop_extract, ↓aop_buildSlice, ↓aop_slice, ↓aop_not, ↓aop_call, ↓callA_len, ↓callA_append, ev_tmp, ev_const, ofV_int, ofV_bool, ofV_str, ofV_nilSlice, ofV_nilPtr, putA_some, putA_none, gs_self, gs_ne, List.length_set, Option.bind_some, Option.map_some, intBinA, evL, evO, evP, ne_eq, not_false_eq_true, if_true, if_false, reduceCtorEq, ite_true, ite_false, reduceIte, put_app, AV.cells, and_true, true_and, and_self, decide_true, decide_false, ↓yielded_eq, yv_some, boolOf_bool, List.getElem?_toArray, List.getElem?_cons_zero, List.getElem?_cons_succ, Nat.reduceLT, Nat.reduceEqDiff, beq_self_eq_true, Option.some_beq_some, wr_app, wr_app0, rd_app, rd_app0, rdL_here, rdL_next, wrL_here, wrL_next, spl, List.all_cons, List.all_nil, AV.one, Bool.and_self, Bool.true_and, List.drop_zero, List.take_succ_cons, List.take_zero, List.drop_succ_cons, List.head?_cons, Nat.reduceAdd, Nat.reduceLeDiff, List.length_cons, List.length_nil, List.nil_append, List.cons_append, List.set_cons_zero, List.set_cons_succ, Int.toNat_natCast, Nat.add_zero, b_ft, b_tf, Bool.false_eq_true]
  generalize hX : EvC Try.prog C3 (Code.loop _) _ = X
  obtain ⟨e, tm', L, he, hl', hc⟩ := ref_wit_inner' (a := a) (b := b) (y := y) (kk := k) (r := r) hX hk hl hyk hv hA hB (by simp only [List.length_set, hlen]) (by simp only [hlen, h0, gs_self, gs_ne, List.length_set, ne_eq, Nat.reduceEqDiff, Nat.reduceLT, not_false_eq_true]) (by simp only [hlen, h3, gs_self, gs_ne, List.length_set, ne_eq, Nat.reduceEqDiff, Nat.reduceLT, not_false_eq_true]) (by simp only [hlen, h7, gs_self, gs_ne, List.length_set, ne_eq, Nat.reduceEqDiff, Nat.reduceLT, not_false_eq_true]) (by simp only [hlen, gs_self, gs_ne, List.length_set, ne_eq, Nat.reduceEqDiff, Nat.reduceLT, not_false_eq_true] <;> rfl)
  subst he
  rcases hc with ⟨i', hf, rfl, g4, g5, g6⟩ | ⟨hf, rfl, hkeep⟩
  · refine .inl ⟨i', hf, ?_⟩
    simp -implicitDefEqProofs only [↓EvC_seq, ↓EvC_skip, ↓EvC_exit, ↓EvC_ret, ↓EvC_block, ↓EvC_cond, ↓ev_region, ↓runL_cons, ↓runL_nil, ↓stepO_none, ↓stepO_guard, ↓aop_move, ↓aop_assign, ↓aop_load, ↓aop_store, ↓aop_alloc, ↓aop_box, ↓aop_nilCheck, ↓aop_fieldAddr, ↓aop_field, ↓aop_indexAddr, ↓aop_binOp, ↓aop_pick, ↓aop_extract, ↓aop_buildSlice, ↓aop_slice, ↓aop_not, ↓aop_call, ↓callA_len, ↓callA_append, ev_tmp, ev_const, ofV_int, ofV_bool, ofV_str, ofV_nilSlice, ofV_nilPtr, putA_some, putA_none, gs_self, gs_ne, List.length_set, Option.bind_some, Option.map_some, intBinA, evL, evO, evP, ne_eq, not_false_eq_true, if_true, if_false, reduceCtorEq, ite_true, ite_false, reduceIte, put_app, AV.cells, and_true, true_and, and_self, decide_true, decide_false, ↓yielded_eq, yv_some, boolOf_bool, List.getElem?_toArray, List.getElem?_cons_zero, List.getElem?_cons_succ, Nat.reduceLT, Nat.reduceEqDiff, beq_self_eq_true, Option.some_beq_some, wr_app, wr_app0, rd_app, rd_app0, rdL_here, rdL_next, wrL_here, wrL_next, spl, List.all_cons, List.all_nil, AV.one, Bool.and_self, Bool.true_and, List.drop_zero, List.take_succ_cons, List.take_zero, List.drop_succ_cons, List.head?_cons, Nat.reduceAdd, Nat.reduceLeDiff, List.length_cons, List.length_nil, List.nil_append, List.cons_append, List.set_cons_zero, List.set_cons_succ, Int.toNat_natCast, Nat.add_zero, b_ft, b_tf, Bool.false_eq_true]
    exact ⟨_, _, rfl, hl', g4, g5, g6⟩
  · refine .inr ⟨hf, ?_⟩
    have z0 := hkeep 0 (by simp)
    have z3 := hkeep 3 (by simp)
    have z7 := hkeep 7 (by simp)
    simp only [hlen, gs_self, gs_ne, List.length_set, ne_eq, Nat.reduceEqDiff, Nat.reduceLT, not_false_eq_true] at z0 z3 z7
    simp -implicitDefEqProofs only [hl', z7, h7, hw, ↓EvC_seq, ↓EvC_skip, ↓EvC_exit, ↓EvC_ret, ↓EvC_block, ↓EvC_cond, ↓ev_region, ↓runL_cons, ↓runL_nil, ↓stepO_none, ↓stepO_guard, ↓aop_move, ↓aop_assign, ↓aop_load, ↓aop_store, ↓aop_alloc, ↓aop_box, ↓aop_nilCheck, ↓aop_fieldAddr, ↓aop_field, ↓aop_indexAddr, ↓aop_binOp, ↓aop_pick, ↓aop_extract, ↓aop_buildSlice, ↓aop_slice, ↓aop_not, ↓aop_call, ↓callA_len, ↓callA_append, ev_tmp, ev_const, ofV_int, ofV_bool, ofV_str, ofV_nilSlice, ofV_nilPtr, putA_some, putA_none, gs_self, gs_ne, List.length_set, Option.bind_some, Option.map_some, intBinA, evL, evO, evP, ne_eq, not_false_eq_true, if_true, if_false, reduceCtorEq, ite_true, ite_false, reduceIte, put_app, AV.cells, and_true, true_and, and_self, decide_true, decide_false, ↓yielded_eq, yv_some, boolOf_bool, List.getElem?_toArray, List.getElem?_cons_zero, List.getElem?_cons_succ, Nat.reduceLT, Nat.reduceEqDiff, beq_self_eq_true, Option.some_beq_some, wr_app, wr_app0, rd_app, rd_app0, rdL_here, rdL_next, wrL_here, wrL_next, spl, List.all_cons, List.all_nil, AV.one, Bool.and_self, Bool.true_and, List.drop_zero, List.take_succ_cons, List.take_zero, List.drop_succ_cons, List.head?_cons, Nat.reduceAdd, Nat.reduceLeDiff, List.length_cons, List.length_nil, List.nil_append, List.cons_append, List.set_cons_zero, List.set_cons_succ, Int.toNat_natCast, Nat.add_zero, b_ft, b_tf, Bool.false_eq_true]
    refine ⟨_, _, rfl, by simp only [List.length_set, hl'], fun t ht => ?_, by simp only [hl', gs_self, gs_ne, List.length_set, ne_eq, Nat.reduceEqDiff, Nat.reduceLT, not_false_eq_true]⟩
    simp only [List.mem_cons, List.not_mem_nil, or_false] at ht
    rcases ht with rfl | rfl <;> simp only [hl', z0, z3, gs_self, gs_ne, List.length_set, ne_eq, Nat.reduceEqDiff, Nat.reduceLT, not_false_eq_true]

theorem ref_wit_outer_end {v : AV} {l : List E6} {H : AH} {tm : List AV} (hv : EvS H v l) (hlen : tm.length = 51) (h0 : tm.getD 0 undefA = v) (h7 : tm.getD 7 undefA = I l.length) : ∃ tm', EvC Try.prog C3 l23_1 (tm, H) = some (.exit 0, (tm', H)) ∧ tm'.length = 51 := by
  have hla := hv.evs.len
  have hlt : decide ((l.length : Int) < (l.length : Int)) = false := by simp
  rw [el23_1]
  simp -implicitDefEqProofs only [b23_1, atPath, Try.f23, Option.getD_some, hlen, h0, h7, hlt, hla, ↓EvC_seq, ↓EvC_skip, ↓EvC_exit, ↓EvC_ret, ↓EvC_block, ↓EvC_cond, ↓ev_region, ↓runL_cons, ↓runL_nil, ↓stepO_none, ↓stepO_guard, ↓aop_move, ↓aop_assign, ↓aop_load, ↓aop_store, ↓aop_alloc, ↓aop_box, ↓aop_nilCheck, ↓aop_fieldAddr, ↓aop_field, ↓aop_indexAddr, ↓aop_binOp, ↓aop_pick, ↓aop_extract, ↓aop_buildSlice, ↓aop_slice, ↓aop_not, ↓aop_call, ↓callA_len, ↓callA_append, ev_tmp, ev_const, ofV_int, ofV_bool, ofV_str, ofV_nilSlice, ofV_nilPtr, putA_some, putA_none, gs_self, gs_ne, List.length_set, Option.bind_some, Option.map_some, intBinA, evL, evO, evP, ne_eq, not_false_eq_true, if_true, if_false, reduceCtorEq, ite_true, ite_false, reduceIte, put_app, AV.cells, and_true, true_and, and_self, decide_true, decide_false, ↓yielded_eq, yv_some, boolOf_bool, List.getElem?_toArray, List.getElem?_cons_zero, List.getElem?_cons_succ, Nat.reduceLT, Nat.reduceEqDiff, beq_self_eq_true, Option.some_beq_some, wr_app, wr_app0, rd_app, rd_app0, rdL_here, rdL_next, wrL_here, wrL_next, spl, List.all_cons, List.all_nil, AV.one, Bool.and_self, Bool.true_and, List.drop_zero, List.take_succ_cons, List.take_zero, List.drop_succ_cons, List.head?_cons, Nat.reduceAdd, Nat.reduceLeDiff, List.length_cons, List.length_nil, List.nil_append, List.cons_append, List.set_cons_zero, List.set_cons_succ, Int.toNat_natCast, Nat.add_zero, b_ft, b_tf, Bool.false_eq_true]
  exact ⟨_, rfl, by simp only [List.length_set, hlen]⟩

theorem ref_wit_outer {v : AV} {l : List E6} {a b : E6} {r : Nat} (hl : l.length < 2 ^ 62) : ∀ (d k : Nat) (tm : List AV) (H : AH), l.length - k = d → k ≤ l.length → EvS H v l →
    (∀ L, rdCells (H ++ L) r 0 5 = some [I a.sp, I a.bl, I a.ce, I a.th, I a.ki]) → (∀ L, rdCells (H ++ L) r 5 5 = some [I b.sp, I b.bl, I b.ce, I b.th, I b.ki]) →
    tm.length = 51 → tm.getD 0 undefA = v → tm.getD 3 undefA = .ptr r 0 → tm.getD 7 undefA = I k →
    ∃ e tm' L, EvC Try.prog C3 l23_1 (tm, H) = some (e, (tm', H ++ L)) ∧ tm'.length = 51 ∧
      ((∃ i n, firstPair (fun x y => x.wit' y a b) l (l.drop k) k = some (i, n) ∧ e = .ret ∧ tm'.getD 4 undefA = I i ∧ tm'.getD 5 undefA = I n ∧ tm'.getD 6 undefA = .bool true) ∨
       (firstPair (fun x y => x.wit' y a b) l (l.drop k) k = none ∧ e = .exit 0)) := by
  intro d
  induction d with
  | zero =>
    intro k tm H hd hk hv hA hB hlen h0 h3 h7
    obtain rfl : k = l.length := by omega
    obtain ⟨tm', he, hl'⟩ := ref_wit_outer_end hv hlen h0 h7
    exact ⟨_, tm', [], by rw [List.append_nil]; exact he, hl', .inr ⟨by simp [firstPair], rfl⟩⟩
  | succ d ih =>
    intro k tm H hd hk hv hA hB hlen h0 h3 h7
    obtain ⟨y, hy⟩ : ∃ y, l[k]? = some y := ⟨_, List.getElem?_eq_getElem (by omega)⟩
    have hdl : l.drop k = y :: l.drop (k + 1) := by rw [List.drop_eq_getElem_cons (by omega)]; congr 1; rw [List.getElem?_eq_getElem (by omega)] at hy; exact Option.some.inj hy
    rw [hdl]
    simp only [firstPair]
    rcases ref_wit_outer_round (a := a) (b := b) hv (by omega) hl hy hA hB hlen h0 h3 h7 with ⟨i, hf, tm', L, hev, hl', g4, g5, g6⟩ | ⟨hf, tm', L, hev, hl', hkeep, g7⟩
    · rw [hf]
      exact ⟨_, tm', L, hev, hl', .inl ⟨i, k, rfl, rfl, g4, g5, g6⟩⟩
    · rw [hf]
      obtain ⟨e', tm2, L2, hev2, hl2, hc⟩ := ih (k + 1) tm' (H ++ L) (by omega) (by omega) (hv.more L) (rd_grow hA L) (rd_grow hB L) hl' ((hkeep 0 (by simp)).trans h0) ((hkeep 3 (by simp)).trans h3) g7
      exact ⟨e', tm2, L ++ L2, by rw [hev, hev2, List.append_assoc], hl2, hc⟩

end Go.Dv
