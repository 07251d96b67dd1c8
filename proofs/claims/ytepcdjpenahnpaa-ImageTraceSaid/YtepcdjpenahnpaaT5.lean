/- image.Trace, its reference and SameInts, whole (own work). -/
import Derived.Test.YtepcdjpenahnpaaT4
namespace Go.Dv
open Go.Proofs
set_option maxRecDepth 100000
set_option linter.unusedSimpArgs false
set_option linter.unusedVariables false
attribute [local congr] bind_congr_first

theorem KeepB.trans {b : Nat} {H H' H'' : AH} (h : KeepB b H H') (k : KeepB b H' H'') : KeepB b H H'' := fun i hi => (k i hi).trans (h i hi)
theorem KeepB.refl (b : Nat) (H : AH) : KeepB b H H := fun _ _ => rfl
theorem KeepB.rd {b : Nat} {H H' : AH} (h : KeepB b H H') {i k n : Nat} {xs : List AV} (hi : i < b) (hr : rdCells H i k n = some xs) : rdCells H' i k n = some xs := by
  unfold rdCells at hr ⊢; rw [h i hi]; exact hr

theorem traceOf_drop (l : List E6) (j : Nat) (e : E6) (hj : l[j]? = some e) : traceOf (l.drop j) = traceOf [e] ++ traceOf (l.drop (j + 1)) := by
  have hl := lt_of_get hj
  have : l.drop j = e :: l.drop (j + 1) := by
    rw [List.drop_eq_getElem_cons hl]
    congr 1
    rw [List.getElem?_eq_getElem hl] at hj
    exact Option.some.inj hj
  rw [this]; simp [traceOf]

theorem traceOf_len (e : E6) : (traceOf [e]).length ≤ 1 := by simp only [traceOf, List.flatMap_cons, List.flatMap_nil, List.append_nil]; split <;> simp

def Events (H : AH) (v : AV) (l : List E6) : Prop := (v = .nilSlice ∧ l = []) ∨ ∃ i k cap ex, v = .slice i k 6 l.length cap ex ∧ i < H.length ∧ ∀ j e, l[j]? = some e → rdCells H i (k + j * 6) 6 = some e.cells

theorem trace_loop0 {b i k cap : Nat} {ex : Bool} {l : List E6} (hl : l.length < 2 ^ 42) (hib : i < b) : ∀ (d j : Nat) (tm : List AV) (H : AH) (xs : List AV), l.length - j = d → j ≤ l.length → (∀ j e, l[j]? = some e → rdCells H i (k + j * 6) 6 = some e.cells) →
    TrS b (.slice i k 6 l.length cap ex) l.length j xs tm H → xs.length ≤ j →
    ∃ tm' H', EvC Try.prog C0 l33_0 (tm, H) = some (.exit 0, (tm', H')) ∧ tm'.length = 45 ∧ Own b H' 1 3 (tm'.getD 3 undefA) (xs ++ (traceOf (l.drop j)).map I) ∧ KeepB b H H' ∧ b ≤ H'.length := by
  intro d
  induction d with
  | zero =>
    intro j tm H xs hd hj hrow hs hxl
    have hjl : j = l.length := by omega
    subst hjl
    have hlen := hs.len
    have h7 := hs.s7
    have h9 := hs.s9
    have h8 := hs.s8
    have hlt : decide ((l.length : Int) < (l.length : Int)) = false := by simp
    rw [el33_0]
    simp -implicitDefEqProofs only [b33_0, atPath, Try.f33, Option.getD_some, hlen, h7, h9, h8,  hlt, ln22, ↓EvC_seq, ↓EvC_skip, ↓EvC_exit, ↓EvC_ret, ↓EvC_block, ↓EvC_cond, ↓ev_region, ↓runL_cons, ↓runL_nil, ↓stepO_none, ↓stepO_guard, ↓aop_move, ↓aop_assign, ↓aop_load, ↓aop_store, ↓aop_alloc, ↓aop_box, ↓aop_nilCheck, ↓aop_fieldAddr, ↓aop_field, ↓aop_indexAddr, ↓aop_binOp, ↓aop_pick, ↓aop_extract, ↓aop_buildSlice, ↓aop_slice, ↓aop_not, ↓aop_call, ↓callA_len, ↓callA_append, ev_tmp, ev_const, ofV_int, ofV_bool, ofV_str, ofV_nilSlice, ofV_nilPtr, putA_some, putA_none, gs_self, gs_ne, List.length_set, Option.bind_some, Option.map_some, intBinA, evL, evO, evP, ne_eq, not_false_eq_true, if_true, if_false, reduceCtorEq, ite_true, ite_false, reduceIte, put_app, AV.cells, and_true, true_and, and_self, decide_true, decide_false, ↓yielded_eq, yv_some, boolOf_bool, List.getElem?_toArray, List.getElem?_cons_zero, List.getElem?_cons_succ, Nat.reduceLT, Nat.reduceEqDiff, beq_self_eq_true, Option.some_beq_some, wr_app, wr_app0, rd_app, rd_app0, rdL_here, rdL_next, wrL_here, wrL_next, spl, List.all_cons, List.all_nil, AV.one, Bool.and_self, Bool.true_and, List.drop_zero, List.take_succ_cons, List.take_zero, List.drop_succ_cons, List.head?_cons, Nat.reduceAdd, Nat.reduceLeDiff, List.length_cons, List.length_nil, List.nil_append, List.cons_append, List.set_cons_zero, List.set_cons_succ, Int.toNat_natCast, Nat.add_zero, b_ft, b_tf, Bool.false_eq_true]
    refine ⟨_, _, rfl, ?_, ?_, KeepB.refl b H, hs.le⟩
    · simp only [List.length_set, hlen]
    · simp only [hlen, gs_self, gs_ne, List.length_set, ne_eq, Nat.reduceEqDiff, Nat.reduceLT, not_false_eq_true]
      simpa [traceOf] using hs.own
  | succ d ih =>
    intro j tm H xs hd hj hrow hs hxl
    obtain ⟨e, he⟩ : ∃ e, l[j]? = some e := ⟨_, List.getElem?_eq_getElem (by omega)⟩
    obtain ⟨tm1, H1, hstep, hs1, hk1⟩ := trace_round he hl hs hxl (hrow j e he)
    have htl := traceOf_len e
    obtain ⟨tm', H', hev, hlen', hown', hk', hb'⟩ := ih (j + 1) tm1 H1 _ (by omega) (by omega) (fun j e h => hk1.rd hib (hrow j e h)) hs1 (by simp; omega)
    refine ⟨tm', H', hstep.trans hev, hlen', ?_, hk1.trans hk', hb'⟩
    rw [traceOf_drop l j e he]
    simpa using hown'

theorem ref_loop0 {b i k cap : Nat} {ex : Bool} {l : List E6} (hl : l.length < 2 ^ 42) (hib : i < b) : ∀ (d j : Nat) (tm : List AV) (H : AH) (xs : List AV), l.length - j = d → j ≤ l.length → (∀ j e, l[j]? = some e → rdCells H i (k + j * 6) 6 = some e.cells) →
    TrR b (.slice i k 6 l.length cap ex)  j xs tm H → xs.length ≤ j →
    ∃ tm' H', EvC Try.prog C0 l34_0 (tm, H) = some (.exit 0, (tm', H')) ∧ tm'.length = 46 ∧ Own b H' 1 3 (tm'.getD 3 undefA) (xs ++ (traceOf (l.drop j)).map I) ∧ KeepB b H H' ∧ b ≤ H'.length := by
  intro d
  induction d with
  | zero =>
    intro j tm H xs hd hj hrow hs hxl
    have hjl : j = l.length := by omega
    subst hjl
    have hlen := hs.len
    have h7 := hs.s7
    have h9 := hs.s9
    have hlt : decide ((l.length : Int) < (l.length : Int)) = false := by simp
    rw [el34_0]
    simp -implicitDefEqProofs only [b34_0, atPath, Try.f34, Option.getD_some, hlen, h7, h9,  hlt, ln22, ↓EvC_seq, ↓EvC_skip, ↓EvC_exit, ↓EvC_ret, ↓EvC_block, ↓EvC_cond, ↓ev_region, ↓runL_cons, ↓runL_nil, ↓stepO_none, ↓stepO_guard, ↓aop_move, ↓aop_assign, ↓aop_load, ↓aop_store, ↓aop_alloc, ↓aop_box, ↓aop_nilCheck, ↓aop_fieldAddr, ↓aop_field, ↓aop_indexAddr, ↓aop_binOp, ↓aop_pick, ↓aop_extract, ↓aop_buildSlice, ↓aop_slice, ↓aop_not, ↓aop_call, ↓callA_len, ↓callA_append, ev_tmp, ev_const, ofV_int, ofV_bool, ofV_str, ofV_nilSlice, ofV_nilPtr, putA_some, putA_none, gs_self, gs_ne, List.length_set, Option.bind_some, Option.map_some, intBinA, evL, evO, evP, ne_eq, not_false_eq_true, if_true, if_false, reduceCtorEq, ite_true, ite_false, reduceIte, put_app, AV.cells, and_true, true_and, and_self, decide_true, decide_false, ↓yielded_eq, yv_some, boolOf_bool, List.getElem?_toArray, List.getElem?_cons_zero, List.getElem?_cons_succ, Nat.reduceLT, Nat.reduceEqDiff, beq_self_eq_true, Option.some_beq_some, wr_app, wr_app0, rd_app, rd_app0, rdL_here, rdL_next, wrL_here, wrL_next, spl, List.all_cons, List.all_nil, AV.one, Bool.and_self, Bool.true_and, List.drop_zero, List.take_succ_cons, List.take_zero, List.drop_succ_cons, List.head?_cons, Nat.reduceAdd, Nat.reduceLeDiff, List.length_cons, List.length_nil, List.nil_append, List.cons_append, List.set_cons_zero, List.set_cons_succ, Int.toNat_natCast, Nat.add_zero, b_ft, b_tf, Bool.false_eq_true]
    refine ⟨_, _, rfl, ?_, ?_, KeepB.refl b H, hs.le⟩
    · simp only [List.length_set, hlen]
    · simp only [hlen, gs_self, gs_ne, List.length_set, ne_eq, Nat.reduceEqDiff, Nat.reduceLT, not_false_eq_true]
      simpa [traceOf] using hs.own
  | succ d ih =>
    intro j tm H xs hd hj hrow hs hxl
    obtain ⟨e, he⟩ : ∃ e, l[j]? = some e := ⟨_, List.getElem?_eq_getElem (by omega)⟩
    obtain ⟨tm1, H1, hstep, hs1, hk1⟩ := ref_round he hl hs hxl (hrow j e he)
    have htl := traceOf_len e
    obtain ⟨tm', H', hev, hlen', hown', hk', hb'⟩ := ih (j + 1) tm1 H1 _ (by omega) (by omega) (fun j e h => hk1.rd hib (hrow j e h)) hs1 (by simp; omega)
    refine ⟨tm', H', hstep.trans hev, hlen', ?_, hk1.trans hk', hb'⟩
    rw [traceOf_drop l j e he]
    simpa using hown'

theorem trace_loop {b i k cap : Nat} {ex : Bool} {l : List E6} {tm : List AV} {H : AH} {X : Option (AExit × St)} (hX : EvC Try.prog C0 l33_0 (tm, H) = X) (hl : l.length < 2 ^ 42) (hib : i < b) (hrow : ∀ j e, l[j]? = some e → rdCells H i (k + j * 6) 6 = some e.cells)
    (hs : TrS b (.slice i k 6 l.length cap ex) l.length 0 [] tm H) :
    ∃ tm' H', X = some (.exit 0, (tm', H')) ∧ tm'.length = 45 ∧ Own b H' 1 3 (tm'.getD 3 undefA) ((traceOf l).map I) ∧ KeepB b H H' ∧ b ≤ H'.length := by
  obtain ⟨tm', H', h1, h2, h3, h4⟩ := trace_loop0 (b := b) (k := k) (cap := cap) (ex := ex) hl hib l.length 0 tm H [] (by omega) (by omega) hrow hs (by simp)
  exact ⟨tm', H', hX ▸ h1, h2, by simpa using h3, h4⟩

theorem ref_loop {b i k cap : Nat} {ex : Bool} {l : List E6} {tm : List AV} {H : AH} {X : Option (AExit × St)} (hX : EvC Try.prog C0 l34_0 (tm, H) = X) (hl : l.length < 2 ^ 42) (hib : i < b) (hrow : ∀ j e, l[j]? = some e → rdCells H i (k + j * 6) 6 = some e.cells)
    (hs : TrR b (.slice i k 6 l.length cap ex)  0 [] tm H) :
    ∃ tm' H', X = some (.exit 0, (tm', H')) ∧ tm'.length = 46 ∧ Own b H' 1 3 (tm'.getD 3 undefA) ((traceOf l).map I) ∧ KeepB b H H' ∧ b ≤ H'.length := by
  obtain ⟨tm', H', h1, h2, h3, h4⟩ := ref_loop0 (b := b) (k := k) (cap := cap) (ex := ex) hl hib l.length 0 tm H [] (by omega) (by omega) hrow hs (by simp)
  exact ⟨tm', H', hX ▸ h1, h2, by simpa using h3, h4⟩

theorem trace_exit {tm : List AV} {H : AH} {X : Option (AExit × St)} (hX : EvC Try.prog C0 l33_0 (tm, H) = X) (hlen : tm.length = 45) (h8 : tm.getD 8 undefA = I 0) (h9 : tm.getD 9 undefA = I 0) : X = some (.exit 0, (tm.set 10 (.bool false), H)) := by
  subst hX
  have hlt : decide ((0 : Int) < (0 : Int)) = false := by decide
  rw [el33_0]
  simp -implicitDefEqProofs only [b33_0, atPath, Try.f33, Option.getD_some, hlen, h8, h9, hlt, ↓EvC_seq, ↓EvC_skip, ↓EvC_exit, ↓EvC_ret, ↓EvC_block, ↓EvC_cond, ↓ev_region, ↓runL_cons, ↓runL_nil, ↓stepO_none, ↓stepO_guard, ↓aop_move, ↓aop_assign, ↓aop_load, ↓aop_store, ↓aop_alloc, ↓aop_box, ↓aop_nilCheck, ↓aop_fieldAddr, ↓aop_field, ↓aop_indexAddr, ↓aop_binOp, ↓aop_pick, ↓aop_extract, ↓aop_buildSlice, ↓aop_slice, ↓aop_not, ↓aop_call, ↓callA_len, ↓callA_append, ev_tmp, ev_const, ofV_int, ofV_bool, ofV_str, ofV_nilSlice, ofV_nilPtr, putA_some, putA_none, gs_self, gs_ne, List.length_set, Option.bind_some, Option.map_some, intBinA, evL, evO, evP, ne_eq, not_false_eq_true, if_true, if_false, reduceCtorEq, ite_true, ite_false, reduceIte, put_app, AV.cells, and_true, true_and, and_self, decide_true, decide_false, ↓yielded_eq, yv_some, boolOf_bool, List.getElem?_toArray, List.getElem?_cons_zero, List.getElem?_cons_succ, Nat.reduceLT, Nat.reduceEqDiff, beq_self_eq_true, Option.some_beq_some, wr_app, wr_app0, rd_app, rd_app0, rdL_here, rdL_next, wrL_here, wrL_next, spl, List.all_cons, List.all_nil, AV.one, Bool.and_self, Bool.true_and, List.drop_zero, List.take_succ_cons, List.take_zero, List.drop_succ_cons, List.head?_cons, Nat.reduceAdd, Nat.reduceLeDiff, List.length_cons, List.length_nil, List.nil_append, List.cons_append, List.set_cons_zero, List.set_cons_succ, Int.toNat_natCast, Nat.add_zero, b_ft, b_tf, Bool.false_eq_true]

theorem trace_ev (H : AH) (v : AV) (l : List E6) (hl : l.length < 2 ^ 42) (hv : Events H v l) : ∃ r H', Ev Try.prog C0 33 [v] H = some (r, H') ∧ Own H.length H' 1 3 r ((traceOf l).map I) ∧ Keeps H H' := by
  have g0 : ([v] ++ List.replicate (45 - [v].length) undefA).length = 45 := by simp
  have g1 : ([v] ++ List.replicate (45 - [v].length) undefA).getD 0 undefA = v := rfl
  rw [fe33]
  generalize [v] ++ List.replicate (45 - [v].length) undefA = tm at *
  rcases hv with ⟨rfl, rfl⟩ | ⟨i, k, cap, ex, rfl, hib, hrow⟩
  · refine ⟨.nilSlice, H, ?_, .nil, Keeps.refl H⟩
    simp -implicitDefEqProofs only [c33, Try.f33, Option.getD_some, ln22n, g0, g1, ↓EvC_seq, ↓EvC_skip, ↓EvC_exit, ↓EvC_ret, ↓EvC_block, ↓EvC_cond, ↓ev_region, ↓runL_cons, ↓runL_nil, ↓stepO_none, ↓stepO_guard, ↓aop_move, ↓aop_assign, ↓aop_load, ↓aop_store, ↓aop_alloc, ↓aop_box, ↓aop_nilCheck, ↓aop_fieldAddr, ↓aop_field, ↓aop_indexAddr, ↓aop_binOp, ↓aop_pick, ↓aop_extract, ↓aop_buildSlice, ↓aop_slice, ↓aop_not, ↓aop_call, ↓callA_len, ↓callA_append, ev_tmp, ev_const, ofV_int, ofV_bool, ofV_str, ofV_nilSlice, ofV_nilPtr, putA_some, putA_none, gs_self, gs_ne, List.length_set, Option.bind_some, Option.map_some, intBinA, evL, evO, evP, ne_eq, not_false_eq_true, if_true, if_false, reduceCtorEq, ite_true, ite_false, reduceIte, put_app, AV.cells, and_true, true_and, and_self, decide_true, decide_false, ↓yielded_eq, yv_some, boolOf_bool, List.getElem?_toArray, List.getElem?_cons_zero, List.getElem?_cons_succ, Nat.reduceLT, Nat.reduceEqDiff, beq_self_eq_true, Option.some_beq_some, wr_app, wr_app0, rd_app, rd_app0, rdL_here, rdL_next, wrL_here, wrL_next, spl, List.all_cons, List.all_nil, AV.one, Bool.and_self, Bool.true_and, List.drop_zero, List.take_succ_cons, List.take_zero, List.drop_succ_cons, List.head?_cons, Nat.reduceAdd, Nat.reduceLeDiff, List.length_cons, List.length_nil, List.nil_append, List.cons_append, List.set_cons_zero, List.set_cons_succ, Int.toNat_natCast, Nat.add_zero, b_ft, b_tf, Bool.false_eq_true]
    generalize hX : EvC Try.prog C0 (Code.loop _) _ = X
    rw [trace_exit hX (by simp only [List.length_set, g0]) (by simp only [g0, g1, gs_self, gs_ne, List.length_set, ne_eq, Nat.reduceEqDiff, Nat.reduceLT, not_false_eq_true]) (by simp only [g0, g1, gs_self, gs_ne, List.length_set, ne_eq, Nat.reduceEqDiff, Nat.reduceLT, not_false_eq_true])]
    simp -implicitDefEqProofs only [g0, g1, ↓EvC_seq, ↓EvC_skip, ↓EvC_exit, ↓EvC_ret, ↓EvC_block, ↓EvC_cond, ↓ev_region, ↓runL_cons, ↓runL_nil, ↓stepO_none, ↓stepO_guard, ↓aop_move, ↓aop_assign, ↓aop_load, ↓aop_store, ↓aop_alloc, ↓aop_box, ↓aop_nilCheck, ↓aop_fieldAddr, ↓aop_field, ↓aop_indexAddr, ↓aop_binOp, ↓aop_pick, ↓aop_extract, ↓aop_buildSlice, ↓aop_slice, ↓aop_not, ↓aop_call, ↓callA_len, ↓callA_append, ev_tmp, ev_const, ofV_int, ofV_bool, ofV_str, ofV_nilSlice, ofV_nilPtr, putA_some, putA_none, gs_self, gs_ne, List.length_set, Option.bind_some, Option.map_some, intBinA, evL, evO, evP, ne_eq, not_false_eq_true, if_true, if_false, reduceCtorEq, ite_true, ite_false, reduceIte, put_app, AV.cells, and_true, true_and, and_self, decide_true, decide_false, ↓yielded_eq, yv_some, boolOf_bool, List.getElem?_toArray, List.getElem?_cons_zero, List.getElem?_cons_succ, Nat.reduceLT, Nat.reduceEqDiff, beq_self_eq_true, Option.some_beq_some, wr_app, wr_app0, rd_app, rd_app0, rdL_here, rdL_next, wrL_here, wrL_next, spl, List.all_cons, List.all_nil, AV.one, Bool.and_self, Bool.true_and, List.drop_zero, List.take_succ_cons, List.take_zero, List.drop_succ_cons, List.head?_cons, Nat.reduceAdd, Nat.reduceLeDiff, List.length_cons, List.length_nil, List.nil_append, List.cons_append, List.set_cons_zero, List.set_cons_succ, Int.toNat_natCast, Nat.add_zero, b_ft, b_tf, Bool.false_eq_true]
  · simp -implicitDefEqProofs only [c33, Try.f33, Option.getD_some, ln22, g0, g1, ↓EvC_seq, ↓EvC_skip, ↓EvC_exit, ↓EvC_ret, ↓EvC_block, ↓EvC_cond, ↓ev_region, ↓runL_cons, ↓runL_nil, ↓stepO_none, ↓stepO_guard, ↓aop_move, ↓aop_assign, ↓aop_load, ↓aop_store, ↓aop_alloc, ↓aop_box, ↓aop_nilCheck, ↓aop_fieldAddr, ↓aop_field, ↓aop_indexAddr, ↓aop_binOp, ↓aop_pick, ↓aop_extract, ↓aop_buildSlice, ↓aop_slice, ↓aop_not, ↓aop_call, ↓callA_len, ↓callA_append, ev_tmp, ev_const, ofV_int, ofV_bool, ofV_str, ofV_nilSlice, ofV_nilPtr, putA_some, putA_none, gs_self, gs_ne, List.length_set, Option.bind_some, Option.map_some, intBinA, evL, evO, evP, ne_eq, not_false_eq_true, if_true, if_false, reduceCtorEq, ite_true, ite_false, reduceIte, put_app, AV.cells, and_true, true_and, and_self, decide_true, decide_false, ↓yielded_eq, yv_some, boolOf_bool, List.getElem?_toArray, List.getElem?_cons_zero, List.getElem?_cons_succ, Nat.reduceLT, Nat.reduceEqDiff, beq_self_eq_true, Option.some_beq_some, wr_app, wr_app0, rd_app, rd_app0, rdL_here, rdL_next, wrL_here, wrL_next, spl, List.all_cons, List.all_nil, AV.one, Bool.and_self, Bool.true_and, List.drop_zero, List.take_succ_cons, List.take_zero, List.drop_succ_cons, List.head?_cons, Nat.reduceAdd, Nat.reduceLeDiff, List.length_cons, List.length_nil, List.nil_append, List.cons_append, List.set_cons_zero, List.set_cons_succ, Int.toNat_natCast, Nat.add_zero, b_ft, b_tf, Bool.false_eq_true]
    generalize hX : EvC Try.prog C0 (Code.loop _) _ = X
    obtain ⟨tm', H', hev, hlen', hown', hk', hb'⟩ := trace_loop (b := H.length) hX hl hib hrow ⟨by simp only [List.length_set, g0] <;> exact rfl, by simp only [g0, g1, gs_self, gs_ne, List.length_set, ne_eq, Nat.reduceEqDiff, Nat.reduceLT, not_false_eq_true] <;> exact rfl, by simp only [g0, g1, gs_self, gs_ne, List.length_set, ne_eq, Nat.reduceEqDiff, Nat.reduceLT, not_false_eq_true] <;> exact rfl, by simp only [g0, g1, gs_self, gs_ne, List.length_set, ne_eq, Nat.reduceEqDiff, Nat.reduceLT, not_false_eq_true] <;> exact rfl, by simp only [g0, g1, gs_self, gs_ne, List.length_set, ne_eq, Nat.reduceEqDiff, Nat.reduceLT, not_false_eq_true] <;> exact .nil, Nat.le_refl _⟩
    subst hev
    refine ⟨tm'.getD 3 undefA, H', ?_, hown', hb', hk'⟩
    simp -implicitDefEqProofs only [hlen', ↓EvC_seq, ↓EvC_skip, ↓EvC_exit, ↓EvC_ret, ↓EvC_block, ↓EvC_cond, ↓ev_region, ↓runL_cons, ↓runL_nil, ↓stepO_none, ↓stepO_guard, ↓aop_move, ↓aop_assign, ↓aop_load, ↓aop_store, ↓aop_alloc, ↓aop_box, ↓aop_nilCheck, ↓aop_fieldAddr, ↓aop_field, ↓aop_indexAddr, ↓aop_binOp, ↓aop_pick, ↓aop_extract, ↓aop_buildSlice, ↓aop_slice, ↓aop_not, ↓aop_call, ↓callA_len, ↓callA_append, ev_tmp, ev_const, ofV_int, ofV_bool, ofV_str, ofV_nilSlice, ofV_nilPtr, putA_some, putA_none, gs_self, gs_ne, List.length_set, Option.bind_some, Option.map_some, intBinA, evL, evO, evP, ne_eq, not_false_eq_true, if_true, if_false, reduceCtorEq, ite_true, ite_false, reduceIte, put_app, AV.cells, and_true, true_and, and_self, decide_true, decide_false, ↓yielded_eq, yv_some, boolOf_bool, List.getElem?_toArray, List.getElem?_cons_zero, List.getElem?_cons_succ, Nat.reduceLT, Nat.reduceEqDiff, beq_self_eq_true, Option.some_beq_some, wr_app, wr_app0, rd_app, rd_app0, rdL_here, rdL_next, wrL_here, wrL_next, spl, List.all_cons, List.all_nil, AV.one, Bool.and_self, Bool.true_and, List.drop_zero, List.take_succ_cons, List.take_zero, List.drop_succ_cons, List.head?_cons, Nat.reduceAdd, Nat.reduceLeDiff, List.length_cons, List.length_nil, List.nil_append, List.cons_append, List.set_cons_zero, List.set_cons_succ, Int.toNat_natCast, Nat.add_zero, b_ft, b_tf, Bool.false_eq_true]

theorem ref_exit {tm : List AV} {H : AH} {X : Option (AExit × St)} (hX : EvC Try.prog C0 l34_0 (tm, H) = X) (hlen : tm.length = 46) (h0 : tm.getD 0 undefA = .nilSlice) (h4 : tm.getD 4 undefA = I 0) : ∃ tm', X = some (.exit 0, (tm', H)) ∧ tm'.length = 46 ∧ tm'.getD 3 undefA = tm.getD 3 undefA := by
  subst hX
  have hlt : decide ((0 : Int) < (0 : Int)) = false := by decide
  rw [el34_0]
  simp -implicitDefEqProofs only [b34_0, atPath, Try.f34, Option.getD_some, hlen, h0, h4, hlt, ln22n, ↓EvC_seq, ↓EvC_skip, ↓EvC_exit, ↓EvC_ret, ↓EvC_block, ↓EvC_cond, ↓ev_region, ↓runL_cons, ↓runL_nil, ↓stepO_none, ↓stepO_guard, ↓aop_move, ↓aop_assign, ↓aop_load, ↓aop_store, ↓aop_alloc, ↓aop_box, ↓aop_nilCheck, ↓aop_fieldAddr, ↓aop_field, ↓aop_indexAddr, ↓aop_binOp, ↓aop_pick, ↓aop_extract, ↓aop_buildSlice, ↓aop_slice, ↓aop_not, ↓aop_call, ↓callA_len, ↓callA_append, ev_tmp, ev_const, ofV_int, ofV_bool, ofV_str, ofV_nilSlice, ofV_nilPtr, putA_some, putA_none, gs_self, gs_ne, List.length_set, Option.bind_some, Option.map_some, intBinA, evL, evO, evP, ne_eq, not_false_eq_true, if_true, if_false, reduceCtorEq, ite_true, ite_false, reduceIte, put_app, AV.cells, and_true, true_and, and_self, decide_true, decide_false, ↓yielded_eq, yv_some, boolOf_bool, List.getElem?_toArray, List.getElem?_cons_zero, List.getElem?_cons_succ, Nat.reduceLT, Nat.reduceEqDiff, beq_self_eq_true, Option.some_beq_some, wr_app, wr_app0, rd_app, rd_app0, rdL_here, rdL_next, wrL_here, wrL_next, spl, List.all_cons, List.all_nil, AV.one, Bool.and_self, Bool.true_and, List.drop_zero, List.take_succ_cons, List.take_zero, List.drop_succ_cons, List.head?_cons, Nat.reduceAdd, Nat.reduceLeDiff, List.length_cons, List.length_nil, List.nil_append, List.cons_append, List.set_cons_zero, List.set_cons_succ, Int.toNat_natCast, Nat.add_zero, b_ft, b_tf, Bool.false_eq_true]
  refine ⟨_, rfl, by simp only [List.length_set, hlen], by simp only [hlen, gs_self, gs_ne, List.length_set, ne_eq, Nat.reduceEqDiff, Nat.reduceLT, not_false_eq_true]⟩

theorem ref_ev (H : AH) (v : AV) (l : List E6) (hl : l.length < 2 ^ 42) (hv : Events H v l) : ∃ r H', Ev Try.prog C0 34 [v] H = some (r, H') ∧ Own H.length H' 1 3 r ((traceOf l).map I) ∧ Keeps H H' := by
  have g0 : ([v] ++ List.replicate (46 - [v].length) undefA).length = 46 := by simp
  have g1 : ([v] ++ List.replicate (46 - [v].length) undefA).getD 0 undefA = v := rfl
  rw [fe34]
  generalize [v] ++ List.replicate (46 - [v].length) undefA = tm at *
  rcases hv with ⟨rfl, rfl⟩ | ⟨i, k, cap, ex, rfl, hib, hrow⟩
  · refine ⟨.nilSlice, H, ?_, .nil, Keeps.refl H⟩
    simp -implicitDefEqProofs only [c34, Try.f34, Option.getD_some, ln22n, g0, g1, ↓EvC_seq, ↓EvC_skip, ↓EvC_exit, ↓EvC_ret, ↓EvC_block, ↓EvC_cond, ↓ev_region, ↓runL_cons, ↓runL_nil, ↓stepO_none, ↓stepO_guard, ↓aop_move, ↓aop_assign, ↓aop_load, ↓aop_store, ↓aop_alloc, ↓aop_box, ↓aop_nilCheck, ↓aop_fieldAddr, ↓aop_field, ↓aop_indexAddr, ↓aop_binOp, ↓aop_pick, ↓aop_extract, ↓aop_buildSlice, ↓aop_slice, ↓aop_not, ↓aop_call, ↓callA_len, ↓callA_append, ev_tmp, ev_const, ofV_int, ofV_bool, ofV_str, ofV_nilSlice, ofV_nilPtr, putA_some, putA_none, gs_self, gs_ne, List.length_set, Option.bind_some, Option.map_some, intBinA, evL, evO, evP, ne_eq, not_false_eq_true, if_true, if_false, reduceCtorEq, ite_true, ite_false, reduceIte, put_app, AV.cells, and_true, true_and, and_self, decide_true, decide_false, ↓yielded_eq, yv_some, boolOf_bool, List.getElem?_toArray, List.getElem?_cons_zero, List.getElem?_cons_succ, Nat.reduceLT, Nat.reduceEqDiff, beq_self_eq_true, Option.some_beq_some, wr_app, wr_app0, rd_app, rd_app0, rdL_here, rdL_next, wrL_here, wrL_next, spl, List.all_cons, List.all_nil, AV.one, Bool.and_self, Bool.true_and, List.drop_zero, List.take_succ_cons, List.take_zero, List.drop_succ_cons, List.head?_cons, Nat.reduceAdd, Nat.reduceLeDiff, List.length_cons, List.length_nil, List.nil_append, List.cons_append, List.set_cons_zero, List.set_cons_succ, Int.toNat_natCast, Nat.add_zero, b_ft, b_tf, Bool.false_eq_true]
    generalize hX : EvC Try.prog C0 (Code.loop _) _ = X
    obtain ⟨tm', rfl, hl', h3'⟩ := ref_exit hX (by simp only [List.length_set, g0]) (by simp only [g0, g1, gs_self, gs_ne, List.length_set, ne_eq, Nat.reduceEqDiff, Nat.reduceLT, not_false_eq_true]) (by simp only [g0, g1, gs_self, gs_ne, List.length_set, ne_eq, Nat.reduceEqDiff, Nat.reduceLT, not_false_eq_true])
    have h3 : tm'.getD 3 undefA = .nilSlice := by rw [h3']; simp only [g0, g1, gs_self, gs_ne, List.length_set, ne_eq, Nat.reduceEqDiff, Nat.reduceLT, not_false_eq_true]
    simp -implicitDefEqProofs only [hl', h3, ↓EvC_seq, ↓EvC_skip, ↓EvC_exit, ↓EvC_ret, ↓EvC_block, ↓EvC_cond, ↓ev_region, ↓runL_cons, ↓runL_nil, ↓stepO_none, ↓stepO_guard, ↓aop_move, ↓aop_assign, ↓aop_load, ↓aop_store, ↓aop_alloc, ↓aop_box, ↓aop_nilCheck, ↓aop_fieldAddr, ↓aop_field, ↓aop_indexAddr, ↓aop_binOp, ↓aop_pick, ↓aop_extract, ↓aop_buildSlice, ↓aop_slice, ↓aop_not, ↓aop_call, ↓callA_len, ↓callA_append, ev_tmp, ev_const, ofV_int, ofV_bool, ofV_str, ofV_nilSlice, ofV_nilPtr, putA_some, putA_none, gs_self, gs_ne, List.length_set, Option.bind_some, Option.map_some, intBinA, evL, evO, evP, ne_eq, not_false_eq_true, if_true, if_false, reduceCtorEq, ite_true, ite_false, reduceIte, put_app, AV.cells, and_true, true_and, and_self, decide_true, decide_false, ↓yielded_eq, yv_some, boolOf_bool, List.getElem?_toArray, List.getElem?_cons_zero, List.getElem?_cons_succ, Nat.reduceLT, Nat.reduceEqDiff, beq_self_eq_true, Option.some_beq_some, wr_app, wr_app0, rd_app, rd_app0, rdL_here, rdL_next, wrL_here, wrL_next, spl, List.all_cons, List.all_nil, AV.one, Bool.and_self, Bool.true_and, List.drop_zero, List.take_succ_cons, List.take_zero, List.drop_succ_cons, List.head?_cons, Nat.reduceAdd, Nat.reduceLeDiff, List.length_cons, List.length_nil, List.nil_append, List.cons_append, List.set_cons_zero, List.set_cons_succ, Int.toNat_natCast, Nat.add_zero, b_ft, b_tf, Bool.false_eq_true]
  · simp -implicitDefEqProofs only [c34, Try.f34, Option.getD_some, ln22, g0, g1, ↓EvC_seq, ↓EvC_skip, ↓EvC_exit, ↓EvC_ret, ↓EvC_block, ↓EvC_cond, ↓ev_region, ↓runL_cons, ↓runL_nil, ↓stepO_none, ↓stepO_guard, ↓aop_move, ↓aop_assign, ↓aop_load, ↓aop_store, ↓aop_alloc, ↓aop_box, ↓aop_nilCheck, ↓aop_fieldAddr, ↓aop_field, ↓aop_indexAddr, ↓aop_binOp, ↓aop_pick, ↓aop_extract, ↓aop_buildSlice, ↓aop_slice, ↓aop_not, ↓aop_call, ↓callA_len, ↓callA_append, ev_tmp, ev_const, ofV_int, ofV_bool, ofV_str, ofV_nilSlice, ofV_nilPtr, putA_some, putA_none, gs_self, gs_ne, List.length_set, Option.bind_some, Option.map_some, intBinA, evL, evO, evP, ne_eq, not_false_eq_true, if_true, if_false, reduceCtorEq, ite_true, ite_false, reduceIte, put_app, AV.cells, and_true, true_and, and_self, decide_true, decide_false, ↓yielded_eq, yv_some, boolOf_bool, List.getElem?_toArray, List.getElem?_cons_zero, List.getElem?_cons_succ, Nat.reduceLT, Nat.reduceEqDiff, beq_self_eq_true, Option.some_beq_some, wr_app, wr_app0, rd_app, rd_app0, rdL_here, rdL_next, wrL_here, wrL_next, spl, List.all_cons, List.all_nil, AV.one, Bool.and_self, Bool.true_and, List.drop_zero, List.take_succ_cons, List.take_zero, List.drop_succ_cons, List.head?_cons, Nat.reduceAdd, Nat.reduceLeDiff, List.length_cons, List.length_nil, List.nil_append, List.cons_append, List.set_cons_zero, List.set_cons_succ, Int.toNat_natCast, Nat.add_zero, b_ft, b_tf, Bool.false_eq_true]
    generalize hX : EvC Try.prog C0 (Code.loop _) _ = X
    obtain ⟨tm', H', hev, hlen', hown', hk', hb'⟩ := ref_loop (b := H.length) hX hl hib hrow ⟨by simp only [List.length_set, g0] <;> exact rfl, by simp only [g0, g1, gs_self, gs_ne, List.length_set, ne_eq, Nat.reduceEqDiff, Nat.reduceLT, not_false_eq_true] <;> exact rfl, by simp only [g0, g1, gs_self, gs_ne, List.length_set, ne_eq, Nat.reduceEqDiff, Nat.reduceLT, not_false_eq_true] <;> exact rfl, by simp only [g0, g1, gs_self, gs_ne, List.length_set, ne_eq, Nat.reduceEqDiff, Nat.reduceLT, not_false_eq_true] <;> exact .nil, Nat.le_refl _⟩
    subst hev
    refine ⟨tm'.getD 3 undefA, H', ?_, hown', hb', hk'⟩
    simp -implicitDefEqProofs only [hlen', ↓EvC_seq, ↓EvC_skip, ↓EvC_exit, ↓EvC_ret, ↓EvC_block, ↓EvC_cond, ↓ev_region, ↓runL_cons, ↓runL_nil, ↓stepO_none, ↓stepO_guard, ↓aop_move, ↓aop_assign, ↓aop_load, ↓aop_store, ↓aop_alloc, ↓aop_box, ↓aop_nilCheck, ↓aop_fieldAddr, ↓aop_field, ↓aop_indexAddr, ↓aop_binOp, ↓aop_pick, ↓aop_extract, ↓aop_buildSlice, ↓aop_slice, ↓aop_not, ↓aop_call, ↓callA_len, ↓callA_append, ev_tmp, ev_const, ofV_int, ofV_bool, ofV_str, ofV_nilSlice, ofV_nilPtr, putA_some, putA_none, gs_self, gs_ne, List.length_set, Option.bind_some, Option.map_some, intBinA, evL, evO, evP, ne_eq, not_false_eq_true, if_true, if_false, reduceCtorEq, ite_true, ite_false, reduceIte, put_app, AV.cells, and_true, true_and, and_self, decide_true, decide_false, ↓yielded_eq, yv_some, boolOf_bool, List.getElem?_toArray, List.getElem?_cons_zero, List.getElem?_cons_succ, Nat.reduceLT, Nat.reduceEqDiff, beq_self_eq_true, Option.some_beq_some, wr_app, wr_app0, rd_app, rd_app0, rdL_here, rdL_next, wrL_here, wrL_next, spl, List.all_cons, List.all_nil, AV.one, Bool.and_self, Bool.true_and, List.drop_zero, List.take_succ_cons, List.take_zero, List.drop_succ_cons, List.head?_cons, Nat.reduceAdd, Nat.reduceLeDiff, List.length_cons, List.length_nil, List.nil_append, List.cons_append, List.set_cons_zero, List.set_cons_succ, Int.toNat_natCast, Nat.add_zero, b_ft, b_tf, Bool.false_eq_true]
end Go.Dv
