/- The inner loops of race.Witness and ref21.Witness (printed by t32.py, own work). -/
import Derived.Test.YtepcdjpenahnpaaT31
namespace Go.Dv
open Go.Proofs
set_option maxRecDepth 100000
set_option linter.unusedSimpArgs false
set_option linter.unusedVariables false
attribute [local congr] bind_congr_first

/-- The first place, counted from n, of an element with p. -/
def firstAt (p : E6 → Bool) : List E6 → Nat → Option Nat
  | [], _ => none
  | x :: xs, n => if p x = true then some n else firstAt p xs (n + 1)

/-- A slice of events that can be cut. -/
def EvS (H : AH) (v : AV) (l : List E6) : Prop := (v = .nilSlice ∧ l = []) ∨ ∃ i k cap ex, v = .slice i k 6 l.length cap ex ∧ l.length ≤ cap ∧ ∀ j e, l[j]? = some e → rdCells H i (k + j * 6) 6 = some e.cells

theorem EvS.more {H : AH} {v : AV} {l : List E6} (h : EvS H v l) (L : AH) : EvS (H ++ L) v l := by
  rcases h with h | ⟨i, k, cap, ex, hv, hc, hr⟩
  · exact .inl h
  · exact .inr ⟨i, k, cap, ex, hv, hc, fun j e he => rd_old (hr j e he) L⟩

theorem EvS.evs {H : AH} {v : AV} {l : List E6} (h : EvS H v l) : Evs H v l := by
  rcases h with ⟨rfl, rfl⟩ | ⟨i, k, cap, ex, rfl, hc, hr⟩
  · exact ⟨fun H => ln22n H, fun j e he => by simp at he⟩
  · refine ⟨fun H => ln22 H .., fun j e he => ?_⟩
    have hj : j < l.length := (List.getElem?_eq_some_iff.1 he).1
    refine ⟨i, k + j * 6, ?_, hr j e he⟩
    rw [ia22, if_pos ⟨by omega, by omega, rfl⟩]
    simp

theorem un22 : Try.prog.underlying 22 = some (.slice 36) := by kernel_rfl
theorem ce36 : Try.prog.cellsOf 36 = 6 := by kernel_rfl
theorem in36 : (Try.prog.info? 36).isSome = true := by kernel_rfl
theorem sl22 (H : AH) (i k len cap : Nat) (ex : Bool) (n : Nat) (h : n ≤ cap) : sliceA Try.prog 22 H (.slice i k 6 len cap ex) none (some (I n)) none = some (.slice i k 6 n cap ex) := by
  obtain ⟨f, hf⟩ := Option.isSome_iff_exists.1 in36
  unfold sliceA
  simp [un22, ce36, boundA, h, hf]
theorem sl22n (H : AH) : sliceA Try.prog 22 H .nilSlice none (some (I ((0 : Nat) : Int))) none = some .nilSlice := by kernel_rfl

theorem EvS.pre {H : AH} {v : AV} {l : List E6} (h : EvS H v l) {n : Nat} (hn : n ≤ l.length) : ∃ v', (∀ H', sliceA Try.prog 22 H' v none (some (I n)) none = some v') ∧ EvS H v' (l.take n) := by
  rcases h with ⟨rfl, rfl⟩ | ⟨i, k, cap, ex, rfl, hc, hr⟩
  · obtain rfl : n = 0 := by simpa using hn
    exact ⟨_, fun H' => sl22n H', .inl ⟨rfl, rfl⟩⟩
  · have hl : (l.take n).length = n := by simp; omega
    refine ⟨_, fun H' => sl22 H' _ _ _ _ _ n (by omega), .inr ⟨i, k, cap, ex, by rw [hl], by omega, fun j e he => hr j e ?_⟩⟩
    rw [List.getElem?_take] at he
    split at he
    · exact he
    · cases he

theorem rd5 {H : AH} {i k : Nat} {e : E6} (h : rdCells H i k 6 = some e.cells) (L : AH) : rdCells (H ++ L) i k 5 = some [I e.sp, I e.bl, I e.ce, I e.th, I e.ki] := by
  have := rd_sub (rd_old h L) 0 5 (by omega); simpa [E6.cells] using this

theorem rd_grow {H : AH} {i k n : Nat} {xs : List AV} (h : ∀ L, rdCells (H ++ L) i k n = some xs) (L : AH) : ∀ L', rdCells ((H ++ L) ++ L') i k n = some xs := fun L' => by rw [List.append_assoc]; exact h _


theorem wit_end {v : AV} {H : AH} {tm : List AV} {n : Nat} (hlen : tm.length = 61) (h25 : tm.getD 25 undefA = I n) (h26 : tm.getD 26 undefA = I n) : ∃ tm', EvC Try.prog C3 l22_0 (tm, H) = some (.exit 2, (tm', H)) ∧ tm'.length = 61 ∧ (∀ t ∈ [0, 3, 8, 9, 15, 16, 17, 24, 25], tm'.getD t undefA = tm.getD t undefA) := by
  have hlt : decide ((n : Int) < (n : Int)) = false := by simp
  rw [el22_0]
  simp -implicitDefEqProofs only [b22_0, atPath, Try.f22, Option.getD_some, hlen, h25, h26, hlt, ↓EvC_seq, ↓EvC_skip, ↓EvC_exit, ↓EvC_ret, ↓EvC_block, ↓EvC_cond, ↓ev_region, ↓runL_cons, ↓runL_nil, ↓stepO_none, ↓stepO_guard, ↓aop_move, ↓aop_assign, ↓aop_load, ↓aop_store, ↓aop_alloc, ↓aop_box, ↓aop_nilCheck, ↓aop_fieldAddr, ↓aop_field, ↓aop_indexAddr, ↓aop_binOp, ↓aop_pick, ↓aop_extract, ↓aop_buildSlice, ↓aop_slice, ↓aop_not, ↓aop_call, ↓callA_len, ↓callA_append, ev_tmp, ev_const, ofV_int, ofV_bool, ofV_str, ofV_nilSlice, ofV_nilPtr, putA_some, putA_none, gs_self, gs_ne, List.length_set, Option.bind_some, Option.map_some, intBinA, evL, evO, evP, ne_eq, not_false_eq_true, if_true, if_false, reduceCtorEq, ite_true, ite_false, reduceIte, put_app, AV.cells, and_true, true_and, and_self, decide_true, decide_false, ↓yielded_eq, yv_some, boolOf_bool, List.getElem?_toArray, List.getElem?_cons_zero, List.getElem?_cons_succ, Nat.reduceLT, Nat.reduceEqDiff, beq_self_eq_true, Option.some_beq_some, wr_app, wr_app0, rd_app, rd_app0, rdL_here, rdL_next, wrL_here, wrL_next, spl, List.all_cons, List.all_nil, AV.one, Bool.and_self, Bool.true_and, List.drop_zero, List.take_succ_cons, List.take_zero, List.drop_succ_cons, List.head?_cons, Nat.reduceAdd, Nat.reduceLeDiff, List.length_cons, List.length_nil, List.nil_append, List.cons_append, List.set_cons_zero, List.set_cons_succ, Int.toNat_natCast, Nat.add_zero, b_ft, b_tf, Bool.false_eq_true]
  refine ⟨_, rfl, by simp only [List.length_set, hlen], fun t ht => ?_⟩
  simp only [List.mem_cons, List.not_mem_nil, or_false] at ht
  rcases ht with rfl | rfl | rfl | rfl | rfl | rfl | rfl | rfl | rfl <;> simp only [hlen, gs_self, gs_ne, List.length_set, ne_eq, Nat.reduceEqDiff, Nat.reduceLT, not_false_eq_true]


theorem ref_wit_end {v : AV} {H : AH} {tm : List AV} {n : Nat} (hlen : tm.length = 51) (h7 : tm.getD 7 undefA = I n) (h8 : tm.getD 8 undefA = I n) : ∃ tm', EvC Try.prog C3 l23_0 (tm, H) = some (.exit 2, (tm', H)) ∧ tm'.length = 51 ∧ (∀ t ∈ [0, 3, 7], tm'.getD t undefA = tm.getD t undefA) := by
  have hlt : decide ((n : Int) < (n : Int)) = false := by simp
  rw [el23_0]
  simp -implicitDefEqProofs only [b23_0, atPath, Try.f23, Option.getD_some, hlen, h7, h8, hlt, ↓EvC_seq, ↓EvC_skip, ↓EvC_exit, ↓EvC_ret, ↓EvC_block, ↓EvC_cond, ↓ev_region, ↓runL_cons, ↓runL_nil, ↓stepO_none, ↓stepO_guard, ↓aop_move, ↓aop_assign, ↓aop_load, ↓aop_store, ↓aop_alloc, ↓aop_box, ↓aop_nilCheck, ↓aop_fieldAddr, ↓aop_field, ↓aop_indexAddr, ↓aop_binOp, ↓aop_pick, ↓aop_extract, ↓aop_buildSlice, ↓aop_slice, ↓aop_not, ↓aop_call, ↓callA_len, ↓callA_append, ev_tmp, ev_const, ofV_int, ofV_bool, ofV_str, ofV_nilSlice, ofV_nilPtr, putA_some, putA_none, gs_self, gs_ne, List.length_set, Option.bind_some, Option.map_some, intBinA, evL, evO, evP, ne_eq, not_false_eq_true, if_true, if_false, reduceCtorEq, ite_true, ite_false, reduceIte, put_app, AV.cells, and_true, true_and, and_self, decide_true, decide_false, ↓yielded_eq, yv_some, boolOf_bool, List.getElem?_toArray, List.getElem?_cons_zero, List.getElem?_cons_succ, Nat.reduceLT, Nat.reduceEqDiff, beq_self_eq_true, Option.some_beq_some, wr_app, wr_app0, rd_app, rd_app0, rdL_here, rdL_next, wrL_here, wrL_next, spl, List.all_cons, List.all_nil, AV.one, Bool.and_self, Bool.true_and, List.drop_zero, List.take_succ_cons, List.take_zero, List.drop_succ_cons, List.head?_cons, Nat.reduceAdd, Nat.reduceLeDiff, List.length_cons, List.length_nil, List.nil_append, List.cons_append, List.set_cons_zero, List.set_cons_succ, Int.toNat_natCast, Nat.add_zero, b_ft, b_tf, Bool.false_eq_true]
  refine ⟨_, rfl, by simp only [List.length_set, hlen], fun t ht => ?_⟩
  simp only [List.mem_cons, List.not_mem_nil, or_false] at ht
  rcases ht with rfl | rfl | rfl <;> simp only [hlen, gs_self, gs_ne, List.length_set, ne_eq, Nat.reduceEqDiff, Nat.reduceLT, not_false_eq_true]


theorem wit_inner {v : AV} {p : List E6} {kk : Nat} {y a b : E6} {r iy : Nat} (hn : p.length < 2 ^ 62) : ∀ (d j : Nat) (tm : List AV) (H : AH), p.length - j = d → j ≤ p.length → EvS H v p →
    (∀ L, rdCells (H ++ L) r 0 5 = some [I a.sp, I a.bl, I a.ce, I a.th, I a.ki]) → (∀ L, rdCells (H ++ L) r 5 5 = some [I b.sp, I b.bl, I b.ce, I b.th, I b.ki]) →
    (∀ L, rdCells (H ++ L) iy 0 6 = some [I y.sp, I y.bl, I y.ce, I y.th, I y.ki, I y.ph]) → (∀ L, rdCells (H ++ L) iy 0 5 = some [I y.sp, I y.bl, I y.ce, I y.th, I y.ki]) →
    tm.length = 61 → tm.getD 3 undefA = .ptr r 0 → tm.getD 8 undefA = I kk → tm.getD 9 undefA = .ptr iy 0 → tm.getD 24 undefA = v → tm.getD 25 undefA = I p.length → tm.getD 26 undefA = I j →
    ∃ e tm' L, EvC Try.prog C3 l22_0 (tm, H) = some (e, (tm', H ++ L)) ∧ tm'.length = 61 ∧
      ((∃ i, firstAt (fun x => x.wit y a b) (p.drop j) j = some i ∧ e = .ret ∧ tm'.getD 4 undefA = I i ∧ tm'.getD 5 undefA = I kk ∧ tm'.getD 6 undefA = .bool true ∧ tm'.getD 7 undefA = I 0) ∨
       (firstAt (fun x => x.wit y a b) (p.drop j) j = none ∧ e = .exit 2 ∧ (∀ t ∈ [0, 3, 8, 9, 15, 16, 17, 24, 25], tm'.getD t undefA = tm.getD t undefA))) := by
  intro d
  induction d with
  | zero =>
    intro j tm H hd hj hv hA hB hy hy5 hlen h3 h8 h9 h24 h25 h26
    obtain rfl : j = p.length := by omega
    obtain ⟨tm', he, hl, hk⟩ := wit_end (v := v) (H := H) hlen h25 h26
    exact ⟨_, tm', [], by rw [List.append_nil]; exact he, hl, .inr ⟨by simp [firstAt], rfl, hk⟩⟩
  | succ d ih =>
    intro j tm H hd hj hv hA hB hy hy5 hlen h3 h8 h9 h24 h25 h26
    obtain ⟨x, hx⟩ : ∃ x, p[j]? = some x := ⟨_, List.getElem?_eq_getElem (by omega)⟩
    obtain ⟨i, k, hi, hr⟩ := hv.evs.ix j x hx
    have hdl : p.drop j = x :: p.drop (j + 1) := by rw [List.drop_eq_getElem_cons (by omega)]; congr 1; rw [List.getElem?_eq_getElem (by omega)] at hx; exact Option.some.inj hx
    rw [hdl]
    rcases wit_round hi (fun L => rd_old hr L) hA hB hy hy5 (by omega : j < p.length) hn hlen h3 h8 h9 h24 h25 h26 with ⟨hb, tm', L, hev, hl', g4, g5, g6, g7⟩ | ⟨hb, tm', L, hev, hl', hk, g26⟩
    · exact ⟨_, tm', L, hev, hl', .inl ⟨j, by simp only [firstAt]; rw [if_pos hb], rfl, g4, g5, g6, g7⟩⟩
    · have k' : ∀ t ∈ [0, 3, 8, 9, 15, 16, 17, 24, 25], tm'.getD t undefA = tm.getD t undefA := hk
      obtain ⟨e', tm2, L2, hev2, hl2, hc⟩ := ih (j + 1) tm' (H ++ L) (by omega) (by omega) (hv.more L) (rd_grow hA L) (rd_grow hB L) (rd_grow hy L) (rd_grow hy5 L) hl' ((hk 3 (by simp)).trans h3) ((hk 8 (by simp)).trans h8) ((hk 9 (by simp)).trans h9) ((hk 24 (by simp)).trans h24) ((hk 25 (by simp)).trans h25) g26
      refine ⟨e', tm2, L ++ L2, by rw [hev, hev2, List.append_assoc], hl2, ?_⟩
      simp only [firstAt]
      rw [if_neg (by simp [hb])]
      rcases hc with hc | ⟨h1, h2, h3⟩
      · exact .inl hc
      · exact .inr ⟨h1, h2, fun t ht => (h3 t ht).trans (hk t ht)⟩

theorem ref_wit_inner {v : AV} {l : List E6} {kk : Nat} {y a b : E6} {r : Nat} (hkk : kk < l.length) (hn : l.length < 2 ^ 62) (hyk : l[kk]? = some y) : ∀ (d j : Nat) (tm : List AV) (H : AH), kk - j = d → j ≤ kk → EvS H v l →
    (∀ L, rdCells (H ++ L) r 0 5 = some [I a.sp, I a.bl, I a.ce, I a.th, I a.ki]) → (∀ L, rdCells (H ++ L) r 5 5 = some [I b.sp, I b.bl, I b.ce, I b.th, I b.ki]) →
    tm.length = 51 → tm.getD 0 undefA = v → tm.getD 3 undefA = .ptr r 0 → tm.getD 7 undefA = I kk → tm.getD 8 undefA = I j →
    ∃ e tm' L, EvC Try.prog C3 l23_0 (tm, H) = some (e, (tm', H ++ L)) ∧ tm'.length = 51 ∧
      ((∃ i, firstAt (fun x => x.wit' y a b) ((l.take kk).drop j) j = some i ∧ e = .ret ∧ tm'.getD 4 undefA = I i ∧ tm'.getD 5 undefA = I kk ∧ tm'.getD 6 undefA = .bool true) ∨
       (firstAt (fun x => x.wit' y a b) ((l.take kk).drop j) j = none ∧ e = .exit 2 ∧ (∀ t ∈ [0, 3, 7], tm'.getD t undefA = tm.getD t undefA))) := by
  have hpl : (l.take kk).length = kk := by simp; omega
  intro d
  induction d with
  | zero =>
    intro j tm H hd hj hv hA hB hlen h0 h3 h7 h8
    obtain rfl : j = kk := by omega
    obtain ⟨tm', he, hl, hk⟩ := ref_wit_end (v := v) (H := H) hlen h7 h8
    exact ⟨_, tm', [], by rw [List.append_nil]; exact he, hl, .inr ⟨by rw [List.drop_eq_nil_of_le (by omega)]; rfl, rfl, hk⟩⟩
  | succ d ih =>
    intro j tm H hd hj hv hA hB hlen h0 h3 h7 h8
    obtain ⟨x, hx⟩ : ∃ x, l[j]? = some x := ⟨_, List.getElem?_eq_getElem (by omega)⟩
    obtain ⟨i, k, hi, hr⟩ := hv.evs.ix j x hx
    obtain ⟨i', k', hi', hr'⟩ := hv.evs.ix kk y hyk
    have hdl : (l.take kk).drop j = x :: (l.take kk).drop (j + 1) := by
      rw [List.drop_eq_getElem_cons (by omega)]; congr 1
      rw [List.getElem?_eq_getElem (by omega)] at hx
      simpa using Option.some.inj hx
    rw [hdl]
    rcases ref_wit_round (a := a) (b := b) hi (fun L => rd_old hr L) (fun L => rd5 hr L) hA hB hi' (fun L => rd_old hr' L) (fun L => rd5 hr' L) (by omega : j < kk) (by omega) hlen h0 h3 h7 h8 with ⟨hb, tm', L, hev, hl', g4, g5, g6⟩ | ⟨hb, tm', L, hev, hl', hk, g8⟩
    · exact ⟨_, tm', L, hev, hl', .inl ⟨j, by simp only [firstAt]; rw [if_pos hb], rfl, g4, g5, g6⟩⟩
    · obtain ⟨e', tm2, L2, hev2, hl2, hc⟩ := ih (j + 1) tm' (H ++ L) (by omega) (by omega) (hv.more L) (rd_grow hA L) (rd_grow hB L) hl' ((hk 0 (by simp)).trans h0) ((hk 3 (by simp)).trans h3) ((hk 7 (by simp)).trans h7) g8
      refine ⟨e', tm2, L ++ L2, by rw [hev, hev2, List.append_assoc], hl2, ?_⟩
      simp only [firstAt]
      rw [if_neg (by simp [hb])]
      rcases hc with hc | ⟨h1, h2, h3⟩
      · exact .inl hc
      · exact .inr ⟨h1, h2, fun t ht => (h3 t ht).trans (hk t ht)⟩

end Go.Dv
