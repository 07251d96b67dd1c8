/- Texts of the evaluator and of the laws' walks, put together in the order of their build: T98, T99 (own work). -/
import Derived.Test.YtepcdjpenahnpaaMI2
import Derived.ProofKit
import Derived.OpenShut
import Derived.ShutString
import Derived.ChangeOld
import Derived.ChangeSlices
import Derived.SizedLaws

/- the law ImageFaults on abstract heaps (printed by a program of mine, own work). -/
namespace Go.Dv
open Go.Proofs
set_option maxRecDepth 100000
set_option linter.unusedSimpArgs false
set_option linter.unusedVariables false
attribute [local congr] bind_congr_first


theorem sorted_len (h : List Int) : (sorted h).length = h.length := List.length_mergeSort _
theorem sorted_mem {h : List Int} {x : Int} : x ∈ sorted h ↔ x ∈ h := (List.mergeSort_perm h _).mem_iff
theorem sorted_nil : sorted [] = [] := List.length_eq_zero_iff.1 (by rw [sorted_len]; rfl)
theorem hV_sorted (h : List Int) (b : Nat) : hV (sorted h) b = hV h b := by
  unfold hV
  have hl := sorted_len h
  by_cases hh : h = []
  · subst hh
    rw [sorted_nil]
  · have : sorted h ≠ [] := by
      intro e
      rw [e] at hl
      exact hh (List.length_eq_zero_iff.1 hl.symm)
    rw [if_neg hh, if_neg this, hl]
/-- the library's sort puts a row of the call's own in order -/
theorem sort_any {b0 : Nat} {G : AH} {h : List Int} {b : Nat} (hs : HS b0 G h b) (hl : h.length < 2 ^ 38) : ∃ G', Ev Try.prog C0 62 [hV h b] G = some (.tuple [], G') ∧ UseTo b0 G (sorted h) G' b := by
  by_cases hh : h = []
  · subst hh
    exact ⟨G, sort_ev_nil G, by rw [sorted_nil]; exact HS.nil _ _ _, fun _ _ => rfl, Nat.le_refl _⟩
  · have hb := hs.at' hh
    have hbl := lt_of_get hb
    refine ⟨G.set b (.cells (ii (sorted h)) 3), ?_, ⟨fun _ => hs.ge hh, fun _ => List.getElem?_set_self hbl⟩, fun j hj => List.getElem?_set_ne (by have := hs.ge hh; omega), by simp⟩
    rw [hV_cons hh]
    exact sort_ev hb hh (by omega)
/-- Faults and Held of frames and traces that are let in -/
theorem faults_ev {G : AH} {v : AV} {f : Nat} {t : List Int} (hf0 : 0 < f) (hf : f ≤ 64) (hv : IntS G v t) (hl : t.length ≤ 4000) :
    ∃ G', Ev Try.prog C0 30 [v, I f] G = some (.tuple [I (runS f t [] 0).2, I 0], G') ∧ (∀ j, j < G.length → G'[j]? = G[j]?) ∧ G.length ≤ G'.length := by
  obtain ⟨G', b', h, hs, hk, hb⟩ := run_ev hf0 hf hv hl
  exact ⟨G', faults_of h, hk, hb⟩
theorem heldp_ev {G : AH} {v : AV} {f : Nat} {t : List Int} (hf0 : 0 < f) (hf : f ≤ 64) (hv : IntS G v t) (hl : t.length ≤ 4000) :
    ∃ G' b', Ev Try.prog C0 40 [v, I f] G = some (.tuple [hV (sorted (runS f t [] 0).1) b', I 0], G') ∧ HS G.length G' (sorted (runS f t [] 0).1) b' ∧ (∀ j, j < G.length → G'[j]? = G[j]?) ∧ G.length ≤ G'.length := by
  obtain ⟨G', b', h, hs, hk, hb⟩ := run_ev hf0 hf hv hl
  have hlen := run_len (f := f) hf0 t [] 0 (by simp)
  obtain ⟨G2, h2, u⟩ := sort_any hs (by omega)
  refine ⟨G2, b', ?_, u.1, fun j hj => (u.2.1 j hj).trans (hk j hj), Nat.le_trans hb u.2.2⟩
  rw [hV_sorted]
  exact held_of h h2
theorem badF_not {fr : Int} (h : badF fr = false) : ∃ f : Nat, fr = f ∧ 0 < f ∧ f ≤ 64 := by
  unfold badF at h
  simp only [Bool.or_eq_false_iff, decide_eq_false_iff_not] at h
  exact ⟨fr.toNat, by omega, by omega, by omega⟩
theorem law13_err {G : AH} {v : AV} {fr e : Int} (h : Ev Try.prog C0 53 [v, I fr] G = some (.tuple [.nilSlice, I 0, I e], G)) (hb : Ev Try.prog C0 28 [v, I fr] G = some (I e, G)) (he : e ≠ 0) : Ev Try.prog C0 13 [v, I fr] G = some (.bool true, G) := by
  have h1 := faults_of h
  have h2 := held_of h (sort_ev_nil G)
  have h3 := awake_ev G
  have h4 : (e != 0) = true := by simpa using he
  have h5 := ln46n G
  have g0 : ([v, I fr] ++ List.replicate (75 - [v, I fr].length) undefA).length = 75 := by simp
  have g1 : ([v, I fr] ++ List.replicate (75 - [v, I fr].length) undefA).getD 0 undefA = v := rfl
  have g2 : ([v, I fr] ++ List.replicate (75 - [v, I fr].length) undefA).getD 1 undefA = I fr := rfl
  rw [fe13]
  generalize [v, I fr] ++ List.replicate (75 - [v, I fr].length) undefA = tm at *
  simp -implicitDefEqProofs only [c13, Try.f13, Option.getD_some, g0, g1, g2, h1, h2, h3, h4, h5, hb, ↓fc30, ↓fc40, ↓fc28, ↓fc26, Bool.not_true, Bool.not_false, Bool.true_and, Bool.and_true, Bool.false_and, Bool.and_false, Bool.true_or, Bool.or_true, Bool.false_or, Bool.or_false, cond_true, cond_false, boolOf_undef, nb, beq_self_eq_true, Bool.and_self, ↓ld3, ↓st3, z3, boolOf_undef, nb, ↓aop_lookup, ↓aop_makeFunc, ↓aop_makeMap, ↓aop_mapUpdate, ↓aop_buildSlice, ↓aop_extract, ↓EvC_seq, ↓EvC_skip, ↓EvC_exit, ↓EvC_ret, ↓EvC_block, ↓EvC_cond, ↓ev_region, ↓runL_cons, ↓runL_nil, ↓stepO_none, ↓stepO_guard, ↓aop_move, ↓aop_assign, ↓aop_load, ↓aop_store, ↓aop_alloc, ↓aop_box, ↓aop_nilCheck, ↓aop_fieldAddr, ↓aop_field, ↓aop_indexAddr, ↓aop_binOp, ↓aop_pick, ↓aop_extract, ↓aop_buildSlice, ↓aop_slice, ↓aop_not, ↓aop_call, ↓callA_len, ↓callA_append, ev_tmp, ev_const, ofV_int, ofV_bool, ofV_str, ofV_nilSlice, ofV_nilPtr, putA_some, putA_none, gs_self, gs_ne, List.length_set, Option.bind_some, Option.map_some, intBinA, evL, evO, evP, ne_eq, not_false_eq_true, if_true, if_false, reduceCtorEq, ite_true, ite_false, reduceIte, put_app, AV.cells, and_true, true_and, and_self, decide_true, decide_false, ↓yielded_eq, yv_some, boolOf_bool, List.getElem?_toArray, List.getElem?_cons_zero, List.getElem?_cons_succ, Nat.reduceLT, Nat.reduceEqDiff, beq_self_eq_true, Option.some_beq_some, wr_app, wr_app0, rd_app, rd_app0, rdL_here, rdL_next, wrL_here, wrL_next, spl, List.all_cons, List.all_nil, AV.one, Bool.and_self, Bool.true_and, List.drop_zero, List.take_succ_cons, List.take_zero, List.drop_succ_cons, List.head?_cons, Nat.reduceAdd, Nat.reduceLeDiff, List.length_cons, List.length_nil, List.nil_append, List.cons_append, List.set_cons_zero, List.set_cons_succ, Int.toNat_natCast, Nat.add_zero, b_ft, b_tf, Bool.false_eq_true]
theorem law13_ok {G : AH} {v : AV} {f : Nat} {t : List Int} (hf0 : 0 < f) (hf : f ≤ 64) (hv : IntS G v t) (hl : t.length ≤ 4000) (hb : Ev Try.prog C0 28 [v, I f] G = some (I 0, G)) : ∃ G', Ev Try.prog C0 13 [v, I f] G = some (.bool true, G') := by
  obtain ⟨G1, h1, k1, b1⟩ := faults_ev hf0 hf hv hl
  have hv1 := hv.same k1
  obtain ⟨G2, x2, h2, s2, k2, b2⟩ := heldp_ev hf0 hf hv1 hl
  have hv2 := hv1.same k2
  have hbad := bad_ev (fr := (f : Int)) hv2
  rw [show badS (f : Int) t.length = 0 by
    have q : badF (f : Int) = false := by unfold badF; simp; omega
    unfold badS; rw [q]; simp; omega] at hbad
  obtain ⟨G3, x3, h3, s3, k3, b3⟩ := held_ev hv2 (by omega) hf0 hf
  have hlen := run_len (f := f) hf0 t [] 0 (by simp)
  obtain ⟨G4, x4, h4, s4, k4, b4⟩ := rising_ev s3.ints (by omega)
  rw [show risS (runS f t [] 0).1 [] = sorted (runS f t [] 0).1 from rising_eq _] at h4 s4
  have hs2 : HS G1.length G4 (sorted (runS f t [] 0).1) x2 := (s2.keep k3).keep k4
  have h5 := same_ev hs2.ints s4.ints (by rw [sorted_len]; omega)
  rw [decide_eq_true rfl] at h5
  have h6 := awake_ev G4
  have g0 : ([v, I f] ++ List.replicate (75 - [v, I f].length) undefA).length = 75 := by simp
  have g1 : ([v, I f] ++ List.replicate (75 - [v, I f].length) undefA).getD 0 undefA = v := rfl
  have g2 : ([v, I f] ++ List.replicate (75 - [v, I f].length) undefA).getD 1 undefA = I f := rfl
  rw [fe13]
  generalize [v, I f] ++ List.replicate (75 - [v, I f].length) undefA = tm at *
  refine ⟨G4, ?_⟩
  generalize hr : runS f t [] 0 = r at *
  simp -implicitDefEqProofs only [c13, Try.f13, Option.getD_some, g0, g1, g2, h1, h2, h3, h4, h5, h6, hbad, ↓fc30, ↓fc40, ↓fc28, ↓fc26, ↓fc41, ↓fc42, ↓fc32, bne_self_eq_false, Bool.not_true, Bool.not_false, Bool.true_and, Bool.and_true, Bool.false_and, Bool.and_false, Bool.true_or, Bool.or_true, Bool.false_or, Bool.or_false, cond_true, cond_false, boolOf_undef, nb, beq_self_eq_true, Bool.and_self, ↓ld3, ↓st3, z3, boolOf_undef, nb, ↓aop_lookup, ↓aop_makeFunc, ↓aop_makeMap, ↓aop_mapUpdate, ↓aop_buildSlice, ↓aop_extract, ↓EvC_seq, ↓EvC_skip, ↓EvC_exit, ↓EvC_ret, ↓EvC_block, ↓EvC_cond, ↓ev_region, ↓runL_cons, ↓runL_nil, ↓stepO_none, ↓stepO_guard, ↓aop_move, ↓aop_assign, ↓aop_load, ↓aop_store, ↓aop_alloc, ↓aop_box, ↓aop_nilCheck, ↓aop_fieldAddr, ↓aop_field, ↓aop_indexAddr, ↓aop_binOp, ↓aop_pick, ↓aop_extract, ↓aop_buildSlice, ↓aop_slice, ↓aop_not, ↓aop_call, ↓callA_len, ↓callA_append, ev_tmp, ev_const, ofV_int, ofV_bool, ofV_str, ofV_nilSlice, ofV_nilPtr, putA_some, putA_none, gs_self, gs_ne, List.length_set, Option.bind_some, Option.map_some, intBinA, evL, evO, evP, ne_eq, not_false_eq_true, if_true, if_false, reduceCtorEq, ite_true, ite_false, reduceIte, put_app, AV.cells, and_true, true_and, and_self, decide_true, decide_false, ↓yielded_eq, yv_some, boolOf_bool, List.getElem?_toArray, List.getElem?_cons_zero, List.getElem?_cons_succ, Nat.reduceLT, Nat.reduceEqDiff, beq_self_eq_true, Option.some_beq_some, wr_app, wr_app0, rd_app, rd_app0, rdL_here, rdL_next, wrL_here, wrL_next, spl, List.all_cons, List.all_nil, AV.one, Bool.and_self, Bool.true_and, List.drop_zero, List.take_succ_cons, List.take_zero, List.drop_succ_cons, List.head?_cons, Nat.reduceAdd, Nat.reduceLeDiff, List.length_cons, List.length_nil, List.nil_append, List.cons_append, List.set_cons_zero, List.set_cons_succ, Int.toNat_natCast, Nat.add_zero, b_ft, b_tf, Bool.false_eq_true]
theorem law13_ev {G : AH} {v : AV} {t : List Int} (hv : IntS G v t) (fr : Int) : ∃ G', Ev Try.prog C0 13 [v, I fr] G = some (.bool true, G') := by
  have hb := bad_ev (fr := fr) hv
  cases hq : badF fr
  · by_cases hl : t.length > 4000
    · have : decide ((t.length : Int) > 4000) = true := by simp; omega
      exact ⟨G, law13_err (run_long hq hv this) (by rw [hb, badS, hq, if_neg (by simp), if_pos hl]) (by omega)⟩
    · obtain ⟨f, rfl, hf0, hf⟩ := badF_not hq
      exact law13_ok hf0 hf hv (by omega) (by rw [hb, badS, hq, if_neg (by simp), if_neg hl])
  · exact ⟨G, law13_err (run_bad hq) (by rw [hb, badS, hq, if_pos rfl]) (by omega)⟩
end Go.Dv

/- A slice of ints as the row hands it in: what its cells hold; the world it lies in as an abstract heap (own work). -/
namespace Go.Dv
open Go.Proofs
set_option linter.unusedVariables false
theorem und3 : Try.prog.underlying 3 = some (.int .i64) := by kernel_rfl
theorem und4 : Try.prog.underlying 4 = some .bool := by kernel_rfl
theorem cell_spot {w : World} {a : Addr} {v : Value} (h : w.cell? a = some v) : a.spot = none ∧ a.block < w.heap.size := by
  unfold World.cell? at h
  split at h
  · rename_i c e f hb
    split at h
    · cases h
    · rename_i hs
      exact ⟨by simpa using hs, (Array.getElem?_eq_some_iff.1 hb).1⟩
  · cases h
/-- A slice of ints in the world: every number it could show, read from its cells. -/
def InRow (w : World) (a : Option Addr) (len cap : Nat) (l : List Int) : Prop :=
  (a = none ∧ len = 0 ∧ cap = 0 ∧ l = []) ∨ ∃ x, a = some x ∧ len ≤ cap ∧ l.length = cap ∧ ∀ i, i < cap → w.cell? (x.add i) = some (.int .i64 (l.getD i 0))
theorem open_row {H : Type} {enc : TypeId × Value → H} {w : World} {base : Nat} {held : Bool} {fuel : Nat} {a : Option Addr} {len cap : Nat} {x : DataW H × List MemPlace} (h : DataW.trod enc Try.prog w base (fun _ => true) held fuel 46 [.slice a len cap] = some x) : ∃ l, InRow w a len cap l := by
  rcases Go.ChangeShapes.open_ints un46 und3 ce3 h with ⟨hcs, _⟩ | ⟨b, l, c, zs, hcs, _, hl, _, hz, _, hc, _⟩
  · simp at hcs
    exact ⟨[], .inl ⟨hcs.1, hcs.2.1, hcs.2.2, rfl⟩⟩
  · simp at hcs
    obtain ⟨rfl, rfl, rfl⟩ := hcs
    simp at hz
    exact ⟨zs, .inr ⟨b, rfl, hl, hz, fun i hi => hc i (by omega)⟩⟩
theorem WR.one (w : World) {x : Nat × Nat × Nat} {cs : List AV} (hx : x.1 < w.heap.size) (ho : OR (fun i => if i = 0 then some x else none) w 0 (.arg cs)) :
    WR w (fun b => b < w.heap.size) (fun i => if i = 0 then some x else none) [.arg cs] w where
  dom := fun i hi => by simp at hi; simp; omega
  fresh := fun i hi => by cases i <;> simp at hi
  lt := fun i y hy => by split at hy <;> simp at hy; subst hy; exact hx
  inj := fun i j x y ⟨o, hi, hw⟩ => by cases i <;> simp at hi; subst hi; cases hw
  own := fun i x ⟨o, hi, hw⟩ => by cases i <;> simp at hi; subst hi; cases hw
  argP := fun i y cs hi hy => by split at hy <;> simp at hy; subst hy; exact hx
  obj := fun i o hi => by
    cases i with
    | zero => simp at hi; subst hi; exact ho
    | succ i => simp at hi
  prLt := fun b h => h
  size := Nat.le_refl _
  os := rfl
  tape := rfl
  output := rfl
  old := fun _ _ => rfl
theorem WR.idle (w : World) : WR w (fun b => b < w.heap.size) (fun _ => none) [.dead] w where
  dom := fun _ _ => rfl
  fresh := fun _ _ => rfl
  lt := fun i x h => by cases h
  inj := fun i j x y hi hj hx => by cases hx
  own := fun i x hi hx => by cases hx
  argP := fun i x cs hi hx => by cases hx
  obj := fun i o h => by
    cases i with
    | zero => simp at h; subst h; trivial
    | succ i => simp at h
  prLt := fun b h => h
  size := Nat.le_refl _
  os := rfl
  tape := rfl
  output := rfl
  old := fun _ _ => rfl
theorem start_ints (W : World) {a : Option Addr} {len cap : Nat} {l : List Int} (h : InRow W a len cap l) :
    ∃ φ H v, WR W (fun b => b < W.heap.size) φ H W ∧ VR φ v (.slice a len cap) ∧ IntS H v (l.take len) := by
  rcases h with ⟨rfl, rfl, rfl, rfl⟩ | ⟨x, rfl, hl, hcap, hc⟩
  · exact ⟨_, _, .nilSlice, WR.start W, rfl, int_nil _⟩
  · have htl : (l.take len).length = len := by simp; omega
    rcases Nat.eq_zero_or_pos cap with h0 | hpos
    · subst h0
      obtain rfl : len = 0 := by omega
      refine ⟨_, _, .slice 0 0 1 0 0 true, WR.idle W, ⟨x, 0, rfl, Nat.le_refl _, ⟨Nat.le_refl _, fun _ => rfl⟩, .inl rfl⟩, ⟨fun G => by rw [ln46, htl], fun j e he => ?_⟩⟩
      simp at he
    · have hx := cell_spot (hc 0 hpos)
      have hx0 : x.add 0 = x := by simp [Addr.add]
      rw [hx0] at hx
      have hxa : ∀ n, x.add n = ⟨x.block, x.off + n, none⟩ := fun n => by
        unfold Addr.add
        split
        · rename_i h; subst h
          obtain ⟨b, o, s⟩ := x
          simp at hx ⊢; exact hx.1
        · rfl
      refine ⟨_, _, .slice 0 0 1 len cap true, WR.one W (x := (x.block, x.off, x.off + cap)) (cs := ii l) hx.2 ⟨x.block, x.off, _, rfl, fun n v hv => ?_⟩, ⟨x, cap, rfl, hl, ⟨Nat.le_refl _, fun _ => rfl⟩, .inr ⟨x.block, x.off, _, rfl, by have := hxa 0; rw [hx0] at this; exact this, by omega⟩⟩, ⟨fun G => by rw [ln46, htl], fun j e he => ?_⟩⟩
      · have hn := lt_of_get hv
        rw [ii_length] at hn
        simp only [ii, List.getElem?_map, Option.map_eq_some_iff] at hv
        obtain ⟨z, hz, rfl⟩ := hv
        refine ⟨.int .i64 z, ?_, rfl⟩
        have := hc n (by omega)
        rw [hxa, List.getD_eq_getElem?_getD, hz] at this
        exact this
      · have hj : j < len := by have := lt_of_get he; omega
        refine ⟨0, 0 + j, ?_, ?_⟩
        · rw [ia46, if_pos ⟨by omega, by omega, rfl⟩]; simp
        · rw [List.getElem?_take, if_pos hj] at he
          have hjl := lt_of_get he
          simp only [rdCells, List.getElem?_cons_zero]
          rw [if_pos (by rw [ii_length]; omega), Nat.zero_add, ii_drop, List.drop_eq_getElem_cons hjl]
          rw [List.getElem?_eq_getElem hjl] at he
          rw [Option.some.inj he]; rfl
end Go.Dv
