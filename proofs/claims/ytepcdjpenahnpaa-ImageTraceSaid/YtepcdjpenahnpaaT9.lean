/- The start: a slice of events of the world as an abstract heap (own work). -/
import Derived.Test.YtepcdjpenahnpaaT8
namespace Go.Dv
open Go.Proofs
set_option linter.unusedVariables false

def flatE (l : List E6) : List AV := l.flatMap E6.cells

theorem flatE_length (l : List E6) : (flatE l).length = l.length * 6 := by
  induction l with
  | nil => rfl
  | cons e l ih => 
    have : flatE (e :: l) = e.cells ++ flatE l := rfl
    rw [this, List.length_append, ih]; simp [E6.cells]; omega

theorem flatE_drop : ∀ (l : List E6) (j : Nat), (flatE l).drop (j * 6) = flatE (l.drop j)
  | l, 0 => by simp
  | [], j + 1 => by simp [flatE]
  | e :: l, j + 1 => by
    have : flatE (e :: l) = e.cells ++ flatE l := rfl
    rw [this, show (j + 1) * 6 = e.cells.length + j * 6 by simp [E6.cells]; omega, List.drop_append, List.drop_of_length_le (by omega), List.nil_append, Nat.add_sub_cancel_left]
    simpa using flatE_drop l j

theorem flatE_at {l : List E6} {j : Nat} {e : E6} (h : l[j]? = some e) : ((flatE l).drop (j * 6)).take 6 = e.cells := by
  rw [flatE_drop]
  have hj := lt_of_get h
  rw [List.drop_eq_getElem_cons hj]
  rw [List.getElem?_eq_getElem hj] at h
  rw [Option.some.inj h]
  show (e.cells ++ flatE (l.drop (j + 1))).take 6 = e.cells
  rw [List.take_append_of_le_length (by simp [E6.cells])]
  exact List.take_of_length_le (by simp [E6.cells])

theorem flatE_get {l : List E6} {n : Nat} {v : AV} (h : (flatE l)[n]? = some v) : ∃ e, l[n / 6]? = some e ∧ e.cells[n % 6]? = some v := by
  have hn := lt_of_get h
  rw [flatE_length] at hn
  have hj : n / 6 < l.length := by omega
  refine ⟨_, List.getElem?_eq_getElem hj, ?_⟩
  rw [← flatE_at (List.getElem?_eq_getElem hj), List.getElem?_take, if_pos (by omega), List.getElem?_drop, show n / 6 * 6 + n % 6 = n by omega]
  exact h

theorem E6.vals_cells {e : E6} {j : Nat} {v : AV} (h : e.cells[j]? = some v) (φ : Env) : ∃ u, e.vals[j]? = some u ∧ VR φ v u := by
  match j with
  | 0 => cases h; exact ⟨_, rfl, rfl⟩
  | 1 => cases h; exact ⟨_, rfl, rfl⟩
  | 2 => cases h; exact ⟨_, rfl, rfl⟩
  | 3 => cases h; exact ⟨_, rfl, rfl⟩
  | 4 => cases h; exact ⟨_, rfl, rfl⟩
  | 5 => cases h; exact ⟨_, rfl, rfl⟩
  | n + 6 => simp [E6.cells] at h

theorem WR.one (w : World) {x : Nat × Nat × Nat} {cs : List AV} (hx : x.1 < w.heap.size) (ho : OR (fun i => if i = 0 then some x else none) w 0 (.arg cs)) :
    WR w (fun b => b < w.heap.size) (fun i => if i = 0 then some x else none) [.arg cs] w where
  dom := fun i hi => by simp at hi; simp; omega
  fresh := fun i hi => by cases i <;> simp at hi
  lt := fun i y hy => by split at hy <;> simp at hy; subst hy; exact hx
  inj := fun i j x y ⟨o, hi, hw⟩ => by cases i <;> simp at hi; subst hi; cases hw
  own := fun i x ⟨o, hi, hw⟩ => by cases i <;> simp at hi; subst hi; cases hw
  argP := fun i y cs hi hy => by split at hy <;> simp at hy; subst hy; exact hx
  obj := fun i o hi => by
    cases i with
    | zero => simp at hi; subst hi; exact ho
    | succ i => simp at hi
  prLt := fun b h => h
  size := Nat.le_refl _
  os := rfl
  tape := rfl
  output := rfl
  old := fun _ _ => rfl

theorem WR.idle (w : World) : WR w (fun b => b < w.heap.size) (fun _ => none) [.dead] w where
  dom := fun _ _ => rfl
  fresh := fun _ _ => rfl
  lt := fun i x h => by cases h
  inj := fun i j x y hi hj hx => by cases hx
  own := fun i x hi hx => by cases hx
  argP := fun i x cs hi hx => by cases hx
  obj := fun i o h => by
    cases i with
    | zero => simp at h; subst h; trivial
    | succ i => simp at h
  prLt := fun b h => h
  size := Nat.le_refl _
  os := rfl
  tape := rfl
  output := rfl
  old := fun _ _ => rfl

theorem start_events (W : World) {a : Option Addr} {len cap : Nat} {l : List E6} (h : InRow W a len cap l) :
    ∃ φ H v, WR W (fun b => b < W.heap.size) φ H W ∧ VR φ v (.slice a len cap) ∧ Events H v (l.take len) ∧ (l.take len).length = len := by
  rcases h with ⟨rfl, rfl, rfl, rfl⟩ | ⟨x, rfl, hl, hcap, hc⟩
  · exact ⟨_, _, .nilSlice, WR.start W, rfl, .inl ⟨rfl, rfl⟩, rfl⟩
  · have htl : (l.take len).length = len := by simp; omega
    rcases Nat.eq_zero_or_pos cap with h0 | hpos
    · subst h0
      obtain rfl : len = 0 := by omega
      refine ⟨_, _, .slice 0 0 6 0 0 true, WR.idle W, ⟨x, 0, rfl, Nat.le_refl _, ⟨Nat.le_refl _, fun _ => rfl⟩, .inl rfl⟩, .inr ⟨0, 0, 0, true, by rw [htl], by simp, fun j e he => ?_⟩, htl⟩
      simp at he
    · obtain ⟨e0, he0⟩ : ∃ e, l[0]? = some e := ⟨_, List.getElem?_eq_getElem (by omega)⟩
      have hx := cell_spot (hc 0 e0 he0 0 _ rfl)
      have hx0 : x.add (0 * 6 + 0) = x := by simp [Addr.add]
      rw [hx0] at hx
      have hxa : ∀ n, x.add n = ⟨x.block, x.off + n, none⟩ := fun n => by
        unfold Addr.add
        split
        · rename_i h; subst h
          obtain ⟨b, o, s⟩ := x
          simp at hx ⊢; exact hx.1
        · rfl
      refine ⟨_, _, .slice 0 0 6 len cap true, WR.one W (x := (x.block, x.off, x.off + cap * 6)) (cs := flatE l) hx.2 ⟨x.block, x.off, _, rfl, fun n v hv => ?_⟩, ⟨x, cap, rfl, hl, ⟨Nat.le_refl _, fun _ => rfl⟩, .inr ⟨x.block, x.off, _, rfl, by have := hxa 0; rw [show x.add 0 = x by simp [Addr.add]] at this; exact this, by omega⟩⟩,
        .inr ⟨0, 0, cap, true, by rw [htl], by simp, fun j e he => ?_⟩, htl⟩
      · obtain ⟨e, he, hv'⟩ := flatE_get hv
        obtain ⟨u, hu, r⟩ := E6.vals_cells hv' _
        refine ⟨u, ?_, r⟩
        have := hc (n / 6) e he (n % 6) u hu
        rw [hxa, show n / 6 * 6 + n % 6 = n by omega] at this
        exact this
      · have hj : j < len := by have := lt_of_get he; omega
        rw [List.getElem?_take, if_pos hj] at he
        have hjl := lt_of_get he
        simp only [rdCells, List.getElem?_cons_zero]
        rw [if_pos (by rw [flatE_length]; omega), Nat.zero_add, flatE_at he]

end Go.Dv
