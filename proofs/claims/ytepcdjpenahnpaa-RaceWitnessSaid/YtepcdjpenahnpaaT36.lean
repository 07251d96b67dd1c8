/- A slice of events and a race as the row hands them in: what their cells hold; the world they lie in as an abstract heap (own work). -/
import Derived.Test.YtepcdjpenahnpaaT35
import Derived.WalkKit
import Derived.ProofKit
import Derived.OpenShut
import Derived.ShutString
import Derived.ChangeOld
import Derived.Below
import Derived.SizedLaws
namespace Go.Dv
open Go.Proofs
set_option linter.unusedVariables false

def fieldsOf : Option TypeDesc → List (TypeId × Nat)
  | some (.struct fs) => fs.toList.map fun f => (f.type, f.offset)
  | _ => []

section
variable {H : Type} {enc : TypeId × Value → H} {P : Program} {w : World} {base : Nat} {spare : Nat → Bool} {held : Bool}

theorem trod_fields {t : TypeId} {fl : List (TypeId × Nat)} (hf : fieldsOf (P.underlying t) = fl) (hne : fl ≠ []) {fuel : Nat} {cs : List Value} {x : DataW H × List MemPlace}
    (h : DataW.trod enc P w base spare held fuel t cs = some x) :
    ∃ n, cs.length = P.cellsOf t ∧ ∀ (i : Nat) (u : TypeId) (o : Nat), fl[i]? = some (u, o) → ∃ y, DataW.trod enc P w base spare held n u ((cs.drop o).take (P.cellsOf u)) = some y := by
  unfold fieldsOf at hf
  split at hf
  · rename_i fs ht
    obtain ⟨xs, n, _, _, hl, hx, he⟩ := DataW.trod_struct ht h
    refine ⟨n, hl, fun i u o hi => ?_⟩
    subst hf
    rw [List.getElem?_map] at hi
    simp only [Option.map_eq_some_iff, Prod.mk.injEq] at hi
    obtain ⟨f, hfi, rfl, rfl⟩ := hi
    have hfi' : fs[i]? = some f := by simpa using hfi
    rw [he i f hfi']
    have : i < xs.length := by rw [hx]; exact (Array.getElem?_eq_some_iff.1 hfi').1
    exact ⟨_, List.getElem?_eq_getElem this⟩
  · exact absurd hf.symm hne

end

theorem und3 : Try.prog.underlying 3 = some (.int .i64) := by kernel_rfl
theorem und22 : Try.prog.underlying 22 = some (.slice 36) := by kernel_rfl
theorem und4 : Try.prog.underlying 4 = some .bool := by kernel_rfl
theorem fl36 : fieldsOf (Try.prog.underlying 36) = [(34, 0), (3, 5)] := by kernel_rfl
theorem fl34 : fieldsOf (Try.prog.underlying 34) = [(3, 0), (3, 1), (3, 2), (3, 3), (3, 4)] := by kernel_rfl
theorem co36 : Try.prog.cellsOf 36 = 6 := by kernel_rfl
theorem co34 : Try.prog.cellsOf 34 = 5 := by kernel_rfl
theorem co3 : Try.prog.cellsOf 3 = 1 := by kernel_rfl

section
variable {H : Type} {enc : TypeId × Value → H} {w : World} {base : Nat} {spare : Nat → Bool} {held : Bool}

def E6.vals (e : E6) : List Value := [.int .i64 e.sp, .int .i64 e.bl, .int .i64 e.ce, .int .i64 e.th, .int .i64 e.ki, .int .i64 e.ph]

theorem six {cs : List Value} (hl : cs.length = 6) {a0 a1 a2 a3 a4 a5 : Int} (e0 : (((cs.drop 0).take 5).drop 0).take 1 = [.int .i64 a0]) (e1 : (((cs.drop 0).take 5).drop 1).take 1 = [.int .i64 a1]) (e2 : (((cs.drop 0).take 5).drop 2).take 1 = [.int .i64 a2])
    (e3 : (((cs.drop 0).take 5).drop 3).take 1 = [.int .i64 a3]) (e4 : (((cs.drop 0).take 5).drop 4).take 1 = [.int .i64 a4]) (e5 : (cs.drop 5).take 1 = [.int .i64 a5]) : ∃ e : E6, cs = e.vals := by
  rcases cs with _ | ⟨c0, _ | ⟨c1, _ | ⟨c2, _ | ⟨c3, _ | ⟨c4, _ | ⟨c5, _ | ⟨c6, cs⟩⟩⟩⟩⟩⟩⟩ <;> simp at hl
  simp at e0 e1 e2 e3 e4 e5
  exact ⟨⟨a0, a1, a2, a3, a4, a5⟩, by simp [E6.vals, e0, e1, e2, e3, e4, e5]⟩

theorem trod_event {fuel : Nat} {cs : List Value} {x : DataW H × List MemPlace} (h : DataW.trod enc Try.prog w base spare held fuel 36 cs = some x) : ∃ e : E6, cs = e.vals := by
  obtain ⟨n, hl, hf⟩ := trod_fields fl36 (by simp) h
  rw [co36] at hl
  obtain ⟨y0, h0⟩ := hf 0 34 0 rfl
  obtain ⟨y1, h1⟩ := hf 1 3 5 rfl
  rw [co34] at h0
  rw [co3] at h1
  obtain ⟨m, hl0, hg⟩ := trod_fields fl34 (by simp) h0
  obtain ⟨z0, g0⟩ := hg 0 3 0 rfl
  obtain ⟨z1, g1⟩ := hg 1 3 1 rfl
  obtain ⟨z2, g2⟩ := hg 2 3 2 rfl
  obtain ⟨z3, g3⟩ := hg 3 3 3 rfl
  obtain ⟨z4, g4⟩ := hg 4 3 4 rfl
  rw [co3] at g0 g1 g2 g3 g4
  obtain ⟨a0, e0, _⟩ := DataW.trod_int und3 g0
  obtain ⟨a1, e1, _⟩ := DataW.trod_int und3 g1
  obtain ⟨a2, e2, _⟩ := DataW.trod_int und3 g2
  obtain ⟨a3, e3, _⟩ := DataW.trod_int und3 g3
  obtain ⟨a4, e4, _⟩ := DataW.trod_int und3 g4
  obtain ⟨a5, e5, _⟩ := DataW.trod_int und3 h1
  clear g0 g1 g2 g3 g4 h1 hf hg h0 h
  exact six hl e0 e1 e2 e3 e4 e5

theorem cells_get {a : Addr} {n : Nat} {cs : List Value} (h : w.cells? base a n = some cs) : cs.length = n ∧ ∀ i, i < n → w.cell? (a.add i) = cs[i]? := by
  unfold World.cells? at h
  split at h
  · exact ⟨by simpa using mapM_some_length h, fun i hi => mapM_some_get h i i (by simp [hi])⟩
  · cases h

theorem cell_spot {a : Addr} {v : Value} (h : w.cell? a = some v) : a.spot = none ∧ a.block < w.heap.size := by
  unfold World.cell? at h
  split at h
  · rename_i c e f hb
    split at h
    · cases h
    · rename_i hs
      exact ⟨by simpa using hs, (Array.getElem?_eq_some_iff.1 hb).1⟩
  · cases h

/-- A slice of events in the world: every event it could show, read from its cells. -/
def InRow (w : World) (a : Option Addr) (len cap : Nat) (l : List E6) : Prop :=
  (a = none ∧ len = 0 ∧ cap = 0 ∧ l = []) ∨ ∃ x, a = some x ∧ len ≤ cap ∧ l.length = cap ∧ ∀ i e, l[i]? = some e → ∀ j v, e.vals[j]? = some v → w.cell? (x.add (i * 6 + j)) = some v

theorem add_add (a : Addr) (n m : Nat) : (a.add n).add m = a.add (n + m) := by
  unfold Addr.add
  by_cases hn : n = 0
  · subst hn; simp
  · by_cases hm : m = 0
    · subst hm; simp
    · rw [if_neg hn, if_neg hm, if_neg (by omega)]
      simp [Nat.add_assoc]

theorem open_events {fuel : Nat} {a : Option Addr} {len cap : Nat} {x : DataW H × List MemPlace} (h : DataW.trod enc Try.prog w base (fun _ => true) held fuel 22 [.slice a len cap] = some x) : ∃ l, InRow w a len cap l := by
  rcases DataW.trod_slice und22 h with ⟨hcs, _⟩ | ⟨b, l, c, elems, rest, n, _, hcs, _, _, hl, _, hel, he, hr, _⟩
  · simp at hcs
    exact ⟨[], .inl ⟨hcs.1, hcs.2.1, hcs.2.2, rfl⟩⟩
  · simp at hcs
    obtain ⟨rfl, rfl, rfl⟩ := hcs
    rw [co36] at he hr
    obtain ⟨hrl, hr⟩ := hr rfl
    have one : ∀ i, i < cap → ∃ e : E6, ∀ j v, e.vals[j]? = some v → w.cell? (b.add (i * 6 + j)) = some v := by
      intro i hi
      have : ∃ y, (w.cells? base (b.add (i * 6)) 6).bind (DataW.trod enc Try.prog w base (fun _ => true) held n 36) = some y := by
        rcases Nat.lt_or_ge i len with hil | hil
        · rw [he i hil]; exact ⟨_, List.getElem?_eq_getElem (by omega)⟩
        · have := hr (i - len) (by omega)
          rw [show len + (i - len) = i by omega] at this
          rw [this]; exact ⟨_, List.getElem?_eq_getElem (by omega)⟩
      obtain ⟨y, hy⟩ := this
      simp only [Option.bind_eq_some_iff] at hy
      obtain ⟨cs, hcs, hy⟩ := hy
      obtain ⟨e, rfl⟩ := trod_event hy
      obtain ⟨_, hg⟩ := cells_get hcs
      refine ⟨e, fun j v hj => ?_⟩
      have hj6 : j < 6 := by have := lt_of_get hj; simpa [E6.vals] using this
      rw [← add_add, hg j hj6, hj]
    refine ⟨(List.range cap).pmap (fun i hi => (one i hi).choose) (fun i hi => by simpa using hi), .inr ⟨b, rfl, hl, by simp, fun i e hi j v hj => ?_⟩⟩
    have hic : i < cap := by have := lt_of_get hi; simpa using this
    simp [hic] at hi
    subst hi
    exact (one i hic).choose_spec j v hj

end
def flatE (l : List E6) : List AV := l.flatMap E6.cells

theorem flatE_length (l : List E6) : (flatE l).length = l.length * 6 := by
  induction l with
  | nil => rfl
  | cons e l ih => 
    have : flatE (e :: l) = e.cells ++ flatE l := rfl
    rw [this, List.length_append, ih]; simp [E6.cells]; omega

theorem flatE_drop : ∀ (l : List E6) (j : Nat), (flatE l).drop (j * 6) = flatE (l.drop j)
  | l, 0 => by simp
  | [], j + 1 => by simp [flatE]
  | e :: l, j + 1 => by
    have : flatE (e :: l) = e.cells ++ flatE l := rfl
    rw [this, show (j + 1) * 6 = e.cells.length + j * 6 by simp [E6.cells]; omega, List.drop_append, List.drop_of_length_le (by omega), List.nil_append, Nat.add_sub_cancel_left]
    simpa using flatE_drop l j

theorem flatE_at {l : List E6} {j : Nat} {e : E6} (h : l[j]? = some e) : ((flatE l).drop (j * 6)).take 6 = e.cells := by
  rw [flatE_drop]
  have hj := lt_of_get h
  rw [List.drop_eq_getElem_cons hj]
  rw [List.getElem?_eq_getElem hj] at h
  rw [Option.some.inj h]
  show (e.cells ++ flatE (l.drop (j + 1))).take 6 = e.cells
  rw [List.take_append_of_le_length (by simp [E6.cells])]
  exact List.take_of_length_le (by simp [E6.cells])

theorem flatE_get {l : List E6} {n : Nat} {v : AV} (h : (flatE l)[n]? = some v) : ∃ e, l[n / 6]? = some e ∧ e.cells[n % 6]? = some v := by
  have hn := lt_of_get h
  rw [flatE_length] at hn
  have hj : n / 6 < l.length := by omega
  refine ⟨_, List.getElem?_eq_getElem hj, ?_⟩
  rw [← flatE_at (List.getElem?_eq_getElem hj), List.getElem?_take, if_pos (by omega), List.getElem?_drop, show n / 6 * 6 + n % 6 = n by omega]
  exact h

theorem E6.vals_cells {e : E6} {j : Nat} {v : AV} (h : e.cells[j]? = some v) (φ : Env) : ∃ u, e.vals[j]? = some u ∧ VR φ v u := by
  match j with
  | 0 => cases h; exact ⟨_, rfl, rfl⟩
  | 1 => cases h; exact ⟨_, rfl, rfl⟩
  | 2 => cases h; exact ⟨_, rfl, rfl⟩
  | 3 => cases h; exact ⟨_, rfl, rfl⟩
  | 4 => cases h; exact ⟨_, rfl, rfl⟩
  | 5 => cases h; exact ⟨_, rfl, rfl⟩
  | n + 6 => simp [E6.cells] at h

theorem WR.one (w : World) {x : Nat × Nat × Nat} {cs : List AV} (hx : x.1 < w.heap.size) (ho : OR (fun i => if i = 0 then some x else none) w 0 (.arg cs)) :
    WR w (fun b => b < w.heap.size) (fun i => if i = 0 then some x else none) [.arg cs] w where
  dom := fun i hi => by simp at hi; simp; omega
  fresh := fun i hi => by cases i <;> simp at hi
  lt := fun i y hy => by split at hy <;> simp at hy; subst hy; exact hx
  inj := fun i j x y ⟨o, hi, hw⟩ => by cases i <;> simp at hi; subst hi; cases hw
  own := fun i x ⟨o, hi, hw⟩ => by cases i <;> simp at hi; subst hi; cases hw
  argP := fun i y cs hi hy => by split at hy <;> simp at hy; subst hy; exact hx
  obj := fun i o hi => by
    cases i with
    | zero => simp at hi; subst hi; exact ho
    | succ i => simp at hi
  prLt := fun b h => h
  size := Nat.le_refl _
  os := rfl
  tape := rfl
  output := rfl
  old := fun _ _ => rfl

theorem WR.idle (w : World) : WR w (fun b => b < w.heap.size) (fun _ => none) [.dead] w where
  dom := fun _ _ => rfl
  fresh := fun _ _ => rfl
  lt := fun i x h => by cases h
  inj := fun i j x y hi hj hx => by cases hx
  own := fun i x hi hx => by cases hx
  argP := fun i x cs hi hx => by cases hx
  obj := fun i o h => by
    cases i with
    | zero => simp at h; subst h; trivial
    | succ i => simp at h
  prLt := fun b h => h
  size := Nat.le_refl _
  os := rfl
  tape := rfl
  output := rfl
  old := fun _ _ => rfl

theorem start_events (W : World) {a : Option Addr} {len cap : Nat} {l : List E6} (h : InRow W a len cap l) :
    ∃ φ H v, WR W (fun b => b < W.heap.size) φ H W ∧ VR φ v (.slice a len cap) ∧ EvS H v (l.take len) ∧ (l.take len).length = len := by
  rcases h with ⟨rfl, rfl, rfl, rfl⟩ | ⟨x, rfl, hl, hcap, hc⟩
  · exact ⟨_, _, .nilSlice, WR.start W, rfl, .inl ⟨rfl, rfl⟩, rfl⟩
  · have htl : (l.take len).length = len := by simp; omega
    rcases Nat.eq_zero_or_pos cap with h0 | hpos
    · subst h0
      obtain rfl : len = 0 := by omega
      refine ⟨_, _, .slice 0 0 6 0 0 true, WR.idle W, ⟨x, 0, rfl, Nat.le_refl _, ⟨Nat.le_refl _, fun _ => rfl⟩, .inl rfl⟩, .inr ⟨0, 0, 0, true, by rw [htl], by simp, fun j e he => ?_⟩, htl⟩
      simp at he
    · obtain ⟨e0, he0⟩ : ∃ e, l[0]? = some e := ⟨_, List.getElem?_eq_getElem (by omega)⟩
      have hx := cell_spot (hc 0 e0 he0 0 _ rfl)
      have hx0 : x.add (0 * 6 + 0) = x := by simp [Addr.add]
      rw [hx0] at hx
      have hxa : ∀ n, x.add n = ⟨x.block, x.off + n, none⟩ := fun n => by
        unfold Addr.add
        split
        · rename_i h; subst h
          obtain ⟨b, o, s⟩ := x
          simp at hx ⊢; exact hx.1
        · rfl
      refine ⟨_, _, .slice 0 0 6 len cap true, WR.one W (x := (x.block, x.off, x.off + cap * 6)) (cs := flatE l) hx.2 ⟨x.block, x.off, _, rfl, fun n v hv => ?_⟩, ⟨x, cap, rfl, hl, ⟨Nat.le_refl _, fun _ => rfl⟩, .inr ⟨x.block, x.off, _, rfl, by have := hxa 0; rw [show x.add 0 = x by simp [Addr.add]] at this; exact this, by omega⟩⟩,
        .inr ⟨0, 0, cap, true, by rw [htl], by omega, fun j e he => ?_⟩, htl⟩
      · obtain ⟨e, he, hv'⟩ := flatE_get hv
        obtain ⟨u, hu, r⟩ := E6.vals_cells hv' _
        refine ⟨u, ?_, r⟩
        have := hc (n / 6) e he (n % 6) u hu
        rw [hxa, show n / 6 * 6 + n % 6 = n by omega] at this
        exact this
      · have hj : j < len := by have := lt_of_get he; omega
        rw [List.getElem?_take, if_pos hj] at he
        have hjl := lt_of_get he
        simp only [rdCells, List.getElem?_cons_zero]
        rw [if_pos (by rw [flatE_length]; omega), Nat.zero_add, flatE_at he]

theorem fl38 : fieldsOf (Try.prog.underlying 38) = [(34, 0), (34, 5)] := by kernel_rfl
theorem co38 : Try.prog.cellsOf 38 = 10 := by kernel_rfl
def E6.vals5 (e : E6) : List Value := [.int .i64 e.sp, .int .i64 e.bl, .int .i64 e.ce, .int .i64 e.th, .int .i64 e.ki]

section
variable {H : Type} {enc : TypeId × Value → H} {w : World} {base : Nat} {spare : Nat → Bool} {held : Bool}

theorem five {cs : List Value} (hl : cs.length = 5) {a0 a1 a2 a3 a4 : Int} (e0 : (cs.drop 0).take 1 = [.int .i64 a0]) (e1 : (cs.drop 1).take 1 = [.int .i64 a1]) (e2 : (cs.drop 2).take 1 = [.int .i64 a2])
    (e3 : (cs.drop 3).take 1 = [.int .i64 a3]) (e4 : (cs.drop 4).take 1 = [.int .i64 a4]) : ∃ e : E6, cs = e.vals5 := by
  rcases cs with _ | ⟨c0, _ | ⟨c1, _ | ⟨c2, _ | ⟨c3, _ | ⟨c4, _ | ⟨c5, cs⟩⟩⟩⟩⟩⟩ <;> simp at hl
  simp at e0 e1 e2 e3 e4
  exact ⟨⟨a0, a1, a2, a3, a4, 0⟩, by simp [E6.vals5, e0, e1, e2, e3, e4]⟩

theorem trod_access {fuel : Nat} {cs : List Value} {x : DataW H × List MemPlace} (h : DataW.trod enc Try.prog w base spare held fuel 34 cs = some x) : ∃ e : E6, cs = e.vals5 := by
  obtain ⟨m, hl0, hg⟩ := trod_fields fl34 (by simp) h
  rw [co34] at hl0
  obtain ⟨z0, g0⟩ := hg 0 3 0 rfl
  obtain ⟨z1, g1⟩ := hg 1 3 1 rfl
  obtain ⟨z2, g2⟩ := hg 2 3 2 rfl
  obtain ⟨z3, g3⟩ := hg 3 3 3 rfl
  obtain ⟨z4, g4⟩ := hg 4 3 4 rfl
  rw [co3] at g0 g1 g2 g3 g4
  obtain ⟨a0, e0, _⟩ := DataW.trod_int und3 g0
  obtain ⟨a1, e1, _⟩ := DataW.trod_int und3 g1
  obtain ⟨a2, e2, _⟩ := DataW.trod_int und3 g2
  obtain ⟨a3, e3, _⟩ := DataW.trod_int und3 g3
  obtain ⟨a4, e4, _⟩ := DataW.trod_int und3 g4
  clear g0 g1 g2 g3 g4 hg h
  exact five hl0 e0 e1 e2 e3 e4

theorem trod_race {fuel : Nat} {cs : List Value} {x : DataW H × List MemPlace} (h : DataW.trod enc Try.prog w base spare held fuel 38 cs = some x) : ∃ a b : E6, cs = a.vals5 ++ b.vals5 := by
  obtain ⟨m, hl, hg⟩ := trod_fields fl38 (by simp) h
  rw [co38] at hl
  obtain ⟨z0, g0⟩ := hg 0 34 0 rfl
  obtain ⟨z1, g1⟩ := hg 1 34 5 rfl
  rw [co34] at g0 g1
  obtain ⟨a, ha⟩ := trod_access g0
  obtain ⟨b, hb⟩ := trod_access g1
  refine ⟨a, b, ?_⟩
  rw [← ha, ← hb, List.drop_zero, List.take_of_length_le (l := cs.drop 5) (by simp; omega), List.take_append_drop]
end

theorem VR_race {φ : Env} (a b : E6) (cs : Array Value) (h : cs.toList = a.vals5 ++ b.vals5) : VR φ (.agg (rcells a b)) (.agg cs) := by
  refine ⟨_, rfl, ?_⟩
  rw [h]
  exact ⟨_, _, rfl, rfl, _, _, rfl, rfl, _, _, rfl, rfl, _, _, rfl, rfl, _, _, rfl, rfl, _, _, rfl, rfl, _, _, rfl, rfl, _, _, rfl, rfl, _, _, rfl, rfl, _, _, rfl, rfl, rfl⟩

end Go.Dv
