/- Abstract heaps and their relation to worlds; the heap's moves: a new block, a store, a load, a row handed on by an append (own work). -/
import Derived.Test.YtgnmeplfmkbkcaaGreatDoorDv1
import Derived.WalkKit
import Derived.Laws.Cells
import Derived.Laws.IdiomCopy

namespace Go.Dv

inductive AObj where
  | fresh
  | dead
  | cells (cs : List AV) (elem : TypeId)
  | arg (cs : List AV)
  | map (es : List (AV × AV × Nat)) (clock : Nat)
  | strIter (s : ByteArray) (pos : Nat)
  deriving Inhabited

abbrev AH := List AObj

def AObj.owned : AObj → Bool
  | .cells .. | .map .. | .strIter .. => true
  | _ => false

def Owned (H : AH) (i : Nat) : Prop := ∃ o, H[i]? = some o ∧ o.owned = true

def MR (φ : Env) : List (AV × AV × Nat) → List MapEntry → Prop
  | [], l => l = []
  | (k, v, n) :: es, l => ∃ e l', l = e :: l' ∧ VR φ k e.key ∧ VR φ v e.val ∧ e.born = n ∧ MR φ es l'

theorem MR.mono {φ ψ : Env} (h : φ.le ψ) : ∀ (es : List (AV × AV × Nat)) (l : List MapEntry), MR φ es l → MR ψ es l
  | [], _, r => r
  | (_, _, _) :: es, _, ⟨e, l', q, rk, rv, rn, rs⟩ => ⟨e, l', q, rk.mono h, rv.mono h, rn, MR.mono h es _ rs⟩

def OR (φ : Env) (w : World) (i : Nat) : AObj → Prop
  | .fresh | .dead => True
  | .cells cs elem => ∃ b o z c, φ i = some (b, o, z) ∧ w.heap[b]? = some (.cells c elem (0, 0)) ∧ c.size = z ∧ o + cs.length ≤ z ∧
      ∀ j v, cs[j]? = some v → ∃ u, c[o + j]? = some u ∧ VR φ v u
  | .arg cs => ∃ b o z, φ i = some (b, o, z) ∧ ∀ j v, cs[j]? = some v → ∃ u, w.cell? ⟨b, o + j, none⟩ = some u ∧ VR φ v u
  | .map es clock => ∃ b z es', φ i = some (b, 0, z) ∧ w.heap[b]? = some (.map es' clock) ∧ MR φ es es'.toList
  | .strIter s p => ∃ b z, φ i = some (b, 0, z) ∧ w.heap[b]? = some (.stringIter s p)

structure WR (w0 : World) (Pr : Nat → Prop) (φ : Env) (H : AH) (w : World) : Prop where
  dom : ∀ i, H.length ≤ i → φ i = none
  fresh : ∀ i, H[i]? = some .fresh → φ i = none
  lt : ∀ i x, φ i = some x → x.1 < w.heap.size
  inj : ∀ i j x y, Owned H i → Owned H j → φ i = some x → φ j = some y → x.1 = y.1 → i = j
  own : ∀ i x, Owned H i → φ i = some x → ¬ Pr x.1
  argP : ∀ i x cs, H[i]? = some (.arg cs) → φ i = some x → Pr x.1
  obj : ∀ i o, H[i]? = some o → OR φ w i o
  prLt : ∀ b, Pr b → b < w0.heap.size
  size : w0.heap.size ≤ w.heap.size
  os : w.os = w0.os
  tape : w.tape = w0.tape
  output : w.output = w0.output
  old : ∀ b, Pr b → w.heap[b]? = w0.heap[b]?

/-- What an object says holds on where its block has not turned. -/
theorem OR.keep {φ ψ : Env} {w w' : World} {i : Nat} {o : AObj} (h : OR φ w i o) (hle : φ.le ψ)
    (hb : ∀ x, φ i = some x → w'.heap[x.1]? = w.heap[x.1]?) : OR ψ w' i o := by
  cases o with
  | fresh => trivial
  | dead => trivial
  | cells cs e =>
    obtain ⟨b, o, z, c, hi, hc, hz, hl, hv⟩ := h
    refine ⟨b, o, z, c, hle _ _ hi, ?_, hz, hl, fun j v hj => ?_⟩
    · rw [hb _ hi]; exact hc
    · obtain ⟨u, hu, r⟩ := hv j v hj; exact ⟨u, hu, r.mono hle⟩
  | arg cs =>
    obtain ⟨b, o, z, hi, hv⟩ := h
    refine ⟨b, o, z, hle _ _ hi, fun j v hj => ?_⟩
    obtain ⟨u, hu, r⟩ := hv j v hj
    refine ⟨u, ?_, r.mono hle⟩
    rw [← hu]
    exact World.cell?_of_block (w := w) (a := ⟨b, o + j, none⟩) (hb _ hi)
  | map es clock =>
    obtain ⟨b, z, es', hi, hm, r⟩ := h
    exact ⟨b, z, es', hle _ _ hi, by rw [hb _ hi]; exact hm, MR.mono hle _ _ r⟩
  | strIter s p =>
    obtain ⟨b, z, hi, hm⟩ := h
    exact ⟨b, z, hle _ _ hi, by rw [hb _ hi]; exact hm⟩

def Env.set (φ : Env) (i : Nat) (x : Nat × Nat × Nat) : Env := fun j => if j = i then some x else φ j
theorem Env.set_self (φ : Env) (i : Nat) (x) : φ.set i x i = some x := by simp [Env.set]
theorem Env.set_ne (φ : Env) {i j : Nat} (x) (h : j ≠ i) : φ.set i x j = φ j := by simp [Env.set, h]
theorem Env.le_set {φ : Env} {i : Nat} (x) (h : φ i = none) : φ.le (φ.set i x) := fun j y hj => by
  by_cases e : j = i
  · subst e; rw [h] at hj; cases hj
  · rw [Env.set_ne φ x e]; exact hj

/-- A new abstract block: at the heap's end, or at a place that was kept for it. -/
def put (slot : Option Nat) (H : AH) (o : AObj) : Option (Nat × AH) :=
  match slot with
  | none => some (H.length, H ++ [o])
  | some i => match H[i]? with
    | some .fresh => some (i, H.set i o)
    | _ => none

theorem put_spec {w0 : World} {Pr : Nat → Prop} {φ : Env} {H : AH} {w : World} (h : WR w0 Pr φ H w) {slot : Option Nat} {o : AObj} {i : Nat} {H' : AH}
    (hp : put slot H o = some (i, H')) :
    φ i = none ∧ (∀ j, j ≠ i → H'[j]? = H[j]?) ∧ H'[i]? = some o ∧ H.length ≤ H'.length ∧ (∀ j, H'.length ≤ j → H.length ≤ j ∧ j ≠ i) := by
  unfold put at hp
  split at hp
  · simp only [Option.some.injEq, Prod.mk.injEq] at hp
    obtain ⟨rfl, rfl⟩ := hp
    refine ⟨h.dom _ (Nat.le_refl _), fun j hj => ?_, by simp, by simp, fun j hj => ?_⟩
    · rcases Nat.lt_or_ge j H.length with hl | hl
      · rw [List.getElem?_append_left hl]
      · rw [List.getElem?_append_right hl, List.getElem?_eq_none hl, List.getElem?_eq_none (by simp; omega)]
    · simp at hj; omega
  · rename_i i'
    split at hp
    · rename_i hf
      simp only [Option.some.injEq, Prod.mk.injEq] at hp
      obtain ⟨rfl, rfl⟩ := hp
      have hl : i' < H.length := by
        rcases Nat.lt_or_ge i' H.length with hl | hl
        · exact hl
        · rw [List.getElem?_eq_none hl] at hf; cases hf
      refine ⟨h.fresh _ hf, fun j hj => List.getElem?_set_ne (Ne.symm hj), by simp [hl], by simp, fun j hj => ?_⟩
      simp at hj; omega
    · cases hp

theorem Owned.get {H : AH} {i : Nat} (h : Owned H i) : ∃ o, H[i]? = some o ∧ o.owned = true := h

/-- A new block. -/
theorem WR.alloc {w0 : World} {Pr : Nat → Prop} {φ : Env} {H : AH} {w : World} (h : WR w0 Pr φ H w) {slot : Option Nat} {o : AObj} {i : Nat} {H' : AH}
    (hp : put slot H o = some (i, H')) (ob : Obj) (z : Nat)
    (ho : OR (φ.set i (w.heap.size, 0, z)) { w with heap := w.heap.push ob } i o) (hown : o.owned = true) :
    φ.le (φ.set i (w.heap.size, 0, z)) ∧ WR w0 Pr (φ.set i (w.heap.size, 0, z)) H' { w with heap := w.heap.push ob } := by
  obtain ⟨hn, hne, hi, hlen, hdom⟩ := put_spec h hp
  have hle := Env.le_set (w.heap.size, 0, z) hn
  have hown' : ∀ j, Owned H' j → j ≠ i → Owned H j := fun j ⟨o, ho, hw⟩ hj => ⟨o, by rw [← hne j hj]; exact ho, hw⟩
  have hbl : ∀ b, b < w.heap.size → (w.heap.push ob)[b]? = w.heap[b]? := fun b hb => by
    rw [Array.getElem?_push, if_neg (by omega)]
  refine ⟨hle, ⟨fun j hj => ?_, fun j hj => ?_, fun j x hx => ?_, fun j k x y hj hk hx hy e => ?_, fun j x hj hx => ?_, fun j x cs hj hx => ?_, fun j o' hj => ?_, h.prLt, ?_, h.os, h.tape, h.output, fun b hb => ?_⟩⟩
  · obtain ⟨h1, h2⟩ := hdom j hj
    rw [Env.set_ne _ _ h2]; exact h.dom j h1
  · have hji : j ≠ i := by rintro rfl; rw [hi] at hj; cases hj; cases hown
    rw [Env.set_ne _ _ hji]
    exact h.fresh j (by rw [← hne j hji]; exact hj)
  · by_cases e : j = i
    · subst e; rw [Env.set_self] at hx; cases hx; simp
    · rw [Env.set_ne _ _ e] at hx
      have := h.lt j x hx
      simp; omega
  · by_cases ej : j = i <;> by_cases ek : k = i
    · rw [ej, ek]
    · subst ej; rw [Env.set_self] at hx; rw [Env.set_ne _ _ ek] at hy; cases hx
      have := h.lt k y hy; simp only at e; omega
    · subst ek; rw [Env.set_self] at hy; rw [Env.set_ne _ _ ej] at hx; cases hy
      have := h.lt j x hx; simp only at e; omega
    · rw [Env.set_ne _ _ ej] at hx; rw [Env.set_ne _ _ ek] at hy
      exact h.inj j k x y (hown' j hj ej) (hown' k hk ek) hx hy e
  · by_cases ej : j = i
    · subst ej; rw [Env.set_self] at hx; cases hx
      intro hb; have := h.prLt _ hb; have := h.size; simp only at *; omega
    · rw [Env.set_ne _ _ ej] at hx
      exact h.own j x (hown' j hj ej) hx
  · have hji : j ≠ i := by rintro rfl; rw [hi] at hj; cases hj; cases hown
    rw [Env.set_ne _ _ hji] at hx
    exact h.argP j x cs (by rw [← hne j hji]; exact hj) hx
  · by_cases ej : j = i
    · subst ej; rw [hi] at hj; cases hj; exact ho
    · rw [hne j ej] at hj
      exact (h.obj j o' hj).keep hle fun x hx => hbl _ (h.lt j x hx)
  · have := h.size; simp; omega
  · show (w.heap.push ob)[b]? = _
    rw [hbl b (by have := h.prLt b hb; have := h.size; omega)]
    exact h.old b hb

/-- A block of the call's own is rewritten. -/
theorem WR.rewrite {w0 : World} {Pr : Nat → Prop} {φ : Env} {H : AH} {w w' : World} (h : WR w0 Pr φ H w) {i : Nat} {o o' : AObj} {b off z : Nat}
    (hi : H[i]? = some o) (hown : o.owned = true) (hown' : o'.owned = true) (hφ : φ i = some (b, off, z))
    (hsz : w'.heap.size = w.heap.size) (hos : w'.os = w.os) (htp : w'.tape = w.tape) (hout : w'.output = w.output)
    (hne : ∀ c, c ≠ b → w'.heap[c]? = w.heap[c]?) (ho : OR φ w' i o') : WR w0 Pr φ (H.set i o') w' := by
  have hl : i < H.length := by
    rcases Nat.lt_or_ge i H.length with hl | hl
    · exact hl
    · rw [List.getElem?_eq_none hl] at hi; cases hi
  have hO : ∀ j, Owned (H.set i o') j → Owned H j := fun j ⟨q, hq, hw⟩ => by
    by_cases e : j = i
    · subst e; exact ⟨o, hi, hown⟩
    · rw [List.getElem?_set_ne (Ne.symm e)] at hq; exact ⟨q, hq, hw⟩
  have hOi : Owned H i := ⟨o, hi, hown⟩
  refine ⟨fun j hj => h.dom j (by simpa using hj), fun j hj => ?_, fun j x hx => by rw [hsz]; exact h.lt j x hx, fun j k x y hj hk => h.inj j k x y (hO j hj) (hO k hk), fun j x hj => h.own j x (hO j hj), fun j x cs hj hx => ?_, fun j q hj => ?_, h.prLt, by rw [hsz]; exact h.size, hos.trans h.os, htp.trans h.tape, hout.trans h.output, fun c hc => ?_⟩
  · by_cases e : j = i
    · subst e; simp [hl] at hj; subst hj; cases hown'
    · rw [List.getElem?_set_ne (Ne.symm e)] at hj; exact h.fresh j hj
  · by_cases e : j = i
    · subst e; simp [hl] at hj; subst hj; cases hown'
    · rw [List.getElem?_set_ne (Ne.symm e)] at hj; exact h.argP j x cs hj hx
  · by_cases e : j = i
    · subst e; simp [hl] at hj; subst hj; exact ho
    · rw [List.getElem?_set_ne (Ne.symm e)] at hj
      have hk := h.obj j q hj
      have go : (∀ x, φ j = some x → x.1 ≠ b) → OR φ w' j q := fun g => hk.keep (Env.le_refl φ) fun x hx => hne _ (g x hx)
      cases q with
      | fresh => trivial
      | dead => trivial
      | arg cs => exact go fun x hx hxb => h.own i _ hOi hφ (by rw [← hxb]; exact h.argP j x cs hj hx)
      | cells cs e' => exact go fun x hx hxb => e (h.inj j i x _ ⟨_, hj, rfl⟩ hOi hx hφ hxb)
      | map es cl => exact go fun x hx hxb => e (h.inj j i x _ ⟨_, hj, rfl⟩ hOi hx hφ hxb)
      | strIter s p => exact go fun x hx hxb => e (h.inj j i x _ ⟨_, hj, rfl⟩ hOi hx hφ hxb)
  · rw [hne c (fun e => h.own i _ hOi hφ (by subst e; exact hc))]
    exact h.old c hc

end Go.Dv
