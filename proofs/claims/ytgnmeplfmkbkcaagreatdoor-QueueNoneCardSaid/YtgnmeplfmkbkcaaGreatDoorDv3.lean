/- Reads and writes of an abstract heap, and a row that is handed on (own work). -/
import Derived.Test.YtgnmeplfmkbkcaaGreatDoorDv2

namespace Go.Dv
set_option linter.unusedSimpArgs false
set_option linter.unusedVariables false

theorem lt_of_get {α : Type} {l : List α} {i : Nat} {o : α} (h : l[i]? = some o) : i < l.length := by
  rcases Nat.lt_or_ge i l.length with hl | hl
  · exact hl
  · rw [List.getElem?_eq_none hl] at h; cases h

def rdCells (H : AH) (i k n : Nat) : Option (List AV) :=
  match H[i]? with
  | some (.cells cs _) => if k + n ≤ cs.length then some ((cs.drop k).take n) else none
  | some (.arg cs) => if k + n ≤ cs.length then some ((cs.drop k).take n) else none
  | _ => none

section
variable {w0 : World} {Pr : Nat → Prop} {φ : Env} {H : AH} {w : World}

theorem cellOf {b j : Nat} {c : Array Value} {e : TypeId} {fz : Nat × Nat} (h : w.heap[b]? = some (.cells c e fz)) : w.cell? ⟨b, j, none⟩ = c[j]? := by
  simp [World.cell?, h]

theorem WR.cell_at (h : WR w0 Pr φ H w) {i b o z : Nat} (hφ : φ i = some (b, o, z)) {cs : List AV} (hi : (∃ e, H[i]? = some (.cells cs e)) ∨ H[i]? = some (.arg cs))
    (j : Nat) (x : AV) (hj : cs[j]? = some x) : ∃ v, w.cell? ⟨b, o + j, none⟩ = some v ∧ VR φ x v := by
  rcases hi with ⟨e, hi⟩ | hi
  · obtain ⟨b', o', z', c, hφ', hc, _, _, hv⟩ := h.obj i _ hi
    rw [hφ] at hφ'; cases hφ'
    obtain ⟨u, hu, r⟩ := hv j x hj
    exact ⟨u, by rw [cellOf hc]; exact hu, r⟩
  · obtain ⟨b', o', z', hφ', hv⟩ := h.obj i _ hi
    rw [hφ] at hφ'; cases hφ'
    exact hv j x hj

theorem WR.read (h : WR w0 Pr φ H w) {i b o z : Nat} (hφ : φ i = some (b, o, z)) {k n : Nat} {xs : List AV} (hr : rdCells H i k n = some xs) :
    ∃ vs : List Value, VRs φ xs vs ∧ vs.length = n ∧ ∀ j v, vs[j]? = some v → w.cell? ⟨b, o + k + j, none⟩ = some v := by
  have key : ∀ cs : List AV, ((∃ e, H[i]? = some (.cells cs e)) ∨ H[i]? = some (.arg cs)) → k + n ≤ cs.length →
      ∃ vs : List Value, VRs φ ((cs.drop k).take n) vs ∧ vs.length = n ∧ ∀ j v, vs[j]? = some v → w.cell? ⟨b, o + k + j, none⟩ = some v := by
    intro cs hi hle
    have hx : ∀ j, j < n → ∃ v, w.cell? ⟨b, o + k + j, none⟩ = some v ∧ ∀ x, cs[k + j]? = some x → VR φ x v := fun j hj => by
      have hl : k + j < cs.length := by omega
      obtain ⟨v, hv, r⟩ := h.cell_at hφ hi (k + j) _ (List.getElem?_eq_getElem hl)
      refine ⟨v, by rw [show o + k + j = o + (k + j) by omega]; exact hv, fun x hx => ?_⟩
      rw [List.getElem?_eq_getElem hl] at hx; cases hx; exact r
    refine ⟨(List.range n).map fun j => (w.cell? ⟨b, o + k + j, none⟩).getD undef, .of_get (by simp; omega) fun j x v hxj hvj => ?_, by simp, fun j v hvj => ?_⟩
    · rw [List.getElem?_take] at hxj
      split at hxj
      · rename_i hjn
        obtain ⟨u, hu, r⟩ := hx j hjn
        rw [List.getElem?_drop] at hxj
        simp [hjn, hu] at hvj
        subst hvj; exact r x hxj
      · cases hxj
    · have hjn : j < n := by simpa using lt_of_get hvj
      obtain ⟨u, hu, _⟩ := hx j hjn
      simp [hjn, hu] at hvj
      subst hvj; exact hu
  unfold rdCells at hr
  split at hr
  · rename_i cs e hi
    split at hr
    · rename_i hle; cases hr; exact key cs (.inl ⟨e, hi⟩) hle
    · cases hr
  · rename_i cs hi
    split at hr
    · rename_i hle; cases hr; exact key cs (.inr hi) hle
    · cases hr
  · cases hr

def AV.one : AV → Bool
  | .agg _ | .tuple _ => false
  | _ => true

theorem one_spec {x : AV} {v : Value} (h : x.one = true) (r : VR φ x v) : v.oneCell' = true := by
  cases x <;> simp only [AV.one] at h <;> try (cases h; done)
  case func => obtain ⟨_, _, rfl, _⟩ := r; rfl
  case iface => obtain ⟨_, rfl, _⟩ := r; rfl
  case ptr => obtain ⟨_, _, _, _, rfl⟩ := r; rfl
  case slice => obtain ⟨_, _, rfl, _⟩ := r; rfl
  case junk => exact r.1
  case map => obtain ⟨_, _, _, rfl⟩ := r; rfl
  all_goals (simp only [VR] at r; subst r; rfl)

def spl : List AV → Nat → List AV → List AV
  | cs, _, [] => cs
  | cs, k, v :: vs => spl (cs.set k v) (k + 1) vs

theorem spl_length : ∀ (vs cs : List AV) (k : Nat), (spl cs k vs).length = cs.length
  | [], _, _ => rfl
  | v :: vs, cs, k => by rw [spl, spl_length vs]; simp

def wrCells (H : AH) (i k : Nat) (vs : List AV) : Option AH :=
  match H[i]? with
  | some (.cells cs e) => if k + vs.length ≤ cs.length ∧ vs.all AV.one = true then some (H.set i (.cells (spl cs k vs) e)) else none
  | _ => none

theorem run_store_at {P : Program} {b j : Nat} {c : Array Value} {e : TypeId} (h : w.heap[b]? = some (.cells c e (0, 0))) {v : Value} (hv : v.oneCell' = true) (hj : j < c.size) (m : Go.Mode) :
    (store ⟨b, j, none⟩ v m).run P w = .ok () (w.setCell ⟨b, j, none⟩ v) := by
  have hc : w.cell? ⟨b, j, none⟩ = some c[j] := by rw [cellOf h]; exact Array.getElem?_eq_getElem hj
  have hf : w.frozen? ⟨b, j, none⟩ = false := by simp [World.frozen?, h]
  cases v <;> first | (simp [Value.oneCell'] at hv; done) | simp [store, Sem.run, hc, hf]

theorem WR.store1 (h : WR w0 Pr φ H w) {P : Program} {i b o z : Nat} (hφ : φ i = some (b, o, z)) {cs : List AV} {e : TypeId} (hi : H[i]? = some (.cells cs e))
    {k : Nat} (hk : k < cs.length) {x : AV} {v : Value} (r : VR φ x v) (h1 : x.one = true) (m : Go.Mode) :
    (store ⟨b, o + k, none⟩ v m).run P w = .ok () (w.setCell ⟨b, o + k, none⟩ v) ∧ WR w0 Pr φ (H.set i (.cells (cs.set k x) e)) (w.setCell ⟨b, o + k, none⟩ v) := by
  obtain ⟨b', o', z', c, hφ', hc, hz, hl, hv⟩ := h.obj i _ hi
  rw [hφ] at hφ'; cases hφ'
  have hheap : (w.setCell ⟨b, o + k, none⟩ v).heap[b]? = some (.cells (c.setIfInBounds (o + k) v) e (0, 0)) := by
    simp [World.setCell, Array.getElem?_modify, hc]
  refine ⟨run_store_at hc (one_spec h1 r) (by omega) m, h.rewrite hi rfl rfl hφ (by simp [World.setCell]) rfl rfl rfl (fun d hd => ?_) ⟨b, o, z, _, hφ, hheap, by simpa using hz, by simpa using hl, fun j y hj => ?_⟩⟩
  · simp only [World.setCell, Array.getElem?_modify]
    rw [if_neg (fun e => hd e.symm)]
  · rw [List.getElem?_set] at hj
    split at hj
    · rename_i hkj; subst hkj
      simp [hk] at hj; subst hj
      exact ⟨v, by rw [Array.getElem?_setIfInBounds]; simp; omega, r⟩
    · rename_i hkj
      obtain ⟨u, hu, r'⟩ := hv j y hj
      exact ⟨u, by rw [Array.getElem?_setIfInBounds, if_neg (by omega)]; exact hu, r'⟩

theorem add_none (b o n : Nat) : (⟨b, o, none⟩ : Addr).add n = ⟨b, o + n, none⟩ := by
  unfold Addr.add; split <;> simp_all

theorem WR.stores {P : Program} {i b o z : Nat} (hφ : φ i = some (b, o, z)) {e : TypeId} : ∀ (xs : List AV) (vs : List Value) (cs : List AV) (H : AH) (w : World) (k o' n : Nat),
    WR w0 Pr φ H w → H[i]? = some (.cells cs e) → k + xs.length ≤ cs.length → xs.all AV.one = true → VRs φ xs vs → o' + n = o + k →
    ∃ w', (storeCells ⟨b, o', none⟩ vs n).run P w = .ok () w' ∧ WR w0 Pr φ (H.set i (.cells (spl cs k xs) e)) w'
  | [], vs, cs, H, w, k, o', n, h, hi, hk, h1, r, ho => by
    rw [show vs = [] from r]
    refine ⟨w, rfl, ?_⟩
    have : H.set i (.cells cs e) = H := by
      apply List.ext_getElem?; intro j
      rw [List.getElem?_set]
      split
      · rename_i hij; subst hij; rw [hi]; simp [lt_of_get hi]
      · rfl
    simp only [spl, this]; exact h
  | x :: xs, vs, cs, H, w, k, o', n, h, hi, hk, h1, ⟨v, vs', hvs, rx, rs⟩, ho => by
    subst hvs
    simp only [List.length_cons] at hk
    simp only [List.all_cons, Bool.and_eq_true] at h1
    obtain ⟨hst, hW⟩ := h.store1 (P := P) hφ hi (k := k) (by omega) rx h1.1 .plain
    have hil : i < H.length := lt_of_get hi
    obtain ⟨w', hw', hW'⟩ := WR.stores (P := P) hφ xs vs' (cs.set k x) _ _ (k + 1) o' (n + 1) hW (show (H.set i (.cells (cs.set k x) e))[i]? = some (.cells (cs.set k x) e) by simp [hil]) (by simp; omega) h1.2 rs (by omega)
    refine ⟨w', ?_, ?_⟩
    · simp only [storeCells, Sem.run_bind, add_none, ho, hst, Result.andThen_ok, hw']
    · simpa [spl, List.set_set] using hW'

theorem WR.drew (h : WR w0 Pr φ H w) (n : Nat) : WR w0 Pr φ H { w with drawn := n } :=
  ⟨h.dom, h.fresh, h.lt, h.inj, h.own, h.argP, fun i o hi => (h.obj i o hi).keep (Env.le_refl φ) fun _ _ => rfl, h.prLt, h.size, h.os, h.tape, h.output, h.old⟩

/-- A row of the call's own is given up. -/
theorem WR.kill (h : WR w0 Pr φ H w) {i : Nat} : WR w0 Pr φ (H.set i .dead) w := by
  have hO : ∀ j, Owned (H.set i .dead) j → Owned H j ∧ j ≠ i := fun j ⟨q, hq, hw⟩ => by
    by_cases e : j = i
    · subst e
      rw [List.getElem?_set] at hq; simp only [if_true] at hq
      split at hq
      · cases hq; cases hw
      · cases hq
    · rw [List.getElem?_set_ne (Ne.symm e)] at hq; exact ⟨⟨q, hq, hw⟩, e⟩
  have hG : ∀ {j : Nat} {q : AObj}, (H.set i .dead)[j]? = some q → q = .dead ∨ H[j]? = some q := fun {j q} hq => by
    by_cases e : j = i
    · subst e
      rw [List.getElem?_set] at hq; simp only [if_true] at hq
      split at hq
      · cases hq; exact .inl rfl
      · cases hq
    · rw [List.getElem?_set_ne (Ne.symm e)] at hq; exact .inr hq
  refine ⟨fun j hj => h.dom j (by simpa using hj), fun j hj => ?_, h.lt, fun j k x y hj hk => h.inj j k x y (hO j hj).1 (hO k hk).1, fun j x hj => h.own j x (hO j hj).1, fun j x cs hj hx => ?_, fun j q hj => ?_, h.prLt, h.size, h.os, h.tape, h.output, h.old⟩
  · rcases hG hj with e | e
    · cases e
    · exact h.fresh j e
  · rcases hG hj with e | e
    · cases e
    · exact h.argP j x cs e hx
  · rcases hG hj with e | e
    · subst e; trivial
    · exact h.obj j q e

/-- What lies on a block that nobody owns turns. -/
theorem WR.turn {w' : World} (h : WR w0 Pr φ H w) {b : Nat} (hb : ¬ Pr b) (hno : ∀ i x, Owned H i → φ i = some x → x.1 ≠ b)
    (hsz : w'.heap.size = w.heap.size) (hos : w'.os = w.os) (htp : w'.tape = w.tape) (hout : w'.output = w.output)
    (hne : ∀ c, c ≠ b → w'.heap[c]? = w.heap[c]?) : WR w0 Pr φ H w' := by
  refine ⟨h.dom, h.fresh, fun i x hx => by rw [hsz]; exact h.lt i x hx, h.inj, h.own, h.argP, fun i o hi => ?_, h.prLt, by rw [hsz]; exact h.size, hos.trans h.os, htp.trans h.tape, hout.trans h.output, fun c hc => ?_⟩
  · have hk := h.obj i o hi
    cases o with
    | fresh => trivial
    | dead => trivial
    | arg cs => exact hk.keep (Env.le_refl φ) fun x hx => hne _ fun e => hb (e ▸ h.argP i x cs hi hx)
    | cells cs e' => exact hk.keep (Env.le_refl φ) fun x hx => hne _ (hno i x ⟨_, hi, rfl⟩ hx)
    | map es cl => exact hk.keep (Env.le_refl φ) fun x hx => hne _ (hno i x ⟨_, hi, rfl⟩ hx)
    | strIter s p => exact hk.keep (Env.le_refl φ) fun x hx => hne _ (hno i x ⟨_, hi, rfl⟩ hx)
  · rw [hne c (fun e => hb (e ▸ hc))]; exact h.old c hc

/-- A block that nobody owns is taken. -/
theorem WR.adopt (h : WR w0 Pr φ H w) {slot : Option Nat} {o : AObj} {i : Nat} {H' : AH}
    (hp : put slot H o = some (i, H')) {b off z : Nat} (hb : b < w.heap.size) (hPr : ¬ Pr b) (hno : ∀ i x, Owned H i → φ i = some x → x.1 ≠ b)
    (ho : OR (φ.set i (b, off, z)) w i o) (hown : o.owned = true) :
    φ.le (φ.set i (b, off, z)) ∧ WR w0 Pr (φ.set i (b, off, z)) H' w := by
  obtain ⟨hn, hne, hi, hlen, hdom⟩ := put_spec h hp
  have hle := Env.le_set (b, off, z) hn
  have hown' : ∀ j, Owned H' j → j ≠ i → Owned H j := fun j ⟨o, ho, hw⟩ hj => ⟨o, by rw [← hne j hj]; exact ho, hw⟩
  refine ⟨hle, ⟨fun j hj => ?_, fun j hj => ?_, fun j x hx => ?_, fun j k x y hj hk hx hy e => ?_, fun j x hj hx => ?_, fun j x cs hj hx => ?_, fun j o' hj => ?_, h.prLt, h.size, h.os, h.tape, h.output, h.old⟩⟩
  · obtain ⟨h1, h2⟩ := hdom j hj
    rw [Env.set_ne _ _ h2]; exact h.dom j h1
  · have hji : j ≠ i := by rintro rfl; rw [hi] at hj; cases hj; cases hown
    rw [Env.set_ne _ _ hji]
    exact h.fresh j (by rw [← hne j hji]; exact hj)
  · by_cases e : j = i
    · subst e; rw [Env.set_self] at hx; cases hx; exact hb
    · rw [Env.set_ne _ _ e] at hx; exact h.lt j x hx
  · by_cases ej : j = i <;> by_cases ek : k = i
    · rw [ej, ek]
    · subst ej; rw [Env.set_self] at hx; rw [Env.set_ne _ _ ek] at hy; cases hx
      exact absurd e.symm (hno k y (hown' k hk ek) hy)
    · subst ek; rw [Env.set_self] at hy; rw [Env.set_ne _ _ ej] at hx; cases hy
      exact absurd e (hno j x (hown' j hj ej) hx)
    · rw [Env.set_ne _ _ ej] at hx; rw [Env.set_ne _ _ ek] at hy
      exact h.inj j k x y (hown' j hj ej) (hown' k hk ek) hx hy e
  · by_cases ej : j = i
    · subst ej; rw [Env.set_self] at hx; cases hx; exact hPr
    · rw [Env.set_ne _ _ ej] at hx; exact h.own j x (hown' j hj ej) hx
  · have hji : j ≠ i := by rintro rfl; rw [hi] at hj; cases hj; cases hown
    rw [Env.set_ne _ _ hji] at hx
    exact h.argP j x cs (by rw [← hne j hji]; exact hj) hx
  · by_cases ej : j = i
    · subst ej; rw [hi] at hj; cases hj; exact ho
    · rw [hne j ej] at hj
      exact (h.obj j o' hj).keep hle fun x hx => rfl

theorem setCells_heap : ∀ (vs : List Value) (w : World) (b o : Nat) (c : Array Value) (e : TypeId), w.heap[b]? = some (.cells c e (0, 0)) → o + vs.length ≤ c.size →
    ∃ c' : Array Value, (w.setCells b o vs).heap[b]? = some (.cells c' e (0, 0)) ∧ c'.size = c.size ∧ (∀ j, j < o → c'[j]? = c[j]?) ∧ (∀ j v, vs[j]? = some v → c'[o + j]? = some v)
  | [], w, b, o, c, e, h, _ => ⟨c, h, rfl, fun _ _ => rfl, fun j v hj => by simp at hj⟩
  | v :: vs, w, b, o, c, e, h, hl => by
    simp only [List.length_cons] at hl
    have h1 : (w.setCell ⟨b, o, none⟩ v).heap[b]? = some (.cells (c.setIfInBounds o v) e (0, 0)) := by simp [World.setCell, Array.getElem?_modify, h]
    obtain ⟨c', hc', hs, hlo, hin⟩ := setCells_heap vs (w.setCell ⟨b, o, none⟩ v) b (o + 1) _ e h1 (by simp; omega)
    refine ⟨c', hc', by simpa using hs, fun j hj => ?_, fun j u hj => ?_⟩
    · rw [hlo j (by omega), Array.getElem?_setIfInBounds, if_neg (by omega)]
    · cases j with
      | zero =>
        simp at hj; subst hj
        rw [Nat.add_zero, hlo o (by omega), Array.getElem?_setIfInBounds, if_pos rfl, if_pos (by omega)]
      | succ j => rw [show o + (j + 1) = o + 1 + j by omega]; exact hin j u (by simpa using hj)

theorem setCells_frame : ∀ (vs : List Value) (w : World) (b o : Nat), (w.setCells b o vs).heap.size = w.heap.size ∧ (w.setCells b o vs).os = w.os ∧ (w.setCells b o vs).tape = w.tape ∧
    (w.setCells b o vs).output = w.output ∧ ∀ c, c ≠ b → (w.setCells b o vs).heap[c]? = w.heap[c]?
  | [], _, _, _ => ⟨rfl, rfl, rfl, rfl, fun _ _ => rfl⟩
  | v :: vs, w, b, o => by
    obtain ⟨h1, h2, h3, h4, h5⟩ := setCells_frame vs (w.setCell ⟨b, o, none⟩ v) b (o + 1)
    refine ⟨h1.trans (by simp [World.setCell]), h2, h3, h4, fun c hc => (h5 c hc).trans ?_⟩
    simp only [World.setCell, Array.getElem?_modify]
    rw [if_neg (fun e => hc e.symm)]

end
end Go.Dv
