/- Calls that need nothing of the world but its package variables, run once by the kernel, stand in every world (own work). -/
import Derived.Test.YtgnmeplfmkbkcaaGreatDoorDv15

namespace Go.Dv
set_option linter.unusedSimpArgs false
set_option linter.unusedVariables false

mutual
theorem toV_VR {φ : Env} : ∀ (x : AV) (v : Value), toV x = some v → VR φ x v
  | .int .., v, h => by simp only [toV, Option.some.injEq] at h; exact h.symm
  | .bool .., v, h => by simp only [toV, Option.some.injEq] at h; exact h.symm
  | .str .., v, h => by simp only [toV, Option.some.injEq] at h; exact h.symm
  | .nilPtr, v, h => by simp only [toV, Option.some.injEq] at h; exact h.symm
  | .nilSlice, v, h => by simp only [toV, Option.some.injEq] at h; exact h.symm
  | .nilMap, v, h => by simp only [toV, Option.some.injEq] at h; exact h.symm
  | .nilFunc, v, h => by simp only [toV, Option.some.injEq] at h; exact h.symm
  | .nilIface, v, h => by simp only [toV, Option.some.injEq] at h; exact h.symm
  | .ptr .., v, h => by simp [toV] at h
  | .slice .., v, h => by simp [toV] at h
  | .map .., v, h => by simp [toV] at h
  | .junk, v, h => by simp [toV] at h
  | .iface t x, v, h => by
    simp only [toV, Option.map_eq_some_iff] at h
    obtain ⟨y, hy, rfl⟩ := h
    exact ⟨y, rfl, toV_VR x y hy⟩
  | .agg cs, v, h => by
    simp only [toV, Option.map_eq_some_iff] at h
    obtain ⟨y, hy, rfl⟩ := h
    exact ⟨_, rfl, toVs_VR cs y hy⟩
  | .tuple cs, v, h => by
    simp only [toV, Option.map_eq_some_iff] at h
    obtain ⟨y, hy, rfl⟩ := h
    exact ⟨_, rfl, toVs_VR cs y hy⟩
  | .func fn f c, v, h => by
    simp only [toV, Option.bind_eq_some_iff, Option.map_eq_some_iff] at h
    obtain ⟨y, hy, z, hz, rfl⟩ := h
    exact ⟨_, _, rfl, toVs_VR f y hy, toVs_VR c z hz⟩
theorem toVs_VR {φ : Env} : ∀ (xs : List AV) (l : List Value), toVs xs = some l → VRs φ xs l
  | [], l, h => by simp only [toVs, Option.some.injEq] at h; exact h.symm
  | x :: xs, l, h => by
    simp only [toVs, Option.bind_eq_some_iff, Option.map_eq_some_iff] at h
    obtain ⟨y, hy, z, hz, rfl⟩ := h
    exact ⟨_, _, rfl, toV_VR x y hy, toVs_VR xs z hz⟩
end

/-- what leads to no block means the same everywhere -/
theorem toV_env {φ ψ : Env} {x : AV} {u : Value} (h : (toV x).isSome = true) (r : VR φ x u) : VR ψ x u := by
  obtain ⟨v, hv⟩ := Option.isSome_iff_exists.1 h
  rw [toV_spec x v hv u r]
  exact toV_VR x v hv
theorem toVs_env {φ ψ : Env} {xs : List AV} {us : List Value} (h : (toVs xs).isSome = true) (r : VRs φ xs us) : VRs ψ xs us := by
  obtain ⟨v, hv⟩ := Option.isSome_iff_exists.1 h
  rw [toVs_spec xs v hv us r]
  exact toVs_VR xs v hv
theorem toVs_get : ∀ {xs : List AV} (_ : (toVs xs).isSome = true) {j : Nat} {x : AV}, xs[j]? = some x → (toV x).isSome = true
  | [], _, _, _, h => by simp at h
  | y :: ys, hs, j, x, h => by
    obtain ⟨l, hl⟩ := Option.isSome_iff_exists.1 hs
    simp only [toVs, Option.bind_eq_some_iff, Option.map_eq_some_iff] at hl
    obtain ⟨a, ha, b, hb, _⟩ := hl
    cases j with
    | zero => simp at h; subst h; rw [ha]; rfl
    | succ j => exact toVs_get (xs := ys) (by rw [hb]; rfl) (by simpa using h)


theorem WR.start (w : World) : WR w (fun b => b < w.heap.size) (fun _ => none) [] w where
  dom := fun _ _ => rfl
  fresh := fun _ _ => rfl
  lt := fun i x h => by cases h
  inj := fun i j x y hi hj hx => by cases hx
  own := fun i x hi hx => by cases hx
  argP := fun i x cs hi hx => by cases hx
  obj := fun i o h => by simp at h
  prLt := fun b h => h
  size := Nat.le_refl _
  os := rfl
  tape := rfl
  output := rfl
  old := fun _ _ => rfl

/-- One package variable's block, as rows that are only read. -/
def oneG (g z : Nat) : Env := fun i => if i = 0 then some (g, 0, z) else none
theorem WR.startG (w : World) {g : Nat} {cs : List AV} (hg : g < w.heap.size) (ho : OR (oneG g cs.length) w 0 (.arg cs)) : WR w (fun b => b < w.heap.size) (oneG g cs.length) [.arg cs] w where
  dom := fun i hi => by simp at hi; simp only [oneG]; rw [if_neg (by omega)]
  fresh := fun i hi => by cases i <;> simp at hi
  lt := fun i y hy => by simp only [oneG] at hy; split at hy <;> simp at hy; subst hy; exact hg
  inj := fun i j x y ⟨o, hi, hw⟩ => by cases i <;> simp at hi; subst hi; cases hw
  own := fun i x ⟨o, hi, hw⟩ => by cases i <;> simp at hi; subst hi; cases hw
  argP := fun i y cs hi hy => by simp only [oneG] at hy; split at hy <;> simp at hy; subst hy; exact hg
  obj := fun i o hi => by
    cases i with
    | zero => simp at hi; subst hi; exact ho
    | succ i => simp at hi
  prLt := fun b h => h
  size := Nat.le_refl _
  os := rfl
  tape := rfl
  output := rfl
  old := fun _ _ => rfl

/-- A world that has grown and keeps what stood. -/
theorem WR.later {w0 : World} {Pr : Nat → Prop} {φ : Env} {H : AH} {w w' : World} (h : WR w0 Pr φ H w) (hs : w.heap.size ≤ w'.heap.size)
    (hb : ∀ b, b < w.heap.size → w'.heap[b]? = w.heap[b]?) (hos : w'.os = w.os) (htp : w'.tape = w.tape) (hout : w'.output = w.output) : WR w0 Pr φ H w' where
  dom := h.dom
  fresh := h.fresh
  lt := fun i x hx => Nat.lt_of_lt_of_le (h.lt i x hx) hs
  inj := h.inj
  own := h.own
  argP := h.argP
  obj := fun i o ho => (h.obj i o ho).keep (Env.le_refl φ) fun x hx => hb _ (h.lt i x hx)
  prLt := h.prLt
  size := Nat.le_trans h.size hs
  os := hos.trans h.os
  tape := htp.trans h.tape
  output := hout.trans h.output
  old := fun b hp => (hb b (Nat.lt_of_lt_of_le (h.prLt b hp) h.size)).trans (h.old b hp)

/-- The table of a package variable stands in a world, untouched. -/
def PinAt (g : Nat) (cs : List AV) (w0 : World) (Pr : Nat → Prop) : Prop := Pr g ∧ ∀ j v, cs[j]? = some v → ∃ u, w0.cell? ⟨g, j, none⟩ = some u ∧ toV v = some u

theorem PinAt.later {g : Nat} {cs : List AV} {w0 w : World} {Pr : Nat → Prop} {φ : Env} {H : AH} (h : PinAt g cs w0 Pr) (hW : WR w0 Pr φ H w) : PinAt g cs w (fun b => b < w.heap.size) := by
  refine ⟨Nat.lt_of_lt_of_le (hW.prLt g h.1) hW.size, fun j v hj => ?_⟩
  obtain ⟨u, hu, hv⟩ := h.2 j v hj
  refine ⟨u, ?_, hv⟩
  rw [← hu]
  exact World.cell?_of_block (w := w0) (a := ⟨g, j, none⟩) (hW.old g h.1)

/-- What a configuration's closed runs start from. -/
def Starts {P : Program} (C : Cfg P) (G : AH) : Prop := ∀ w0 Pr φ H w, C.pin w0 Pr → WR w0 Pr φ H w → ∃ φ0, WR w (fun b => b < w.heap.size) φ0 G w ∧ GI C.gl φ0 ∧ C.pin w (fun b => b < w.heap.size)

theorem starts_none {P : Program} {C : Cfg P} {g : Nat} {cs : List AV} (hg : C.gl = fun _ => none) (hp : C.pin = PinAt g cs) : Starts C [] := by
  intro w0 Pr φ H w h hW
  rw [hp] at h ⊢
  refine ⟨_, WR.start w, ?_, h.later hW⟩
  rw [hg]
  intro _ _ h
  cases h

theorem starts_one {P : Program} {C : Cfg P} {g : Nat} {cs : List AV} (hg : C.gl = fun x => if x = g then some 0 else none) (hp : C.pin = PinAt g cs) : Starts C [.arg cs] := by
  intro w0 Pr φ H w h hW
  rw [hp] at h ⊢
  have hl := h.later hW
  refine ⟨oneG g cs.length, WR.startG w hl.1 ⟨g, 0, cs.length, rfl, fun j v hj => ?_⟩, ?_, hl⟩
  · obtain ⟨u, hu, hv⟩ := hl.2 j v hj
    exact ⟨u, by rw [Nat.zero_add]; exact hu, toV_VR v u hv⟩
  · rw [hg]
    intro x i hi
    simp only at hi
    split at hi
    · rename_i hx; cases hi; subst hx; exact ⟨_, rfl⟩
    · cases hi

/-- The calls without arguments that answer true. -/
def trueOrc (l : List FuncId) : CallF := fun f args H => match args with
  | [] => if f ∈ l then some (.bool true, H) else none
  | _ => none

def saysTrue (P : Program) (C : Cfg P) (Wy : Ways P) (G : AH) (n : Nat) (f : FuncId) (args : List AV) : Bool := match evCall P C Wy n f args G with
  | some (.bool b, _) => b
  | _ => false

theorem saysTrue_run {P : Program} {C : Cfg P} {Wy : Ways P} {G : AH} {n : Nat} {f : FuncId} {args : List AV} (hs : saysTrue P C Wy G n f args = true) : ∃ H', evCall P C Wy n f args G = some (.bool true, H') := by
  unfold saysTrue at hs
  split at hs
  · rename_i b H0 he
    subst hs
    exact ⟨_, he⟩
  · cases hs

theorem trueOrc_ok {P : Program} {C : Cfg P} {Wy : Ways P} {G : AH} (hst : Starts C G) {n : Nat} {l : List FuncId} (hl : l.all (saysTrue P C Wy G n · []) = true) (gl : GL) (w0 : World) (Pr : Nat → Prop) (hpin : C.pin w0 Pr) : CallOk P gl w0 Pr (trueOrc l) := by
  intro f args H v H' h φ w vs _ hW hr
  unfold trueOrc at h
  split at h
  · split at h
    · rename_i hf
      cases h
      obtain ⟨H0, he⟩ := saysTrue_run (List.all_eq_true.1 hl f hf)
      have hv : vs = #[] := by
        have := hr.length
        simp at this; exact Array.eq_empty_of_size_eq_zero this.symm
      subst hv
      obtain ⟨φ0, hW0, hg0, hp0⟩ := hst w0 Pr φ H w hpin hW
      have := evCall_sound (C := C) hp0 Wy n f [] G (.bool true) H0 he φ0 w #[] hg0 hW0 (.nil _)
      refine this.mono fun e w' hw => ?_
      obtain ⟨φ', u, _, he, hu, hW'⟩ := hw
      exact ⟨φ, u, Env.le_refl φ, he, hu, hW.later hW'.size hW'.old hW'.os hW'.tape hW'.output⟩
    · cases h
  · cases h

/-! calls whose arguments lead to no block -/
abbrev Closed := FuncId × List AV × AV

def closedOrc (l : List Closed) : CallF := fun f args H => (l.find? fun e => f == e.1 && AV.beqs e.2.1 args).map fun e => (e.2.2, H)

def closedRuns (P : Program) (C : Cfg P) (Wy : Ways P) (G : AH) (n : Nat) (e : Closed) : Bool := (toVs e.2.1).isSome && (toV e.2.2).isSome && match evCall P C Wy n e.1 e.2.1 G with
  | some (v, _) => AV.beq v e.2.2
  | none => false

theorem closedOrc_ok {P : Program} {C : Cfg P} {Wy : Ways P} {G : AH} (hst : Starts C G) {n : Nat} {l : List Closed} (hl : l.all (closedRuns P C Wy G n) = true) (gl : GL) (w0 : World) (Pr : Nat → Prop) (hpin : C.pin w0 Pr) : CallOk P gl w0 Pr (closedOrc l) := by
  intro f args H v H' h φ w vs _ hW hr
  unfold closedOrc at h
  simp only [Option.map_eq_some_iff, Prod.mk.injEq] at h
  obtain ⟨⟨g, as', v'⟩, he, rfl, rfl⟩ := h
  have hm := List.mem_of_find?_eq_some he
  have hp := List.find?_some he
  simp only [Bool.and_eq_true, beq_iff_eq] at hp
  obtain ⟨rfl, hp⟩ := hp
  have ha := AV.beqs_eq _ _ hp
  subst ha
  have hs := List.all_eq_true.1 hl _ hm
  simp only [closedRuns, Bool.and_eq_true] at hs
  obtain ⟨⟨h1, h2⟩, h3⟩ := hs
  split at h3
  · rename_i v0 H0 he0
    have hv := AV.beq_eq _ _ h3
    subst hv
    obtain ⟨φ0, hW0, hg0, hp0⟩ := hst w0 Pr φ H w hpin hW
    have := evCall_sound (C := C) hp0 Wy n f as' G v0 H0 he0 φ0 w vs hg0 hW0 (toVs_env h1 hr)
    refine this.mono fun e w' hw => ?_
    obtain ⟨φ', u, _, he, hu, hW'⟩ := hw
    exact ⟨φ, u, Env.le_refl φ, he, toV_env h2 hu, hW.later hW'.size hW'.old hW'.os hW'.tape hW'.output⟩
  · cases h3

def orElse (a b : CallF) : CallF := fun f args H => (a f args H).or (b f args H)
theorem orElse_ok {P : Program} {gl : GL} {w0 : World} {Pr : Nat → Prop} {a b : CallF} (ha : CallOk P gl w0 Pr a) (hb : CallOk P gl w0 Pr b) : CallOk P gl w0 Pr (orElse a b) := by
  intro f args H v H' h
  unfold orElse at h
  cases h1 : a f args H with
  | some r => rw [h1] at h; simp at h; subst h; exact ha f args H v H' h1
  | none => rw [h1] at h; simp at h; exact hb f args H v H' h

end Go.Dv
