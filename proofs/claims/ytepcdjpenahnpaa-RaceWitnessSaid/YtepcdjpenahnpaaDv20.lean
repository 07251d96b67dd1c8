/- Calls that need nothing of the world, run once by the kernel, stand in every world (own work). -/
import Derived.Test.YtepcdjpenahnpaaDv19

namespace Go.Dv

theorem WR.start (w : World) : WR w (fun b => b < w.heap.size) (fun _ => none) [] w where
  dom := fun _ _ => rfl
  fresh := fun _ _ => rfl
  lt := fun i x h => by cases h
  inj := fun i j x y hi hj hx => by cases hx
  own := fun i x hi hx => by cases hx
  argP := fun i x cs hi hx => by cases hx
  obj := fun i o h => by simp at h
  prLt := fun b h => h
  size := Nat.le_refl _
  os := rfl
  tape := rfl
  output := rfl
  old := fun _ _ => rfl

/-- A world that has grown and keeps what stood. -/
theorem WR.later {w0 : World} {Pr : Nat → Prop} {φ : Env} {H : AH} {w w' : World} (h : WR w0 Pr φ H w) (hs : w.heap.size ≤ w'.heap.size)
    (hb : ∀ b, b < w.heap.size → w'.heap[b]? = w.heap[b]?) (hos : w'.os = w.os) (htp : w'.tape = w.tape) (hout : w'.output = w.output) : WR w0 Pr φ H w' where
  dom := h.dom
  fresh := h.fresh
  lt := fun i x hx => Nat.lt_of_lt_of_le (h.lt i x hx) hs
  inj := h.inj
  own := h.own
  argP := h.argP
  obj := fun i o ho => (h.obj i o ho).keep (Env.le_refl φ) fun x hx => hb _ (h.lt i x hx)
  prLt := h.prLt
  size := Nat.le_trans h.size hs
  os := hos.trans h.os
  tape := htp.trans h.tape
  output := hout.trans h.output
  old := fun b hp => (hb b (Nat.lt_of_lt_of_le (h.prLt b hp) h.size)).trans (h.old b hp)

/-- The calls without arguments that answer true. -/
def trueOrc (l : List FuncId) : CallF := fun f args H => match args with
  | [] => if f ∈ l then some (.bool true, H) else none
  | _ => none

def saysTrue (P : Program) (C : Cfg P) (n : Nat) (f : FuncId) : Bool := match evCall P C n f [] [] with
  | some (.bool b, _) => b
  | _ => false

theorem trueOrc_ok {P : Program} {C : Cfg P} {n : Nat} {l : List FuncId} (hl : l.all (saysTrue P C n) = true) (w0 : World) (Pr : Nat → Prop) : CallOk P w0 Pr (trueOrc l) := by
  intro f args H v H' h φ w vs hW hr
  unfold trueOrc at h
  split at h
  · split at h
    · rename_i hf
      cases h
      have hs := List.all_eq_true.1 hl f hf
      unfold saysTrue at hs
      split at hs
      · rename_i b H0 he
        subst hs
        have hv : vs = #[] := by
          have := hr.length
          simp at this; exact Array.eq_empty_of_size_eq_zero this.symm
        subst hv
        have := evCall_sound (C := C) (w0 := w) (Pr := fun b => b < w.heap.size) n f [] [] (.bool true) H0 he (fun _ => none) w #[] (WR.start w) (.nil _)
        refine this.mono fun e w' hw => ?_
        obtain ⟨φ', u, _, he, hu, hW'⟩ := hw
        exact ⟨φ, u, Env.le_refl φ, he, hu, hW.later hW'.size hW'.old hW'.os hW'.tape hW'.output⟩
      · cases hs
    · cases h
  · cases h

end Go.Dv
