/- Functions of values that lead to no block become known calls; a result that lies in a cell (own work). -/
import Derived.Test.YtepcdjpenahnpaaDv23

namespace Go.Dv

section
variable {P : Program} {C : Cfg P}

/-- Known calls of functions of plain values: what lies in the heap stands, and what the call made is forgotten. -/
def pureOrc (l : List (FuncId × (List AV → Option AV))) : CallF := fun f args H => (l.find? fun e => f == e.1).bind fun e => (e.2 args).map fun v => (v, H)

theorem pureOrc_ok {l : List (FuncId × (List AV → Option AV))} (hl : ∀ e ∈ l, ∀ args v, e.2 args = some v → (toVs args).isSome = true ∧ (toV v).isSome = true ∧ ∃ H', Ev P C e.1 args [] = some (v, H'))
    (w0 : World) (Pr : Nat → Prop) : CallOk P w0 Pr (pureOrc l) := by
  intro f args H v H' h φ w vs hW hr
  unfold pureOrc at h
  simp only [Option.bind_eq_some_iff, Option.map_eq_some_iff, Prod.mk.injEq] at h
  obtain ⟨e, he, v', hv, rfl, rfl⟩ := h
  have hm := List.mem_of_find?_eq_some he
  have hp := List.find?_some he
  simp only [beq_iff_eq] at hp
  subst hp
  obtain ⟨h1, h2, H0, h3⟩ := hl e hm args v' hv
  have := Ev_sound (C := C) (w0 := w) (Pr := fun b => b < w.heap.size) e.1 args [] v' H0 h3 (fun _ => none) w vs (WR.start w) (toVs_env h1 hr)
  refine this.mono fun e w' hw => ?_
  obtain ⟨φ', u, _, he, hu, hW'⟩ := hw
  exact ⟨φ, u, Env.le_refl φ, he, toV_env h2 hu, hW.later hW'.size hW'.old hW'.os hW'.tape hW'.output⟩

theorem retA_cell1 {fn : Func} {a : Tmp} {t : TypeId} (h : fn.results.toList = [.cell a t]) (tm : List AV) (H : AH) : retA P fn (tm, H) = match tm.getD a undefA with
    | .ptr i k => (ldA P t H i k).map fun v => (v, H)
    | _ => none := by
  unfold retA
  rw [h]
  cases hg : tm.getD a undefA with
  | ptr i k =>
    simp only [resultsA, hg]
    cases ldA P t H i k <;> rfl
  | _ => simp only [resultsA, hg] <;> rfl

/-- slots in order; the word keepV tells simp that this is no mere exchange -/
def keepV (x : AV) : AV := x
theorem keepV_eq (x : AV) : keepV x = x := rfl
theorem set_order {l : List AV} {i j : Nat} {a b : AV} (h : j < i) : (l.set i a).set j b = (l.set j (keepV b)).set i a := List.set_comm _ _ (by omega)
theorem put_slot (n : Nat) (x : AObj) (L : AH) (o : AObj) : put (some n) (x :: L) o = match (x :: L)[n]? with
    | some .fresh => some (n, (x :: L).set n o)
    | _ => none := rfl
theorem put_slot_app (H L : AH) (n : Nat) (o : AObj) : put (some (H.length + n)) (H ++ L) o = (put (some n) L o).map fun r => (H.length + r.1, H ++ r.2) := by
  unfold put
  simp only
  rw [List.getElem?_append_right (by omega), Nat.add_sub_cancel_left]
  cases L[n]? with
  | none => rfl
  | some o' => cases o' with
    | fresh =>
      simp only [Option.map_some]
      rw [List.set_append_right _ _ (by omega), Nat.add_sub_cancel_left]
    | _ => rfl
end
end Go.Dv
