/- What the evaluator asks of this translation's text; the calls whose answers are known, for the laws about races (own work). -/
import Derived.Test.YtepcdjpenahnpaaDv24
import Derived.Test.YtepcdjpenahnpaaChecked
import Derived.KernelRfl
import Derived.Eval
namespace Go.Dv
open Go.Proofs
theorem names_ok : Try.prog.funcs.toList.all (fun g => !(g.name == "runtime.NumGoroutine")) = true := by kernel_rfl
theorem name_ok (f : Nat) (g : Func) (h : Try.prog.funcs[f]? = some g) : (g.name == "runtime.NumGoroutine") = false := by
  have := List.all_eq_true.1 names_ok g (by
    have h' : Try.prog.funcs.toList[f]? = some g := by simpa using h
    exact List.mem_of_getElem? h')
  simpa using this
/-- a configuration with known calls -/
noncomputable def known (o : CallF) (h : ∀ w0 Pr, CallOk Try.prog w0 Pr o) : Cfg Try.prog := { orc := o, orcOk := h, meth := fun _ _ => none, methOk := (by intro t n f h; cases h), name := name_ok, mixed := Try.checked.mixed }
/-- no call is known -/
noncomputable def K0 : Cfg Try.prog := known (fun _ _ _ => none) (by intro _ _ _ _ _ _ _ h; cases h)
theorem awake_runs : [15].all (saysTrue Try.prog K0 60) = true := by kernel_rfl
/-- awake's answer is known -/
noncomputable def C0 : Cfg Try.prog := known (trueOrc [15]) (trueOrc_ok awake_runs)
theorem orc0 {f : FuncId} (h : f ≠ 15) (args : List AV) (H : AH) : C0.orc f args H = none := by
  show trueOrc [15] f args H = none
  unfold trueOrc
  split
  · rw [if_neg (by simpa using h)]
  · rfl
theorem awake_ev (H : AH) : Ev Try.prog C0 15 [] H = some (.bool true, H) := Ev_orc (by show trueOrc [15] 15 [] H = _; simp [trueOrc])
end Go.Dv
