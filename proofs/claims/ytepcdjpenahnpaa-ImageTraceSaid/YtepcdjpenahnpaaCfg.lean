/- What the evaluator asks of this translation's text (own work). -/
import Derived.Test.YtepcdjpenahnpaaDv21
import Derived.Test.YtepcdjpenahnpaaChecked
import Derived.KernelRfl
import Derived.Eval
namespace Go.Dv
open Go.Proofs
theorem names_ok : Try.prog.funcs.toList.all (fun g => !(g.name == "runtime.NumGoroutine")) = true := by kernel_rfl
theorem name_ok (f : Nat) (g : Func) (h : Try.prog.funcs[f]? = some g) : (g.name == "runtime.NumGoroutine") = false := by
  have := List.all_eq_true.1 names_ok g (by
    have h' : Try.prog.funcs.toList[f]? = some g := by simpa using h
    exact List.mem_of_getElem? h')
  simpa using this
/-- no call is known -/
noncomputable def K0 : Cfg Try.prog := { orc := fun _ _ _ => none, orcOk := (by intro _ _ _ _ _ _ _ h; cases h), meth := fun _ _ => none, methOk := (by intro t n f h; cases h), name := name_ok, mixed := Try.checked.mixed }
theorem awake_runs : [26].all (saysTrue Try.prog K0 60) = true := by kernel_rfl
/-- awake's answer is known -/
noncomputable def C0 : Cfg Try.prog := { orc := trueOrc [26], orcOk := trueOrc_ok awake_runs, meth := fun _ _ => none, methOk := (by intro t n f h; cases h), name := name_ok, mixed := Try.checked.mixed }
theorem orc0 {f : FuncId} (h : f ≠ 26) (args : List AV) (H : AH) : C0.orc f args H = none := by
  show trueOrc [26] f args H = none
  unfold trueOrc
  split
  · rw [if_neg (by simpa using h)]
  · rfl
end Go.Dv
