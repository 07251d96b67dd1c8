/- What the evaluator asks of this translation's text; no call is known (own work). -/
import Derived.Test.YtgnmeplfmkbkcaaGreatDoorDvS
import Derived.Test.YtgnmeplfmkbkcaaGreatDoorChecked
import Derived.KernelRfl
namespace Go.Dv
open Go.Proofs
theorem names_ok : Tryz.prog.funcs.toList.all (fun g => !(g.name == "runtime.NumGoroutine")) = true := by kernel_rfl
theorem name_ok (f : Nat) (g : Func) (h : Tryz.prog.funcs[f]? = some g) : (g.name == "runtime.NumGoroutine") = false := by
  have := List.all_eq_true.1 names_ok g (by
    have h' : Tryz.prog.funcs.toList[f]? = some g := by simpa using h
    exact List.mem_of_getElem? h')
  simpa using this
noncomputable def K0 : Cfg Tryz.prog := { gl := fun _ => none, pin := fun _ _ => True, orc := fun _ _ _ => none, orcOk := (by intro _ _ _ _ _ _ _ _ h; cases h), meth := fun _ _ => none, methOk := (by intro t n f h; cases h), name := name_ok, mixed := Tryz.checked.mixed }
theorem starts0 : Starts K0 [] := fun w0 Pr φ H w _ hW => ⟨_, WR.start w, (by intro g i h; cases h), trivial⟩
end Go.Dv
