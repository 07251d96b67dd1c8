/- What the evaluator asks of this translation's text; the calls whose answers are known (own work). -/
import Derived.Test.YtepcdjpenahnpaaDv23
import Derived.Test.YtepcdjpenahnpaaChecked
import Derived.KernelRfl
import Derived.Eval
namespace Go.Dv
open Go.Proofs
theorem names_ok : Try.prog.funcs.toList.all (fun g => !(g.name == "runtime.NumGoroutine")) = true := by kernel_rfl
theorem name_ok (f : Nat) (g : Func) (h : Try.prog.funcs[f]? = some g) : (g.name == "runtime.NumGoroutine") = false := by
  have := List.all_eq_true.1 names_ok g (by
    have h' : Try.prog.funcs.toList[f]? = some g := by simpa using h
    exact List.mem_of_getElem? h')
  simpa using this
/-- no call is known -/
noncomputable def K0 : Cfg Try.prog := { orc := fun _ _ _ => none, orcOk := (by intro _ _ _ _ _ _ _ h; cases h), meth := fun _ _ => none, methOk := (by intro t n f h; cases h), name := name_ok, mixed := Try.checked.mixed }
theorem awake_runs : [26].all (saysTrue Try.prog K0 60) = true := by kernel_rfl
/-- the cells of a machine that no function returned -/
noncomputable def z77 : List AV := ((zeroA Try.prog 77).map AV.cells).getD []
def errForm : AV := .tuple [.str ⟨#[]⟩, .int .i64 1]
def tblC : List Closed := [(37, [.nilPtr], errForm)]
noncomputable def tblP : List AtPtr := [⟨37, z77, 77, [], errForm⟩]
theorem closed_runs : tblC.all (closedRuns Try.prog K0 60) = true := by kernel_rfl
theorem ptr_runs : tblP.all (ptrRuns Try.prog K0 60) = true := by kernel_rfl
/-- the answers of awake, and of Save at machines that no function returned, are known -/
noncomputable def orcT : CallF := orElse (trueOrc [26]) (orElse (closedOrc tblC) (ptrOrc tblP))
noncomputable def C0 : Cfg Try.prog := { orc := orcT, orcOk := fun w0 Pr => orElse_ok (trueOrc_ok awake_runs w0 Pr) (orElse_ok (closedOrc_ok closed_runs w0 Pr) (ptrOrc_ok ptr_runs w0 Pr)), meth := fun _ _ => none, methOk := (by intro t n f h; cases h), name := name_ok, mixed := Try.checked.mixed }
theorem orc0 {f : FuncId} (h : f ∉ [26, 37]) (args : List AV) (H : AH) : C0.orc f args H = none := by
  show orcT f args H = none
  have h1 : f ≠ 26 := fun e => h (by simp [e])
  have h2 : f ≠ 37 := fun e => h (by simp [e])
  have e1 : trueOrc [26] f args H = none := by
    unfold trueOrc
    split
    · rw [if_neg (by simpa using h1)]
    · rfl
  have e2 : closedOrc tblC f args H = none := by simp [closedOrc, tblC, h2]
  have e3 : ptrOrc tblP f args H = none := by
    unfold ptrOrc
    split
    · split
      · simp [tblP, h2]
      · rfl
    · rfl
  simp only [orcT, orElse, e1, e2, e3]; rfl
theorem awake_ev (H : AH) : Ev Try.prog C0 26 [] H = some (.bool true, H) := Ev_orc (by show orcT 26 [] H = _; simp [orcT, orElse, trueOrc])
theorem save_nil (H : AH) : Ev Try.prog C0 37 [.nilPtr] H = some (errForm, H) := Ev_orc (by show orcT 37 [.nilPtr] H = _; rfl)
theorem save_zero {H : AH} {i : Nat} (h : H[i]? = some (.cells z77 77)) : Ev Try.prog C0 37 [.ptr i 0] H = some (errForm, H) := Ev_orc (by
  show orcT 37 [.ptr i 0] H = _
  have e1 : trueOrc [26] 37 [.ptr i 0] H = none := rfl
  have e2 : closedOrc tblC 37 [.ptr i 0] H = none := rfl
  have e3 : ptrOrc tblP 37 [.ptr i 0] H = some (errForm, H) := by
    unfold ptrOrc
    simp only [h, tblP, List.find?_cons, AV.beqs_self]
    rfl
  simp only [orcT, orElse, e1, e2, e3]; rfl)
end Go.Dv
