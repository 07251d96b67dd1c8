/- Names for the bodies and loops of functions of the translation, by their place in it (written by gen.py, own work). -/
import Derived.Test.YtepcdjpenahnpaaT23
namespace Go.Dv
open Go.Proofs
set_option maxRecDepth 100000
noncomputable def c51 : Code := Try.f51.body.getD .skip
theorem fe51 (args : List AV) (H : AH) : Ev Try.prog C2 51 args H = (EvC Try.prog C2 c51 (args ++ List.replicate (68 - args.length) undefA, H)).bind fun r => match r with | (.normal, s) => some ((s.1.getD 2 undefA), s.2) | (.ret, s) => some ((s.1.getD 2 undefA), s.2) | _ => none := Ev_eq Try.func51 rfl args H (orc2 (by decide) args H)
theorem fc51 (C : Cfg Try.prog) (slot : Option Nat) (tm : List AV) (H : AH) (o : Oper) (xs : Array Operand) (ats : Array TypeId) : callA Try.prog C slot (evalA tm) o ⟨.value (.func 51), xs, ats⟩ H = (evL (evalA tm) xs.toList).map fun vs => (.enter 51 vs, H) := callF (by rw [Try.func51]; rfl) slot _ H o xs ats rfl
end Go.Dv
