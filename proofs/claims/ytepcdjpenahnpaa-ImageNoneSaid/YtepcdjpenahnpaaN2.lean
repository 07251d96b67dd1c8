/- Names for the bodies and loops of functions of the translation, by their place in it (written by gen.py, own work). -/
import Derived.Test.YtepcdjpenahnpaaCfg
namespace Go.Dv
open Go.Proofs
set_option maxRecDepth 100000
noncomputable def c12 : Code := Try.f12.body.getD .skip
theorem fe12 (args : List AV) (H : AH) : Ev Try.prog C0 12 args H = (EvC Try.prog C0 c12 (args ++ List.replicate (41 - args.length) undefA, H)).bind fun r => match r with | (.normal, s) => some ((s.1.getD 2 undefA), s.2) | (.ret, s) => some ((s.1.getD 2 undefA), s.2) | _ => none := Ev_eq Try.func12 rfl args H (orc0 (by decide) args H)
theorem fc12 (slot : Option Nat) (tm : List AV) (H : AH) (o : Oper) (xs : Array Operand) (ats : Array TypeId) : callA Try.prog C0 slot (evalA tm) o ⟨.value (.func 12), xs, ats⟩ H = (evL (evalA tm) xs.toList).map fun vs => (.enter 12 vs, H) := callF (by rw [Try.func12]; rfl) slot _ H o xs ats rfl
noncomputable def c26 : Code := Try.f26.body.getD .skip
theorem fc26 (slot : Option Nat) (tm : List AV) (H : AH) (o : Oper) (xs : Array Operand) (ats : Array TypeId) : callA Try.prog C0 slot (evalA tm) o ⟨.value (.func 26), xs, ats⟩ H = (evL (evalA tm) xs.toList).map fun vs => (.enter 26 vs, H) := callF (by rw [Try.func26]; rfl) slot _ H o xs ats rfl
noncomputable def c37 : Code := Try.f37.body.getD .skip
noncomputable def d37_6 : Code := atPath [true, true, true, true, true, false] (Try.f37.body.getD .skip)
theorem ed37_6 (tm : List AV) (H : AH) : EvC Try.prog C0 d37_6 (tm, H) = (runPlan Try.prog C0 (Ev Try.prog C0) H.length (opsAt d37_6) (.take 0 (.take 1 (.take 2 (.take 8 (.take 9 (.take 10 (graft (.all [(3, (.all [(4, (.take 5 (.all [(6, (.take 7 (.all [(11, (.take 12 (.take 13 (.take 14 .done))))]))), (11, (.take 12 (.all [(6, (.take 7 (.take 13 (.take 14 .done))))])))]))), (11, (.take 12 (.all [(4, (.take 5 (.all [(6, (.take 7 (.take 13 (.take 14 .done))))])))])))])), (11, (.take 12 (.all [(3, (.all [(4, (.take 5 (.all [(6, (.take 7 (.take 13 (.take 14 .done))))])))]))])))]) .done))))))) (tm, H)).bind fun s' => some (.normal, s') := ev_draw (by kernel_rfl) (by kernel_rfl) tm H
theorem fc37 (slot : Option Nat) (tm : List AV) (H : AH) (o : Oper) (xs : Array Operand) (ats : Array TypeId) : callA Try.prog C0 slot (evalA tm) o ⟨.value (.func 37), xs, ats⟩ H = (evL (evalA tm) xs.toList).map fun vs => (.enter 37 vs, H) := callF (by rw [Try.func37]; rfl) slot _ H o xs ats rfl
noncomputable def b38_0 : Code := atPath [true, true, false, true, false, false] (Try.f38.body.getD .skip)
noncomputable def l38_0 : Code := Code.loop b38_0
theorem el38_0 (s : St) : EvC Try.prog C0 l38_0 s = (EvC Try.prog C0 b38_0 s).bind fun r => match r with | (.normal, s') => EvC Try.prog C0 l38_0 s' | r => some r := EvC_loop _ _
noncomputable def c38 : Code := Try.f38.body.getD .skip
theorem fe38 (args : List AV) (H : AH) : Ev Try.prog C0 38 args H = (EvC Try.prog C0 c38 (args ++ List.replicate (19 - args.length) undefA, H)).bind fun r => match r with | (.normal, s) => some ((s.1.getD 2 undefA), s.2) | (.ret, s) => some ((s.1.getD 2 undefA), s.2) | _ => none := Ev_eq Try.func38 rfl args H (orc0 (by decide) args H)
theorem fc38 (slot : Option Nat) (tm : List AV) (H : AH) (o : Oper) (xs : Array Operand) (ats : Array TypeId) : callA Try.prog C0 slot (evalA tm) o ⟨.value (.func 38), xs, ats⟩ H = (evL (evalA tm) xs.toList).map fun vs => (.enter 38 vs, H) := callF (by rw [Try.func38]; rfl) slot _ H o xs ats rfl
noncomputable def b39_0 : Code := atPath [true, true, false, true, false, false] (Try.f39.body.getD .skip)
noncomputable def l39_0 : Code := Code.loop b39_0
theorem el39_0 (s : St) : EvC Try.prog C0 l39_0 s = (EvC Try.prog C0 b39_0 s).bind fun r => match r with | (.normal, s') => EvC Try.prog C0 l39_0 s' | r => some r := EvC_loop _ _
noncomputable def c39 : Code := Try.f39.body.getD .skip
theorem fe39 (args : List AV) (H : AH) : Ev Try.prog C0 39 args H = (EvC Try.prog C0 c39 (args ++ List.replicate (19 - args.length) undefA, H)).bind fun r => match r with | (.normal, s) => some ((s.1.getD 2 undefA), s.2) | (.ret, s) => some ((s.1.getD 2 undefA), s.2) | _ => none := Ev_eq Try.func39 rfl args H (orc0 (by decide) args H)
theorem fc39 (slot : Option Nat) (tm : List AV) (H : AH) (o : Oper) (xs : Array Operand) (ats : Array TypeId) : callA Try.prog C0 slot (evalA tm) o ⟨.value (.func 39), xs, ats⟩ H = (evL (evalA tm) xs.toList).map fun vs => (.enter 39 vs, H) := callF (by rw [Try.func39]; rfl) slot _ H o xs ats rfl
end Go.Dv
