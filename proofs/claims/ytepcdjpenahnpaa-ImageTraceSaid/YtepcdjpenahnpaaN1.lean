/- Names for the bodies and loops of functions of the translation, by their place in it (written by gen.py, own work). -/
import Derived.Test.YtepcdjpenahnpaaCfg
namespace Go.Dv
open Go.Proofs
set_option maxRecDepth 100000
noncomputable def c10 : Code := Try.f10.body.getD .skip
theorem fe10 (args : List AV) (H : AH) : Ev Try.prog C0 10 args H = (EvC Try.prog C0 c10 (args ++ List.replicate (11 - args.length) undefA, H)).bind fun r => match r with | (.normal, s) => some ((s.1.getD 2 undefA), s.2) | (.ret, s) => some ((s.1.getD 2 undefA), s.2) | _ => none := Ev_eq Try.func10 rfl args H (orc0 (by decide) args H)
theorem fc10 (slot : Option Nat) (tm : List AV) (H : AH) (o : Oper) (xs : Array Operand) (ats : Array TypeId) : callA Try.prog C0 slot (evalA tm) o ⟨.value (.func 10), xs, ats⟩ H = (evL (evalA tm) xs.toList).map fun vs => (.enter 10 vs, H) := callF (by rw [Try.func10]; rfl) slot _ H o xs ats rfl
noncomputable def c26 : Code := Try.f26.body.getD .skip
theorem fc26 (slot : Option Nat) (tm : List AV) (H : AH) (o : Oper) (xs : Array Operand) (ats : Array TypeId) : callA Try.prog C0 slot (evalA tm) o ⟨.value (.func 26), xs, ats⟩ H = (evL (evalA tm) xs.toList).map fun vs => (.enter 26 vs, H) := callF (by rw [Try.func26]; rfl) slot _ H o xs ats rfl
noncomputable def b32_0 : Code := atPath [true, true, false, true, false, false] (Try.f32.body.getD .skip)
noncomputable def l32_0 : Code := Code.loop b32_0
theorem el32_0 (s : St) : EvC Try.prog C0 l32_0 s = (EvC Try.prog C0 b32_0 s).bind fun r => match r with | (.normal, s') => EvC Try.prog C0 l32_0 s' | r => some r := EvC_loop _ _
noncomputable def c32 : Code := Try.f32.body.getD .skip
noncomputable def d32_6 : Code := atPath [true, true, false, true, false, false, true, false, false, false] (Try.f32.body.getD .skip)
theorem ed32_6 (tm : List AV) (H : AH) : EvC Try.prog C0 d32_6 (tm, H) = (runPlan Try.prog C0 (Ev Try.prog C0) H.length (opsAt d32_6) (.take 0 (.take 1 (.take 2 (.take 4 (.take 5 (.take 6 (.all [(3, (.all [(7, (.take 8 .done))])), (7, (.all [(3, (.take 8 .done))]))]))))))) (tm, H)).bind fun s' => some (.normal, s') := ev_draw (by kernel_rfl) (by kernel_rfl) tm H
theorem fe32 (args : List AV) (H : AH) : Ev Try.prog C0 32 args H = (EvC Try.prog C0 c32 (args ++ List.replicate (26 - args.length) undefA, H)).bind fun r => match r with | (.normal, s) => some ((s.1.getD 4 undefA), s.2) | (.ret, s) => some ((s.1.getD 4 undefA), s.2) | _ => none := Ev_eq Try.func32 rfl args H (orc0 (by decide) args H)
theorem fc32 (slot : Option Nat) (tm : List AV) (H : AH) (o : Oper) (xs : Array Operand) (ats : Array TypeId) : callA Try.prog C0 slot (evalA tm) o ⟨.value (.func 32), xs, ats⟩ H = (evL (evalA tm) xs.toList).map fun vs => (.enter 32 vs, H) := callF (by rw [Try.func32]; rfl) slot _ H o xs ats rfl
noncomputable def b33_0 : Code := atPath [true, true, false, true, false, false] (Try.f33.body.getD .skip)
noncomputable def l33_0 : Code := Code.loop b33_0
theorem el33_0 (s : St) : EvC Try.prog C0 l33_0 s = (EvC Try.prog C0 b33_0 s).bind fun r => match r with | (.normal, s') => EvC Try.prog C0 l33_0 s' | r => some r := EvC_loop _ _
noncomputable def c33 : Code := Try.f33.body.getD .skip
theorem fe33 (args : List AV) (H : AH) : Ev Try.prog C0 33 args H = (EvC Try.prog C0 c33 (args ++ List.replicate (45 - args.length) undefA, H)).bind fun r => match r with | (.normal, s) => some ((s.1.getD 2 undefA), s.2) | (.ret, s) => some ((s.1.getD 2 undefA), s.2) | _ => none := Ev_eq Try.func33 rfl args H (orc0 (by decide) args H)
theorem fc33 (slot : Option Nat) (tm : List AV) (H : AH) (o : Oper) (xs : Array Operand) (ats : Array TypeId) : callA Try.prog C0 slot (evalA tm) o ⟨.value (.func 33), xs, ats⟩ H = (evL (evalA tm) xs.toList).map fun vs => (.enter 33 vs, H) := callF (by rw [Try.func33]; rfl) slot _ H o xs ats rfl
noncomputable def b34_0 : Code := atPath [true, true, false, true, false, false] (Try.f34.body.getD .skip)
noncomputable def l34_0 : Code := Code.loop b34_0
theorem el34_0 (s : St) : EvC Try.prog C0 l34_0 s = (EvC Try.prog C0 b34_0 s).bind fun r => match r with | (.normal, s') => EvC Try.prog C0 l34_0 s' | r => some r := EvC_loop _ _
noncomputable def c34 : Code := Try.f34.body.getD .skip
theorem fe34 (args : List AV) (H : AH) : Ev Try.prog C0 34 args H = (EvC Try.prog C0 c34 (args ++ List.replicate (46 - args.length) undefA, H)).bind fun r => match r with | (.normal, s) => some ((s.1.getD 2 undefA), s.2) | (.ret, s) => some ((s.1.getD 2 undefA), s.2) | _ => none := Ev_eq Try.func34 rfl args H (orc0 (by decide) args H)
theorem fc34 (slot : Option Nat) (tm : List AV) (H : AH) (o : Oper) (xs : Array Operand) (ats : Array TypeId) : callA Try.prog C0 slot (evalA tm) o ⟨.value (.func 34), xs, ats⟩ H = (evL (evalA tm) xs.toList).map fun vs => (.enter 34 vs, H) := callF (by rw [Try.func34]; rfl) slot _ H o xs ats rfl
end Go.Dv
