/- Names for the bodies and loops of functions of the translation, by their place in it (written by gen.py, own work). -/
import Derived.Test.YtepcdjpenahnpaaT25a
namespace Go.Dv
open Go.Proofs
set_option maxRecDepth 100000
noncomputable def b45_0 : Code := atPath [true, false, true, false, false] (Try.f45.body.getD .skip)
noncomputable def l45_0 : Code := Code.loop b45_0
theorem el45_0 (s : St) : EvC Try.prog C3 l45_0 s = (EvC Try.prog C3 b45_0 s).bind fun r => match r with | (.normal, s') => EvC Try.prog C3 l45_0 s' | r => some r := EvC_loop _ _
noncomputable def c45 : Code := Try.f45.body.getD .skip
theorem fe45 (args : List AV) (H : AH) : Ev Try.prog C3 45 args H = (EvC Try.prog C3 c45 (args ++ List.replicate (19 - args.length) undefA, H)).bind fun r => match r with | (.normal, s) => some ((s.1.getD 4 undefA), s.2) | (.ret, s) => some ((s.1.getD 4 undefA), s.2) | _ => none := Ev_eq Try.func45 rfl args H (orc3 (by decide) args H)
theorem fc45 (C : Cfg Try.prog) (slot : Option Nat) (tm : List AV) (H : AH) (o : Oper) (xs : Array Operand) (ats : Array TypeId) : callA Try.prog C slot (evalA tm) o ⟨.value (.func 45), xs, ats⟩ H = (evL (evalA tm) xs.toList).map fun vs => (.enter 45 vs, H) := callF (by rw [Try.func45]; rfl) slot _ H o xs ats rfl
noncomputable def c50 : Code := Try.f50.body.getD .skip
theorem fe50 (args : List AV) (H : AH) : Ev Try.prog C3 50 args H = (EvC Try.prog C3 c50 (args ++ List.replicate (9 - args.length) undefA, H)).bind fun r => match r with | (.normal, s) => some ((s.1.getD 4 undefA), s.2) | (.ret, s) => some ((s.1.getD 4 undefA), s.2) | _ => none := Ev_eq Try.func50 rfl args H (orc3 (by decide) args H)
theorem fc50 (C : Cfg Try.prog) (slot : Option Nat) (tm : List AV) (H : AH) (o : Oper) (xs : Array Operand) (ats : Array TypeId) : callA Try.prog C slot (evalA tm) o ⟨.value (.func 50), xs, ats⟩ H = (evL (evalA tm) xs.toList).map fun vs => (.enter 50 vs, H) := callF (by rw [Try.func50]; rfl) slot _ H o xs ats rfl
noncomputable def c18 : Code := Try.f18.body.getD .skip
theorem fe18 (args : List AV) (H : AH) : Ev Try.prog C3 18 args H = (EvC Try.prog C3 c18 (args ++ List.replicate (9 - args.length) undefA, H)).bind fun r => match r with | (.normal, s) => some ((s.1.getD 2 undefA), s.2) | (.ret, s) => some ((s.1.getD 2 undefA), s.2) | _ => none := Ev_eq Try.func18 rfl args H (orc3 (by decide) args H)
theorem fc18 (C : Cfg Try.prog) (slot : Option Nat) (tm : List AV) (H : AH) (o : Oper) (xs : Array Operand) (ats : Array TypeId) : callA Try.prog C slot (evalA tm) o ⟨.value (.func 18), xs, ats⟩ H = (evL (evalA tm) xs.toList).map fun vs => (.enter 18 vs, H) := callF (by rw [Try.func18]; rfl) slot _ H o xs ats rfl
noncomputable def b17_0 : Code := atPath [true, false, true, false, false] (Try.f17.body.getD .skip)
noncomputable def l17_0 : Code := Code.loop b17_0
theorem el17_0 (s : St) : EvC Try.prog C3 l17_0 s = (EvC Try.prog C3 b17_0 s).bind fun r => match r with | (.normal, s') => EvC Try.prog C3 l17_0 s' | r => some r := EvC_loop _ _
noncomputable def c17 : Code := Try.f17.body.getD .skip
theorem fe17 (args : List AV) (H : AH) : Ev Try.prog C3 17 args H = (EvC Try.prog C3 c17 (args ++ List.replicate (84 - args.length) undefA, H)).bind fun r => match r with | (.normal, s) => some ((s.1.getD 2 undefA), s.2) | (.ret, s) => some ((s.1.getD 2 undefA), s.2) | _ => none := Ev_eq Try.func17 rfl args H (orc3 (by decide) args H)
theorem fc17 (C : Cfg Try.prog) (slot : Option Nat) (tm : List AV) (H : AH) (o : Oper) (xs : Array Operand) (ats : Array TypeId) : callA Try.prog C slot (evalA tm) o ⟨.value (.func 17), xs, ats⟩ H = (evL (evalA tm) xs.toList).map fun vs => (.enter 17 vs, H) := callF (by rw [Try.func17]; rfl) slot _ H o xs ats rfl
noncomputable def b22_0 : Code := atPath [true, true, false, true, false, false, true, true, false, false, true, true, false, false] (Try.f22.body.getD .skip)
noncomputable def l22_0 : Code := Code.loop b22_0
theorem el22_0 (s : St) : EvC Try.prog C3 l22_0 s = (EvC Try.prog C3 b22_0 s).bind fun r => match r with | (.normal, s') => EvC Try.prog C3 l22_0 s' | r => some r := EvC_loop _ _
noncomputable def b22_1 : Code := atPath [true, true, false, true, false, false] (Try.f22.body.getD .skip)
noncomputable def l22_1 : Code := Code.loop b22_1
theorem el22_1 (s : St) : EvC Try.prog C3 l22_1 s = (EvC Try.prog C3 b22_1 s).bind fun r => match r with | (.normal, s') => EvC Try.prog C3 l22_1 s' | r => some r := EvC_loop _ _
noncomputable def c22 : Code := Try.f22.body.getD .skip
noncomputable def d22_9 : Code := atPath [true, true, false, true, false, false, true, true, false, false, true, true, false, false, true, true, false, false, true, false] (Try.f22.body.getD .skip)
theorem ed22_9 (tm : List AV) (H : AH) : EvC Try.prog C3 d22_9 (tm, H) = (runPlan Try.prog C3 (Ev Try.prog C3) H.length (opsAt d22_9) (.take 0 (.take 2 (graft (.all [(1, (.all [(3, (.take 4 (.take 5 (.take 6 (.take 8 .done)))))])), (3, (.all [(1, (.take 4 (.take 5 (.take 6 (.take 8 .done)))))]))]) (graft (.all [(7, (.all [(9, (.take 10 (.take 11 (.take 12 (.take 13 (.take 16 .done))))))])), (9, (.all [(7, (.take 10 (.take 11 (.take 12 (.take 13 (.take 16 .done))))))]))]) (graft (.all [(14, (.all [(15, (.all [(17, .done)])), (17, (.all [(15, .done)]))])), (17, (.all [(14, (.all [(15, .done)]))]))]) (.all [(18, (.take 19 (.take 20 (.take 21 (graft (.all [(22, (.all [(23, .done)])), (23, (.all [(22, .done)]))]) (.all [(24, (.take 25 .done))]))))))])))))) (tm, H)).bind fun s' => some (.normal, s') := ev_draw (by kernel_rfl) (by kernel_rfl) tm H
theorem fe22 (args : List AV) (H : AH) : Ev Try.prog C3 22 args H = (EvC Try.prog C3 c22 (args ++ List.replicate (61 - args.length) undefA, H)).bind fun r => match r with | (.normal, s) => some ((.tuple [s.1.getD 4 undefA, s.1.getD 5 undefA, s.1.getD 6 undefA, s.1.getD 7 undefA]), s.2) | (.ret, s) => some ((.tuple [s.1.getD 4 undefA, s.1.getD 5 undefA, s.1.getD 6 undefA, s.1.getD 7 undefA]), s.2) | _ => none := Ev_eq Try.func22 rfl args H (orc3 (by decide) args H)
theorem fc22 (C : Cfg Try.prog) (slot : Option Nat) (tm : List AV) (H : AH) (o : Oper) (xs : Array Operand) (ats : Array TypeId) : callA Try.prog C slot (evalA tm) o ⟨.value (.func 22), xs, ats⟩ H = (evL (evalA tm) xs.toList).map fun vs => (.enter 22 vs, H) := callF (by rw [Try.func22]; rfl) slot _ H o xs ats rfl
noncomputable def b23_0 : Code := atPath [true, false, true, false, false, true, false, false, true, false, false] (Try.f23.body.getD .skip)
noncomputable def l23_0 : Code := Code.loop b23_0
theorem el23_0 (s : St) : EvC Try.prog C3 l23_0 s = (EvC Try.prog C3 b23_0 s).bind fun r => match r with | (.normal, s') => EvC Try.prog C3 l23_0 s' | r => some r := EvC_loop _ _
noncomputable def b23_1 : Code := atPath [true, false, true, false, false] (Try.f23.body.getD .skip)
noncomputable def l23_1 : Code := Code.loop b23_1
theorem el23_1 (s : St) : EvC Try.prog C3 l23_1 s = (EvC Try.prog C3 b23_1 s).bind fun r => match r with | (.normal, s') => EvC Try.prog C3 l23_1 s' | r => some r := EvC_loop _ _
noncomputable def c23 : Code := Try.f23.body.getD .skip
noncomputable def d23_7 : Code := atPath [true, false, true, false, false, true, false, false, true, false, false, true, false, false, false] (Try.f23.body.getD .skip)
theorem ed23_7 (tm : List AV) (H : AH) : EvC Try.prog C3 d23_7 (tm, H) = (runPlan Try.prog C3 (Ev Try.prog C3) H.length (opsAt d23_7) (.take 0 (.take 1 (.take 2 (.take 3 (.take 5 (graft (.all [(4, (.all [(6, (.take 7 (.take 8 (.take 9 (.take 10 (.take 11 (.take 12 (.take 14 .done))))))))])), (6, (.all [(4, (.take 7 (.take 8 (.take 9 (.take 10 (.take 11 (.take 12 (.take 14 .done))))))))]))]) (graft (.all [(13, (.all [(15, (.take 16 (.take 17 (.take 18 (.take 19 (.take 20 (.take 21 (.take 23 (.take 24 (.take 25 .done))))))))))])), (15, (.all [(13, (.take 16 (.take 17 (.take 18 (.take 19 (.take 20 (.take 21 (.take 23 (.take 24 (.take 25 .done))))))))))]))]) (graft (.all [(22, (.all [(26, .done)])), (26, (.all [(22, .done)]))]) (.all [(27, (.take 28 .done))]))))))))) (tm, H)).bind fun s' => some (.normal, s') := ev_draw (by kernel_rfl) (by kernel_rfl) tm H
theorem fe23 (args : List AV) (H : AH) : Ev Try.prog C3 23 args H = (EvC Try.prog C3 c23 (args ++ List.replicate (51 - args.length) undefA, H)).bind fun r => match r with | (.normal, s) => some ((.tuple [s.1.getD 4 undefA, s.1.getD 5 undefA, s.1.getD 6 undefA]), s.2) | (.ret, s) => some ((.tuple [s.1.getD 4 undefA, s.1.getD 5 undefA, s.1.getD 6 undefA]), s.2) | _ => none := Ev_eq Try.func23 rfl args H (orc3 (by decide) args H)
theorem fc23 (C : Cfg Try.prog) (slot : Option Nat) (tm : List AV) (H : AH) (o : Oper) (xs : Array Operand) (ats : Array TypeId) : callA Try.prog C slot (evalA tm) o ⟨.value (.func 23), xs, ats⟩ H = (evL (evalA tm) xs.toList).map fun vs => (.enter 23 vs, H) := callF (by rw [Try.func23]; rfl) slot _ H o xs ats rfl
noncomputable def c6 : Code := Try.f6.body.getD .skip
theorem fe6 (args : List AV) (H : AH) : Ev Try.prog C3 6 args H = (EvC Try.prog C3 c6 (args ++ List.replicate (71 - args.length) undefA, H)).bind fun r => match r with | (.normal, s) => some ((s.1.getD 4 undefA), s.2) | (.ret, s) => some ((s.1.getD 4 undefA), s.2) | _ => none := Ev_eq Try.func6 rfl args H (orc3 (by decide) args H)
theorem fc6 (C : Cfg Try.prog) (slot : Option Nat) (tm : List AV) (H : AH) (o : Oper) (xs : Array Operand) (ats : Array TypeId) : callA Try.prog C slot (evalA tm) o ⟨.value (.func 6), xs, ats⟩ H = (evL (evalA tm) xs.toList).map fun vs => (.enter 6 vs, H) := callF (by rw [Try.func6]; rfl) slot _ H o xs ats rfl
end Go.Dv
