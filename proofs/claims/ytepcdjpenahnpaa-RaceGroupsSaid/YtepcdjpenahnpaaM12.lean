/- Texts of the evaluator and of the laws' walks, put together in the order of their build: N12, T70, T72, T73, T74, T75 (own work). -/
import Derived.Test.YtepcdjpenahnpaaM7

/- Names for the bodies and loops of functions of the translation, by their place in it (written by gen.py, own work). -/
namespace Go.Dv
open Go.Proofs
set_option maxRecDepth 100000
noncomputable def b57_0 : Code := atPath [true, true, false, false] (Try.f57.body.getD .skip)
noncomputable def l57_0 : Code := Code.loop b57_0
theorem el57_0 (s : St) : EvC Try.prog C4 l57_0 s = (EvC Try.prog C4 b57_0 s).bind fun r => match r with | (.normal, s') => EvC Try.prog C4 l57_0 s' | r => some r := EvC_loop _ _
noncomputable def c57 : Code := Try.f57.body.getD .skip
noncomputable def d57_0 : Code := atPath [false] (Try.f57.body.getD .skip)
theorem ed57_0 (tm : List AV) (H : AH) : EvC Try.prog C4 d57_0 (tm, H) = (runPlan Try.prog C4 (Ev Try.prog C4) H.length (opsAt d57_0) (.take 0 (.take 1 (.take 2 (.take 6 (.take 7 (.take 8 (graft (.all [(3, (.take 4 (.all [(5, (.take 12 (.all [(9, (.take 10 (.all [(11, (.take 13 .done))])))]))), (9, (.take 10 (.all [(5, (.take 12 (.all [(11, (.take 13 .done))]))), (11, (.all [(5, (.take 12 (.take 13 .done)))]))])))]))), (9, (.take 10 (.all [(3, (.take 4 (.all [(5, (.take 12 (.all [(11, (.take 13 .done))]))), (11, (.all [(5, (.take 12 (.take 13 .done)))]))]))), (11, (.all [(3, (.take 4 (.all [(5, (.take 12 (.take 13 .done)))])))]))])))]) .done))))))) (tm, H)).bind fun s' => some (.normal, s') := ev_draw (by kernel_rfl) (by kernel_rfl) tm H
theorem fe57 (args : List AV) (H : AH) : Ev Try.prog C4 57 args H = (EvC Try.prog C4 c57 (args ++ List.replicate (37 - args.length) undefA, H)).bind fun r => match r with | (.normal, s) => some ((.tuple []), s.2) | (.ret, s) => some ((.tuple []), s.2) | _ => none := Ev_eq Try.func57 rfl args H (orc4 (by decide) args H)
theorem fc57 (C : Cfg Try.prog) (slot : Option Nat) (tm : List AV) (H : AH) (o : Oper) (xs : Array Operand) (ats : Array TypeId) : callA Try.prog C slot (evalA tm) o ⟨.value (.func 57), xs, ats⟩ H = (evL (evalA tm) xs.toList).map fun vs => (.enter 57 vs, H) := callF (by rw [Try.func57]; rfl) slot _ H o xs ats rfl
noncomputable def b32_0 : Code := atPath [true, true, false, true, false, false] (Try.f32.body.getD .skip)
noncomputable def l32_0 : Code := Code.loop b32_0
theorem el32_0 (s : St) : EvC Try.prog C4 l32_0 s = (EvC Try.prog C4 b32_0 s).bind fun r => match r with | (.normal, s') => EvC Try.prog C4 l32_0 s' | r => some r := EvC_loop _ _
noncomputable def c32 : Code := Try.f32.body.getD .skip
noncomputable def d32_6 : Code := atPath [true, true, false, true, false, false, true, false, false, false] (Try.f32.body.getD .skip)
theorem ed32_6 (tm : List AV) (H : AH) : EvC Try.prog C4 d32_6 (tm, H) = (runPlan Try.prog C4 (Ev Try.prog C4) H.length (opsAt d32_6) (.take 0 (.take 1 (.take 2 (.take 4 (.take 5 (.take 6 (graft (.all [(3, (.all [(7, (.take 8 .done))])), (7, (.all [(3, (.take 8 .done))]))]) .done))))))) (tm, H)).bind fun s' => some (.normal, s') := ev_draw (by kernel_rfl) (by kernel_rfl) tm H
theorem fe32 (args : List AV) (H : AH) : Ev Try.prog C4 32 args H = (EvC Try.prog C4 c32 (args ++ List.replicate (26 - args.length) undefA, H)).bind fun r => match r with | (.normal, s) => some ((s.1.getD 4 undefA), s.2) | (.ret, s) => some ((s.1.getD 4 undefA), s.2) | _ => none := Ev_eq Try.func32 rfl args H (orc4 (by decide) args H)
theorem fc32 (C : Cfg Try.prog) (slot : Option Nat) (tm : List AV) (H : AH) (o : Oper) (xs : Array Operand) (ats : Array TypeId) : callA Try.prog C slot (evalA tm) o ⟨.value (.func 32), xs, ats⟩ H = (evL (evalA tm) xs.toList).map fun vs => (.enter 32 vs, H) := callF (by rw [Try.func32]; rfl) slot _ H o xs ats rfl
noncomputable def b35_0 : Code := atPath [true, true, true, false, true, false, false] (Try.f35.body.getD .skip)
noncomputable def l35_0 : Code := Code.loop b35_0
theorem el35_0 (s : St) : EvC Try.prog C4 l35_0 s = (EvC Try.prog C4 b35_0 s).bind fun r => match r with | (.normal, s') => EvC Try.prog C4 l35_0 s' | r => some r := EvC_loop _ _
noncomputable def b35_1 : Code := atPath [true, true, true, true, false, true, false, false, true, true, false, false, true, true, false, false] (Try.f35.body.getD .skip)
noncomputable def l35_1 : Code := Code.loop b35_1
theorem el35_1 (s : St) : EvC Try.prog C4 l35_1 s = (EvC Try.prog C4 b35_1 s).bind fun r => match r with | (.normal, s') => EvC Try.prog C4 l35_1 s' | r => some r := EvC_loop _ _
noncomputable def b35_2 : Code := atPath [true, true, true, true, false, true, false, false] (Try.f35.body.getD .skip)
noncomputable def l35_2 : Code := Code.loop b35_2
theorem el35_2 (s : St) : EvC Try.prog C4 l35_2 s = (EvC Try.prog C4 b35_2 s).bind fun r => match r with | (.normal, s') => EvC Try.prog C4 l35_2 s' | r => some r := EvC_loop _ _
noncomputable def b35_3 : Code := atPath [true, true, true, true, true, true, false, true, false, false] (Try.f35.body.getD .skip)
noncomputable def l35_3 : Code := Code.loop b35_3
theorem el35_3 (s : St) : EvC Try.prog C4 l35_3 s = (EvC Try.prog C4 b35_3 s).bind fun r => match r with | (.normal, s') => EvC Try.prog C4 l35_3 s' | r => some r := EvC_loop _ _
noncomputable def c35 : Code := Try.f35.body.getD .skip
noncomputable def d35_15 : Code := atPath [true, true, true, true, false, true, false, false, true, true, false, false, true, true, false, false, true, true, false, false, true, false] (Try.f35.body.getD .skip)
theorem ed35_15 (tm : List AV) (H : AH) : EvC Try.prog C4 d35_15 (tm, H) = (runPlan Try.prog C4 (Ev Try.prog C4) H.length (opsAt d35_15) (.take 0 (.take 1 (.take 2 (.take 4 (.take 5 (.take 6 (graft (.all [(3, (.all [(7, (.take 8 (.take 9 (.take 10 (.take 13 .done)))))])), (7, (.all [(3, (.take 8 (.take 9 (.take 10 (.take 13 .done)))))]))]) (graft (.all [(11, (.all [(12, (.all [(14, .done)])), (14, (.all [(12, .done)]))])), (14, (.all [(11, (.all [(12, .done)]))]))]) (.all [(15, (.take 16 (.take 17 (.take 18 (graft (.all [(19, (.all [(20, .done)])), (20, (.all [(19, .done)]))]) (.all [(21, (.take 22 .done))]))))))]))))))))) (tm, H)).bind fun s' => some (.normal, s') := ev_draw (by kernel_rfl) (by kernel_rfl) tm H
theorem fe35 (args : List AV) (H : AH) : Ev Try.prog C4 35 args H = (EvC Try.prog C4 c35 (args ++ List.replicate (104 - args.length) undefA, H)).bind fun r => match r with | (.normal, s) => some ((.tuple [s.1.getD 2 undefA, s.1.getD 3 undefA]), s.2) | (.ret, s) => some ((.tuple [s.1.getD 2 undefA, s.1.getD 3 undefA]), s.2) | _ => none := Ev_eq Try.func35 rfl args H (orc4 (by decide) args H)
theorem fc35 (C : Cfg Try.prog) (slot : Option Nat) (tm : List AV) (H : AH) (o : Oper) (xs : Array Operand) (ats : Array TypeId) : callA Try.prog C slot (evalA tm) o ⟨.value (.func 35), xs, ats⟩ H = (evL (evalA tm) xs.toList).map fun vs => (.enter 35 vs, H) := callF (by rw [Try.func35]; rfl) slot _ H o xs ats rfl
noncomputable def b36_0 : Code := atPath [true, true, false, true, false, false] (Try.f36.body.getD .skip)
noncomputable def l36_0 : Code := Code.loop b36_0
theorem el36_0 (s : St) : EvC Try.prog C4 l36_0 s = (EvC Try.prog C4 b36_0 s).bind fun r => match r with | (.normal, s') => EvC Try.prog C4 l36_0 s' | r => some r := EvC_loop _ _
noncomputable def b36_1 : Code := atPath [true, true, true, false, true, false, false, true, false, true, true, false, false, true, false, false, true, false, false] (Try.f36.body.getD .skip)
noncomputable def l36_1 : Code := Code.loop b36_1
theorem el36_1 (s : St) : EvC Try.prog C4 l36_1 s = (EvC Try.prog C4 b36_1 s).bind fun r => match r with | (.normal, s') => EvC Try.prog C4 l36_1 s' | r => some r := EvC_loop _ _
noncomputable def b36_2 : Code := atPath [true, true, true, false, true, false, false, true, false, true, true, false, false] (Try.f36.body.getD .skip)
noncomputable def l36_2 : Code := Code.loop b36_2
theorem el36_2 (s : St) : EvC Try.prog C4 l36_2 s = (EvC Try.prog C4 b36_2 s).bind fun r => match r with | (.normal, s') => EvC Try.prog C4 l36_2 s' | r => some r := EvC_loop _ _
noncomputable def b36_3 : Code := atPath [true, true, true, false, true, false, false] (Try.f36.body.getD .skip)
noncomputable def l36_3 : Code := Code.loop b36_3
theorem el36_3 (s : St) : EvC Try.prog C4 l36_3 s = (EvC Try.prog C4 b36_3 s).bind fun r => match r with | (.normal, s') => EvC Try.prog C4 l36_3 s' | r => some r := EvC_loop _ _
noncomputable def b36_4 : Code := atPath [true, true, true, true, true, false, true, false, false] (Try.f36.body.getD .skip)
noncomputable def l36_4 : Code := Code.loop b36_4
theorem el36_4 (s : St) : EvC Try.prog C4 l36_4 s = (EvC Try.prog C4 b36_4 s).bind fun r => match r with | (.normal, s') => EvC Try.prog C4 l36_4 s' | r => some r := EvC_loop _ _
noncomputable def b36_5 : Code := atPath [true, true, true, true, true, true, false, true, false, false, true, false, false, true, false, false] (Try.f36.body.getD .skip)
noncomputable def l36_5 : Code := Code.loop b36_5
theorem el36_5 (s : St) : EvC Try.prog C4 l36_5 s = (EvC Try.prog C4 b36_5 s).bind fun r => match r with | (.normal, s') => EvC Try.prog C4 l36_5 s' | r => some r := EvC_loop _ _
noncomputable def b36_6 : Code := atPath [true, true, true, true, true, true, false, true, false, false] (Try.f36.body.getD .skip)
noncomputable def l36_6 : Code := Code.loop b36_6
theorem el36_6 (s : St) : EvC Try.prog C4 l36_6 s = (EvC Try.prog C4 b36_6 s).bind fun r => match r with | (.normal, s') => EvC Try.prog C4 l36_6 s' | r => some r := EvC_loop _ _
noncomputable def c36 : Code := Try.f36.body.getD .skip
noncomputable def d36_15 : Code := atPath [true, true, true, false, true, false, false, true, false, true, true, false, false, true, false, false, true, false, false, true, false, false, false] (Try.f36.body.getD .skip)
theorem ed36_15 (tm : List AV) (H : AH) : EvC Try.prog C4 d36_15 (tm, H) = (runPlan Try.prog C4 (Ev Try.prog C4) H.length (opsAt d36_15) (.take 0 (.take 1 (.take 2 (.take 4 (.take 5 (.take 6 (graft (.all [(3, (.all [(7, (.take 8 (.take 9 (.take 10 (.take 11 (.take 12 (.take 14 (.take 15 (.take 16 .done)))))))))])), (7, (.all [(3, (.take 8 (.take 9 (.take 10 (.take 11 (.take 12 (.take 14 (.take 15 (.take 16 .done)))))))))]))]) (graft (.all [(13, (.all [(17, .done)])), (17, (.all [(13, .done)]))]) (.all [(18, (.take 19 .done))]))))))))) (tm, H)).bind fun s' => some (.normal, s') := ev_draw (by kernel_rfl) (by kernel_rfl) tm H
noncomputable def d36_30 : Code := atPath [true, true, true, true, true, true, false, true, false, false, true, false, false, true, false, false, true, false, false, false] (Try.f36.body.getD .skip)
theorem ed36_30 (tm : List AV) (H : AH) : EvC Try.prog C4 d36_30 (tm, H) = (runPlan Try.prog C4 (Ev Try.prog C4) H.length (opsAt d36_30) (.take 0 (.take 1 (.take 2 (.take 4 (.take 5 (.take 6 (graft (.all [(3, (.all [(7, (.take 8 .done))])), (7, (.all [(3, (.take 8 .done))]))]) .done))))))) (tm, H)).bind fun s' => some (.normal, s') := ev_draw (by kernel_rfl) (by kernel_rfl) tm H
theorem fe36 (args : List AV) (H : AH) : Ev Try.prog C4 36 args H = (EvC Try.prog C4 c36 (args ++ List.replicate (123 - args.length) undefA, H)).bind fun r => match r with | (.normal, s) => some ((s.1.getD 2 undefA), s.2) | (.ret, s) => some ((s.1.getD 2 undefA), s.2) | _ => none := Ev_eq Try.func36 rfl args H (orc4 (by decide) args H)
theorem fc36 (C : Cfg Try.prog) (slot : Option Nat) (tm : List AV) (H : AH) (o : Oper) (xs : Array Operand) (ats : Array TypeId) : callA Try.prog C slot (evalA tm) o ⟨.value (.func 36), xs, ats⟩ H = (evL (evalA tm) xs.toList).map fun vs => (.enter 36 vs, H) := callF (by rw [Try.func36]; rfl) slot _ H o xs ats rfl
noncomputable def c11 : Code := Try.f11.body.getD .skip
theorem fe11 (args : List AV) (H : AH) : Ev Try.prog C4 11 args H = (EvC Try.prog C4 c11 (args ++ List.replicate (38 - args.length) undefA, H)).bind fun r => match r with | (.normal, s) => some ((s.1.getD 2 undefA), s.2) | (.ret, s) => some ((s.1.getD 2 undefA), s.2) | _ => none := Ev_eq Try.func11 rfl args H (orc4 (by decide) args H)
theorem fc11 (C : Cfg Try.prog) (slot : Option Nat) (tm : List AV) (H : AH) (o : Oper) (xs : Array Operand) (ats : Array TypeId) : callA Try.prog C slot (evalA tm) o ⟨.value (.func 11), xs, ats⟩ H = (evL (evalA tm) xs.toList).map fun vs => (.enter 11 vs, H) := callF (by rw [Try.func11]; rfl) slot _ H o xs ats rfl
-- 47 states
noncomputable def d36_16 : Code := atPath [true, true, true, false, true, false, false, true, false, true, true, false, false, true, false, false, true, false, false, true, false, false, true, false, false] (Try.f36.body.getD .skip)
noncomputable def o36_16 : Array Oper := opsAt d36_16
theorem pp36_16_0 : planOf o36_16 26 #[false, false, false, false, false, false, false, false, false, false, false, false, false, false, false, false, false, false, false, false, false, false, false, false, false, false] = .take 0 (planOf o36_16 25 #[true, false, false, false, false, false, false, false, false, false, false, false, false, false, false, false, false, false, false, false, false, false, false, false, false, false]) := by kernel_rfl
theorem pp36_16_1 : planOf o36_16 25 #[true, false, false, false, false, false, false, false, false, false, false, false, false, false, false, false, false, false, false, false, false, false, false, false, false, false] = .take 1 (planOf o36_16 24 #[true, true, false, false, false, false, false, false, false, false, false, false, false, false, false, false, false, false, false, false, false, false, false, false, false, false]) := by kernel_rfl
theorem pp36_16_2 : planOf o36_16 24 #[true, true, false, false, false, false, false, false, false, false, false, false, false, false, false, false, false, false, false, false, false, false, false, false, false, false] = .take 2 (planOf o36_16 23 #[true, true, true, false, false, false, false, false, false, false, false, false, false, false, false, false, false, false, false, false, false, false, false, false, false, false]) := by kernel_rfl
theorem pp36_16_3 : planOf o36_16 23 #[true, true, true, false, false, false, false, false, false, false, false, false, false, false, false, false, false, false, false, false, false, false, false, false, false, false] = .take 3 (planOf o36_16 22 #[true, true, true, true, false, false, false, false, false, false, false, false, false, false, false, false, false, false, false, false, false, false, false, false, false, false]) := by kernel_rfl
theorem pp36_16_4 : planOf o36_16 22 #[true, true, true, true, false, false, false, false, false, false, false, false, false, false, false, false, false, false, false, false, false, false, false, false, false, false] = .take 4 (planOf o36_16 21 #[true, true, true, true, true, false, false, false, false, false, false, false, false, false, false, false, false, false, false, false, false, false, false, false, false, false]) := by kernel_rfl
theorem pp36_16_5 : planOf o36_16 21 #[true, true, true, true, true, false, false, false, false, false, false, false, false, false, false, false, false, false, false, false, false, false, false, false, false, false] = .take 5 (planOf o36_16 20 #[true, true, true, true, true, true, false, false, false, false, false, false, false, false, false, false, false, false, false, false, false, false, false, false, false, false]) := by kernel_rfl
theorem pp36_16_6 : planOf o36_16 20 #[true, true, true, true, true, true, false, false, false, false, false, false, false, false, false, false, false, false, false, false, false, false, false, false, false, false] = .take 6 (planOf o36_16 19 #[true, true, true, true, true, true, true, false, false, false, false, false, false, false, false, false, false, false, false, false, false, false, false, false, false, false]) := by kernel_rfl
theorem pp36_16_7 : planOf o36_16 19 #[true, true, true, true, true, true, true, false, false, false, false, false, false, false, false, false, false, false, false, false, false, false, false, false, false, false] = .take 8 (planOf o36_16 18 #[true, true, true, true, true, true, true, false, true, false, false, false, false, false, false, false, false, false, false, false, false, false, false, false, false, false]) := by kernel_rfl
theorem pp36_16_8 : planOf o36_16 18 #[true, true, true, true, true, true, true, false, true, false, false, false, false, false, false, false, false, false, false, false, false, false, false, false, false, false] = .take 9 (planOf o36_16 17 #[true, true, true, true, true, true, true, false, true, true, false, false, false, false, false, false, false, false, false, false, false, false, false, false, false, false]) := by kernel_rfl
theorem pp36_16_9 : planOf o36_16 17 #[true, true, true, true, true, true, true, false, true, true, false, false, false, false, false, false, false, false, false, false, false, false, false, false, false, false] = .take 10 (planOf o36_16 16 #[true, true, true, true, true, true, true, false, true, true, true, false, false, false, false, false, false, false, false, false, false, false, false, false, false, false]) := by kernel_rfl
theorem pp36_16_10 : planOf o36_16 16 #[true, true, true, true, true, true, true, false, true, true, true, false, false, false, false, false, false, false, false, false, false, false, false, false, false, false] = .take 13 (planOf o36_16 15 #[true, true, true, true, true, true, true, false, true, true, true, false, false, true, false, false, false, false, false, false, false, false, false, false, false, false]) := by kernel_rfl
theorem pp36_16_11 : planOf o36_16 15 #[true, true, true, true, true, true, true, false, true, true, true, false, false, true, false, false, false, false, false, false, false, false, false, false, false, false] = .take 14 (planOf o36_16 14 #[true, true, true, true, true, true, true, false, true, true, true, false, false, true, true, false, false, false, false, false, false, false, false, false, false, false]) := by kernel_rfl
theorem pp36_16_12 : planOf o36_16 14 #[true, true, true, true, true, true, true, false, true, true, true, false, false, true, true, false, false, false, false, false, false, false, false, false, false, false] = .take 15 (planOf o36_16 13 #[true, true, true, true, true, true, true, false, true, true, true, false, false, true, true, true, false, false, false, false, false, false, false, false, false, false]) := by kernel_rfl
theorem pp36_16_13 : planOf o36_16 13 #[true, true, true, true, true, true, true, false, true, true, true, false, false, true, true, true, false, false, false, false, false, false, false, false, false, false] = .take 17 (planOf o36_16 12 #[true, true, true, true, true, true, true, false, true, true, true, false, false, true, true, true, false, true, false, false, false, false, false, false, false, false]) := by kernel_rfl
theorem pp36_16_14 : planOf o36_16 12 #[true, true, true, true, true, true, true, false, true, true, true, false, false, true, true, true, false, true, false, false, false, false, false, false, false, false] = .take 18 (planOf o36_16 11 #[true, true, true, true, true, true, true, false, true, true, true, false, false, true, true, true, false, true, true, false, false, false, false, false, false, false]) := by kernel_rfl
theorem pp36_16_15 : planOf o36_16 11 #[true, true, true, true, true, true, true, false, true, true, true, false, false, true, true, true, false, true, true, false, false, false, false, false, false, false] = .take 19 (planOf o36_16 10 #[true, true, true, true, true, true, true, false, true, true, true, false, false, true, true, true, false, true, true, true, false, false, false, false, false, false]) := by kernel_rfl
theorem pp36_16_16 : planOf o36_16 10 #[true, true, true, true, true, true, true, false, true, true, true, false, false, true, true, true, false, true, true, true, false, false, false, false, false, false] = .all [(7, planOf o36_16 9 #[true, true, true, true, true, true, true, true, true, true, true, false, false, true, true, true, false, true, true, true, false, false, false, false, false, false]), (11, planOf o36_16 9 #[true, true, true, true, true, true, true, false, true, true, true, true, false, true, true, true, false, true, true, true, false, false, false, false, false, false]), (16, planOf o36_16 9 #[true, true, true, true, true, true, true, false, true, true, true, false, false, true, true, true, true, true, true, true, false, false, false, false, false, false]), (20, planOf o36_16 9 #[true, true, true, true, true, true, true, false, true, true, true, false, false, true, true, true, false, true, true, true, true, false, false, false, false, false])] := by kernel_rfl
theorem pp36_16_17 : planOf o36_16 9 #[true, true, true, true, true, true, true, false, true, true, true, false, false, true, true, true, false, true, true, true, true, false, false, false, false, false] = .all [(7, planOf o36_16 8 #[true, true, true, true, true, true, true, true, true, true, true, false, false, true, true, true, false, true, true, true, true, false, false, false, false, false]), (11, planOf o36_16 8 #[true, true, true, true, true, true, true, false, true, true, true, true, false, true, true, true, false, true, true, true, true, false, false, false, false, false]), (16, planOf o36_16 8 #[true, true, true, true, true, true, true, false, true, true, true, false, false, true, true, true, true, true, true, true, true, false, false, false, false, false])] := by kernel_rfl
theorem pp36_16_18 : planOf o36_16 8 #[true, true, true, true, true, true, true, false, true, true, true, false, false, true, true, true, true, true, true, true, true, false, false, false, false, false] = .all [(7, planOf o36_16 7 #[true, true, true, true, true, true, true, true, true, true, true, false, false, true, true, true, true, true, true, true, true, false, false, false, false, false]), (11, planOf o36_16 7 #[true, true, true, true, true, true, true, false, true, true, true, true, false, true, true, true, true, true, true, true, true, false, false, false, false, false]), (21, planOf o36_16 7 #[true, true, true, true, true, true, true, false, true, true, true, false, false, true, true, true, true, true, true, true, true, true, false, false, false, false])] := by kernel_rfl
theorem pp36_16_19 : planOf o36_16 7 #[true, true, true, true, true, true, true, false, true, true, true, false, false, true, true, true, true, true, true, true, true, true, false, false, false, false] = .all [(7, planOf o36_16 6 #[true, true, true, true, true, true, true, true, true, true, true, false, false, true, true, true, true, true, true, true, true, true, false, false, false, false]), (11, planOf o36_16 6 #[true, true, true, true, true, true, true, false, true, true, true, true, false, true, true, true, true, true, true, true, true, true, false, false, false, false])] := by kernel_rfl
theorem pp36_16_20 : planOf o36_16 6 #[true, true, true, true, true, true, true, false, true, true, true, true, false, true, true, true, true, true, true, true, true, true, false, false, false, false] = .all [(7, planOf o36_16 5 #[true, true, true, true, true, true, true, true, true, true, true, true, false, true, true, true, true, true, true, true, true, true, false, false, false, false])] := by kernel_rfl
theorem pp36_16_21 : planOf o36_16 5 #[true, true, true, true, true, true, true, true, true, true, true, true, false, true, true, true, true, true, true, true, true, true, false, false, false, false] = .all [(12, planOf o36_16 4 #[true, true, true, true, true, true, true, true, true, true, true, true, true, true, true, true, true, true, true, true, true, true, false, false, false, false])] := by kernel_rfl
theorem pp36_16_22 : planOf o36_16 4 #[true, true, true, true, true, true, true, true, true, true, true, true, true, true, true, true, true, true, true, true, true, true, false, false, false, false] = .take 22 (planOf o36_16 3 #[true, true, true, true, true, true, true, true, true, true, true, true, true, true, true, true, true, true, true, true, true, true, true, false, false, false]) := by kernel_rfl
theorem pp36_16_23 : planOf o36_16 3 #[true, true, true, true, true, true, true, true, true, true, true, true, true, true, true, true, true, true, true, true, true, true, true, false, false, false] = .all [(23, planOf o36_16 2 #[true, true, true, true, true, true, true, true, true, true, true, true, true, true, true, true, true, true, true, true, true, true, true, true, false, false])] := by kernel_rfl
theorem pp36_16_24 : planOf o36_16 2 #[true, true, true, true, true, true, true, true, true, true, true, true, true, true, true, true, true, true, true, true, true, true, true, true, false, false] = .take 24 (planOf o36_16 1 #[true, true, true, true, true, true, true, true, true, true, true, true, true, true, true, true, true, true, true, true, true, true, true, true, true, false]) := by kernel_rfl
theorem pp36_16_25 : planOf o36_16 1 #[true, true, true, true, true, true, true, true, true, true, true, true, true, true, true, true, true, true, true, true, true, true, true, true, true, false] = .all [(25, planOf o36_16 0 #[true, true, true, true, true, true, true, true, true, true, true, true, true, true, true, true, true, true, true, true, true, true, true, true, true, true])] := by kernel_rfl
theorem pp36_16_26 : planOf o36_16 0 #[true, true, true, true, true, true, true, true, true, true, true, true, true, true, true, true, true, true, true, true, true, true, true, true, true, true] = .done := by kernel_rfl
theorem pp36_16_27 : planOf o36_16 6 #[true, true, true, true, true, true, true, true, true, true, true, false, false, true, true, true, true, true, true, true, true, true, false, false, false, false] = .all [(11, planOf o36_16 5 #[true, true, true, true, true, true, true, true, true, true, true, true, false, true, true, true, true, true, true, true, true, true, false, false, false, false])] := by kernel_rfl
theorem pp36_16_28 : planOf o36_16 7 #[true, true, true, true, true, true, true, false, true, true, true, true, false, true, true, true, true, true, true, true, true, false, false, false, false, false] = .all [(7, planOf o36_16 6 #[true, true, true, true, true, true, true, true, true, true, true, true, false, true, true, true, true, true, true, true, true, false, false, false, false, false]), (21, planOf o36_16 6 #[true, true, true, true, true, true, true, false, true, true, true, true, false, true, true, true, true, true, true, true, true, true, false, false, false, false])] := by kernel_rfl
theorem pp36_16_29 : planOf o36_16 6 #[true, true, true, true, true, true, true, true, true, true, true, true, false, true, true, true, true, true, true, true, true, false, false, false, false, false] = .all [(12, planOf o36_16 5 #[true, true, true, true, true, true, true, true, true, true, true, true, true, true, true, true, true, true, true, true, true, false, false, false, false, false]), (21, planOf o36_16 5 #[true, true, true, true, true, true, true, true, true, true, true, true, false, true, true, true, true, true, true, true, true, true, false, false, false, false])] := by kernel_rfl
theorem pp36_16_30 : planOf o36_16 5 #[true, true, true, true, true, true, true, true, true, true, true, true, true, true, true, true, true, true, true, true, true, false, false, false, false, false] = .take 22 (planOf o36_16 4 #[true, true, true, true, true, true, true, true, true, true, true, true, true, true, true, true, true, true, true, true, true, false, true, false, false, false]) := by kernel_rfl
theorem pp36_16_31 : planOf o36_16 4 #[true, true, true, true, true, true, true, true, true, true, true, true, true, true, true, true, true, true, true, true, true, false, true, false, false, false] = .all [(21, planOf o36_16 3 #[true, true, true, true, true, true, true, true, true, true, true, true, true, true, true, true, true, true, true, true, true, true, true, false, false, false]), (23, planOf o36_16 3 #[true, true, true, true, true, true, true, true, true, true, true, true, true, true, true, true, true, true, true, true, true, false, true, true, false, false])] := by kernel_rfl
theorem pp36_16_32 : planOf o36_16 3 #[true, true, true, true, true, true, true, true, true, true, true, true, true, true, true, true, true, true, true, true, true, false, true, true, false, false] = .all [(21, planOf o36_16 2 #[true, true, true, true, true, true, true, true, true, true, true, true, true, true, true, true, true, true, true, true, true, true, true, true, false, false])] := by kernel_rfl
theorem pp36_16_33 : planOf o36_16 7 #[true, true, true, true, true, true, true, true, true, true, true, false, false, true, true, true, true, true, true, true, true, false, false, false, false, false] = .all [(11, planOf o36_16 6 #[true, true, true, true, true, true, true, true, true, true, true, true, false, true, true, true, true, true, true, true, true, false, false, false, false, false]), (21, planOf o36_16 6 #[true, true, true, true, true, true, true, true, true, true, true, false, false, true, true, true, true, true, true, true, true, true, false, false, false, false])] := by kernel_rfl
theorem pp36_16_34 : planOf o36_16 8 #[true, true, true, true, true, true, true, false, true, true, true, true, false, true, true, true, false, true, true, true, true, false, false, false, false, false] = .all [(7, planOf o36_16 7 #[true, true, true, true, true, true, true, true, true, true, true, true, false, true, true, true, false, true, true, true, true, false, false, false, false, false]), (16, planOf o36_16 7 #[true, true, true, true, true, true, true, false, true, true, true, true, false, true, true, true, true, true, true, true, true, false, false, false, false, false])] := by kernel_rfl
theorem pp36_16_35 : planOf o36_16 7 #[true, true, true, true, true, true, true, true, true, true, true, true, false, true, true, true, false, true, true, true, true, false, false, false, false, false] = .all [(12, planOf o36_16 6 #[true, true, true, true, true, true, true, true, true, true, true, true, true, true, true, true, false, true, true, true, true, false, false, false, false, false]), (16, planOf o36_16 6 #[true, true, true, true, true, true, true, true, true, true, true, true, false, true, true, true, true, true, true, true, true, false, false, false, false, false])] := by kernel_rfl
theorem pp36_16_36 : planOf o36_16 6 #[true, true, true, true, true, true, true, true, true, true, true, true, true, true, true, true, false, true, true, true, true, false, false, false, false, false] = .all [(16, planOf o36_16 5 #[true, true, true, true, true, true, true, true, true, true, true, true, true, true, true, true, true, true, true, true, true, false, false, false, false, false])] := by kernel_rfl
theorem pp36_16_37 : planOf o36_16 8 #[true, true, true, true, true, true, true, true, true, true, true, false, false, true, true, true, false, true, true, true, true, false, false, false, false, false] = .all [(11, planOf o36_16 7 #[true, true, true, true, true, true, true, true, true, true, true, true, false, true, true, true, false, true, true, true, true, false, false, false, false, false]), (16, planOf o36_16 7 #[true, true, true, true, true, true, true, true, true, true, true, false, false, true, true, true, true, true, true, true, true, false, false, false, false, false])] := by kernel_rfl
theorem pp36_16_38 : planOf o36_16 9 #[true, true, true, true, true, true, true, false, true, true, true, false, false, true, true, true, true, true, true, true, false, false, false, false, false, false] = .all [(7, planOf o36_16 8 #[true, true, true, true, true, true, true, true, true, true, true, false, false, true, true, true, true, true, true, true, false, false, false, false, false, false]), (11, planOf o36_16 8 #[true, true, true, true, true, true, true, false, true, true, true, true, false, true, true, true, true, true, true, true, false, false, false, false, false, false]), (20, planOf o36_16 8 #[true, true, true, true, true, true, true, false, true, true, true, false, false, true, true, true, true, true, true, true, true, false, false, false, false, false])] := by kernel_rfl
theorem pp36_16_39 : planOf o36_16 8 #[true, true, true, true, true, true, true, false, true, true, true, true, false, true, true, true, true, true, true, true, false, false, false, false, false, false] = .all [(7, planOf o36_16 7 #[true, true, true, true, true, true, true, true, true, true, true, true, false, true, true, true, true, true, true, true, false, false, false, false, false, false]), (20, planOf o36_16 7 #[true, true, true, true, true, true, true, false, true, true, true, true, false, true, true, true, true, true, true, true, true, false, false, false, false, false])] := by kernel_rfl
theorem pp36_16_40 : planOf o36_16 7 #[true, true, true, true, true, true, true, true, true, true, true, true, false, true, true, true, true, true, true, true, false, false, false, false, false, false] = .all [(12, planOf o36_16 6 #[true, true, true, true, true, true, true, true, true, true, true, true, true, true, true, true, true, true, true, true, false, false, false, false, false, false]), (20, planOf o36_16 6 #[true, true, true, true, true, true, true, true, true, true, true, true, false, true, true, true, true, true, true, true, true, false, false, false, false, false])] := by kernel_rfl
theorem pp36_16_41 : planOf o36_16 6 #[true, true, true, true, true, true, true, true, true, true, true, true, true, true, true, true, true, true, true, true, false, false, false, false, false, false] = .all [(20, planOf o36_16 5 #[true, true, true, true, true, true, true, true, true, true, true, true, true, true, true, true, true, true, true, true, true, false, false, false, false, false])] := by kernel_rfl
theorem pp36_16_42 : planOf o36_16 8 #[true, true, true, true, true, true, true, true, true, true, true, false, false, true, true, true, true, true, true, true, false, false, false, false, false, false] = .all [(11, planOf o36_16 7 #[true, true, true, true, true, true, true, true, true, true, true, true, false, true, true, true, true, true, true, true, false, false, false, false, false, false]), (20, planOf o36_16 7 #[true, true, true, true, true, true, true, true, true, true, true, false, false, true, true, true, true, true, true, true, true, false, false, false, false, false])] := by kernel_rfl
theorem pp36_16_43 : planOf o36_16 9 #[true, true, true, true, true, true, true, false, true, true, true, true, false, true, true, true, false, true, true, true, false, false, false, false, false, false] = .all [(7, planOf o36_16 8 #[true, true, true, true, true, true, true, true, true, true, true, true, false, true, true, true, false, true, true, true, false, false, false, false, false, false]), (16, planOf o36_16 8 #[true, true, true, true, true, true, true, false, true, true, true, true, false, true, true, true, true, true, true, true, false, false, false, false, false, false]), (20, planOf o36_16 8 #[true, true, true, true, true, true, true, false, true, true, true, true, false, true, true, true, false, true, true, true, true, false, false, false, false, false])] := by kernel_rfl
theorem pp36_16_44 : planOf o36_16 8 #[true, true, true, true, true, true, true, true, true, true, true, true, false, true, true, true, false, true, true, true, false, false, false, false, false, false] = .all [(12, planOf o36_16 7 #[true, true, true, true, true, true, true, true, true, true, true, true, true, true, true, true, false, true, true, true, false, false, false, false, false, false]), (16, planOf o36_16 7 #[true, true, true, true, true, true, true, true, true, true, true, true, false, true, true, true, true, true, true, true, false, false, false, false, false, false]), (20, planOf o36_16 7 #[true, true, true, true, true, true, true, true, true, true, true, true, false, true, true, true, false, true, true, true, true, false, false, false, false, false])] := by kernel_rfl
theorem pp36_16_45 : planOf o36_16 7 #[true, true, true, true, true, true, true, true, true, true, true, true, true, true, true, true, false, true, true, true, false, false, false, false, false, false] = .all [(16, planOf o36_16 6 #[true, true, true, true, true, true, true, true, true, true, true, true, true, true, true, true, true, true, true, true, false, false, false, false, false, false]), (20, planOf o36_16 6 #[true, true, true, true, true, true, true, true, true, true, true, true, true, true, true, true, false, true, true, true, true, false, false, false, false, false])] := by kernel_rfl
theorem pp36_16_46 : planOf o36_16 9 #[true, true, true, true, true, true, true, true, true, true, true, false, false, true, true, true, false, true, true, true, false, false, false, false, false, false] = .all [(11, planOf o36_16 8 #[true, true, true, true, true, true, true, true, true, true, true, true, false, true, true, true, false, true, true, true, false, false, false, false, false, false]), (16, planOf o36_16 8 #[true, true, true, true, true, true, true, true, true, true, true, false, false, true, true, true, true, true, true, true, false, false, false, false, false, false]), (20, planOf o36_16 8 #[true, true, true, true, true, true, true, true, true, true, true, false, false, true, true, true, false, true, true, true, true, false, false, false, false, false])] := by kernel_rfl
theorem pl36_16 : planOf (opsAt d36_16) (opsAt d36_16).size (Array.replicate (opsAt d36_16).size false) = (.take 0 (.take 1 (.take 2 (.take 3 (.take 4 (.take 5 (.take 6 (.take 8 (.take 9 (.take 10 (.take 13 (.take 14 (.take 15 (.take 17 (.take 18 (.take 19 (graft (.all [(7, (.all [(11, (.all [(12, (.all [(16, (.all [(20, (.take 22 (.all [(21, (.all [(23, (.take 24 .done))])), (23, (.all [(21, (.take 24 .done))]))])))])), (20, (.all [(16, (.take 22 (.all [(21, (.all [(23, (.take 24 .done))])), (23, (.all [(21, (.take 24 .done))]))])))]))])), (16, (.all [(12, (.all [(20, (.take 22 (.all [(21, (.all [(23, (.take 24 .done))])), (23, (.all [(21, (.take 24 .done))]))])))])), (20, (.all [(12, (.take 22 (.all [(21, (.all [(23, (.take 24 .done))])), (23, (.all [(21, (.take 24 .done))]))]))), (21, (.all [(12, (.take 22 (.all [(23, (.take 24 .done))])))]))]))])), (20, (.all [(12, (.all [(16, (.take 22 (.all [(21, (.all [(23, (.take 24 .done))])), (23, (.all [(21, (.take 24 .done))]))])))])), (16, (.all [(12, (.take 22 (.all [(21, (.all [(23, (.take 24 .done))])), (23, (.all [(21, (.take 24 .done))]))]))), (21, (.all [(12, (.take 22 (.all [(23, (.take 24 .done))])))]))]))]))])), (16, (.all [(11, (.all [(12, (.all [(20, (.take 22 (.all [(21, (.all [(23, (.take 24 .done))])), (23, (.all [(21, (.take 24 .done))]))])))])), (20, (.all [(12, (.take 22 (.all [(21, (.all [(23, (.take 24 .done))])), (23, (.all [(21, (.take 24 .done))]))]))), (21, (.all [(12, (.take 22 (.all [(23, (.take 24 .done))])))]))]))])), (20, (.all [(11, (.all [(12, (.take 22 (.all [(21, (.all [(23, (.take 24 .done))])), (23, (.all [(21, (.take 24 .done))]))]))), (21, (.all [(12, (.take 22 (.all [(23, (.take 24 .done))])))]))])), (21, (.all [(11, (.all [(12, (.take 22 (.all [(23, (.take 24 .done))])))]))]))]))])), (20, (.all [(11, (.all [(12, (.all [(16, (.take 22 (.all [(21, (.all [(23, (.take 24 .done))])), (23, (.all [(21, (.take 24 .done))]))])))])), (16, (.all [(12, (.take 22 (.all [(21, (.all [(23, (.take 24 .done))])), (23, (.all [(21, (.take 24 .done))]))]))), (21, (.all [(12, (.take 22 (.all [(23, (.take 24 .done))])))]))]))])), (16, (.all [(11, (.all [(12, (.take 22 (.all [(21, (.all [(23, (.take 24 .done))])), (23, (.all [(21, (.take 24 .done))]))]))), (21, (.all [(12, (.take 22 (.all [(23, (.take 24 .done))])))]))])), (21, (.all [(11, (.all [(12, (.take 22 (.all [(23, (.take 24 .done))])))]))]))]))]))])), (11, (.all [(7, (.all [(12, (.all [(16, (.all [(20, (.take 22 (.all [(21, (.all [(23, (.take 24 .done))])), (23, (.all [(21, (.take 24 .done))]))])))])), (20, (.all [(16, (.take 22 (.all [(21, (.all [(23, (.take 24 .done))])), (23, (.all [(21, (.take 24 .done))]))])))]))])), (16, (.all [(12, (.all [(20, (.take 22 (.all [(21, (.all [(23, (.take 24 .done))])), (23, (.all [(21, (.take 24 .done))]))])))])), (20, (.all [(12, (.take 22 (.all [(21, (.all [(23, (.take 24 .done))])), (23, (.all [(21, (.take 24 .done))]))]))), (21, (.all [(12, (.take 22 (.all [(23, (.take 24 .done))])))]))]))])), (20, (.all [(12, (.all [(16, (.take 22 (.all [(21, (.all [(23, (.take 24 .done))])), (23, (.all [(21, (.take 24 .done))]))])))])), (16, (.all [(12, (.take 22 (.all [(21, (.all [(23, (.take 24 .done))])), (23, (.all [(21, (.take 24 .done))]))]))), (21, (.all [(12, (.take 22 (.all [(23, (.take 24 .done))])))]))]))]))])), (16, (.all [(7, (.all [(12, (.all [(20, (.take 22 (.all [(21, (.all [(23, (.take 24 .done))])), (23, (.all [(21, (.take 24 .done))]))])))])), (20, (.all [(12, (.take 22 (.all [(21, (.all [(23, (.take 24 .done))])), (23, (.all [(21, (.take 24 .done))]))]))), (21, (.all [(12, (.take 22 (.all [(23, (.take 24 .done))])))]))]))])), (20, (.all [(7, (.all [(12, (.take 22 (.all [(21, (.all [(23, (.take 24 .done))])), (23, (.all [(21, (.take 24 .done))]))]))), (21, (.all [(12, (.take 22 (.all [(23, (.take 24 .done))])))]))])), (21, (.all [(7, (.all [(12, (.take 22 (.all [(23, (.take 24 .done))])))]))]))]))])), (20, (.all [(7, (.all [(12, (.all [(16, (.take 22 (.all [(21, (.all [(23, (.take 24 .done))])), (23, (.all [(21, (.take 24 .done))]))])))])), (16, (.all [(12, (.take 22 (.all [(21, (.all [(23, (.take 24 .done))])), (23, (.all [(21, (.take 24 .done))]))]))), (21, (.all [(12, (.take 22 (.all [(23, (.take 24 .done))])))]))]))])), (16, (.all [(7, (.all [(12, (.take 22 (.all [(21, (.all [(23, (.take 24 .done))])), (23, (.all [(21, (.take 24 .done))]))]))), (21, (.all [(12, (.take 22 (.all [(23, (.take 24 .done))])))]))])), (21, (.all [(7, (.all [(12, (.take 22 (.all [(23, (.take 24 .done))])))]))]))]))]))])), (16, (.all [(7, (.all [(11, (.all [(12, (.all [(20, (.take 22 (.all [(21, (.all [(23, (.take 24 .done))])), (23, (.all [(21, (.take 24 .done))]))])))])), (20, (.all [(12, (.take 22 (.all [(21, (.all [(23, (.take 24 .done))])), (23, (.all [(21, (.take 24 .done))]))]))), (21, (.all [(12, (.take 22 (.all [(23, (.take 24 .done))])))]))]))])), (20, (.all [(11, (.all [(12, (.take 22 (.all [(21, (.all [(23, (.take 24 .done))])), (23, (.all [(21, (.take 24 .done))]))]))), (21, (.all [(12, (.take 22 (.all [(23, (.take 24 .done))])))]))])), (21, (.all [(11, (.all [(12, (.take 22 (.all [(23, (.take 24 .done))])))]))]))]))])), (11, (.all [(7, (.all [(12, (.all [(20, (.take 22 (.all [(21, (.all [(23, (.take 24 .done))])), (23, (.all [(21, (.take 24 .done))]))])))])), (20, (.all [(12, (.take 22 (.all [(21, (.all [(23, (.take 24 .done))])), (23, (.all [(21, (.take 24 .done))]))]))), (21, (.all [(12, (.take 22 (.all [(23, (.take 24 .done))])))]))]))])), (20, (.all [(7, (.all [(12, (.take 22 (.all [(21, (.all [(23, (.take 24 .done))])), (23, (.all [(21, (.take 24 .done))]))]))), (21, (.all [(12, (.take 22 (.all [(23, (.take 24 .done))])))]))])), (21, (.all [(7, (.all [(12, (.take 22 (.all [(23, (.take 24 .done))])))]))]))]))])), (20, (.all [(7, (.all [(11, (.all [(12, (.take 22 (.all [(21, (.all [(23, (.take 24 .done))])), (23, (.all [(21, (.take 24 .done))]))]))), (21, (.all [(12, (.take 22 (.all [(23, (.take 24 .done))])))]))])), (21, (.all [(11, (.all [(12, (.take 22 (.all [(23, (.take 24 .done))])))]))]))])), (11, (.all [(7, (.all [(12, (.take 22 (.all [(21, (.all [(23, (.take 24 .done))])), (23, (.all [(21, (.take 24 .done))]))]))), (21, (.all [(12, (.take 22 (.all [(23, (.take 24 .done))])))]))])), (21, (.all [(7, (.all [(12, (.take 22 (.all [(23, (.take 24 .done))])))]))]))])), (21, (.all [(7, (.all [(11, (.all [(12, (.take 22 (.all [(23, (.take 24 .done))])))]))])), (11, (.all [(7, (.all [(12, (.take 22 (.all [(23, (.take 24 .done))])))]))]))]))]))])), (20, (.all [(7, (.all [(11, (.all [(12, (.all [(16, (.take 22 (.all [(21, (.all [(23, (.take 24 .done))])), (23, (.all [(21, (.take 24 .done))]))])))])), (16, (.all [(12, (.take 22 (.all [(21, (.all [(23, (.take 24 .done))])), (23, (.all [(21, (.take 24 .done))]))]))), (21, (.all [(12, (.take 22 (.all [(23, (.take 24 .done))])))]))]))])), (16, (.all [(11, (.all [(12, (.take 22 (.all [(21, (.all [(23, (.take 24 .done))])), (23, (.all [(21, (.take 24 .done))]))]))), (21, (.all [(12, (.take 22 (.all [(23, (.take 24 .done))])))]))])), (21, (.all [(11, (.all [(12, (.take 22 (.all [(23, (.take 24 .done))])))]))]))]))])), (11, (.all [(7, (.all [(12, (.all [(16, (.take 22 (.all [(21, (.all [(23, (.take 24 .done))])), (23, (.all [(21, (.take 24 .done))]))])))])), (16, (.all [(12, (.take 22 (.all [(21, (.all [(23, (.take 24 .done))])), (23, (.all [(21, (.take 24 .done))]))]))), (21, (.all [(12, (.take 22 (.all [(23, (.take 24 .done))])))]))]))])), (16, (.all [(7, (.all [(12, (.take 22 (.all [(21, (.all [(23, (.take 24 .done))])), (23, (.all [(21, (.take 24 .done))]))]))), (21, (.all [(12, (.take 22 (.all [(23, (.take 24 .done))])))]))])), (21, (.all [(7, (.all [(12, (.take 22 (.all [(23, (.take 24 .done))])))]))]))]))])), (16, (.all [(7, (.all [(11, (.all [(12, (.take 22 (.all [(21, (.all [(23, (.take 24 .done))])), (23, (.all [(21, (.take 24 .done))]))]))), (21, (.all [(12, (.take 22 (.all [(23, (.take 24 .done))])))]))])), (21, (.all [(11, (.all [(12, (.take 22 (.all [(23, (.take 24 .done))])))]))]))])), (11, (.all [(7, (.all [(12, (.take 22 (.all [(21, (.all [(23, (.take 24 .done))])), (23, (.all [(21, (.take 24 .done))]))]))), (21, (.all [(12, (.take 22 (.all [(23, (.take 24 .done))])))]))])), (21, (.all [(7, (.all [(12, (.take 22 (.all [(23, (.take 24 .done))])))]))]))])), (21, (.all [(7, (.all [(11, (.all [(12, (.take 22 (.all [(23, (.take 24 .done))])))]))])), (11, (.all [(7, (.all [(12, (.take 22 (.all [(23, (.take 24 .done))])))]))]))]))]))]))]) (.all [(25, .done)])))))))))))))))))) := by
  have h : planOf (opsAt d36_16) (opsAt d36_16).size (Array.replicate (opsAt d36_16).size false) = planOf o36_16 26 #[false, false, false, false, false, false, false, false, false, false, false, false, false, false, false, false, false, false, false, false, false, false, false, false, false, false] := by kernel_rfl
  rw [h]; simp only [pp36_16_0, pp36_16_1, pp36_16_2, pp36_16_3, pp36_16_4, pp36_16_5, pp36_16_6, pp36_16_7, pp36_16_8, pp36_16_9, pp36_16_10, pp36_16_11, pp36_16_12, pp36_16_13, pp36_16_14, pp36_16_15, pp36_16_16, pp36_16_17, pp36_16_18, pp36_16_19, pp36_16_20, pp36_16_21, pp36_16_22, pp36_16_23, pp36_16_24, pp36_16_25, pp36_16_26, pp36_16_27, pp36_16_28, pp36_16_29, pp36_16_30, pp36_16_31, pp36_16_32, pp36_16_33, pp36_16_34, pp36_16_35, pp36_16_36, pp36_16_37, pp36_16_38, pp36_16_39, pp36_16_40, pp36_16_41, pp36_16_42, pp36_16_43, pp36_16_44, pp36_16_45, pp36_16_46, graft, graftL]
theorem ed36_16 (tm : List AV) (H : AH) : EvC Try.prog C4 d36_16 (tm, H) = (runPlan Try.prog C4 (Ev Try.prog C4) H.length (opsAt d36_16) (.take 0 (.take 1 (.take 2 (.take 3 (.take 4 (.take 5 (.take 6 (.take 8 (.take 9 (.take 10 (.take 13 (.take 14 (.take 15 (.take 17 (.take 18 (.take 19 (graft (.all [(7, (.all [(11, (.all [(12, (.all [(16, (.all [(20, (.take 22 (.all [(21, (.all [(23, (.take 24 .done))])), (23, (.all [(21, (.take 24 .done))]))])))])), (20, (.all [(16, (.take 22 (.all [(21, (.all [(23, (.take 24 .done))])), (23, (.all [(21, (.take 24 .done))]))])))]))])), (16, (.all [(12, (.all [(20, (.take 22 (.all [(21, (.all [(23, (.take 24 .done))])), (23, (.all [(21, (.take 24 .done))]))])))])), (20, (.all [(12, (.take 22 (.all [(21, (.all [(23, (.take 24 .done))])), (23, (.all [(21, (.take 24 .done))]))]))), (21, (.all [(12, (.take 22 (.all [(23, (.take 24 .done))])))]))]))])), (20, (.all [(12, (.all [(16, (.take 22 (.all [(21, (.all [(23, (.take 24 .done))])), (23, (.all [(21, (.take 24 .done))]))])))])), (16, (.all [(12, (.take 22 (.all [(21, (.all [(23, (.take 24 .done))])), (23, (.all [(21, (.take 24 .done))]))]))), (21, (.all [(12, (.take 22 (.all [(23, (.take 24 .done))])))]))]))]))])), (16, (.all [(11, (.all [(12, (.all [(20, (.take 22 (.all [(21, (.all [(23, (.take 24 .done))])), (23, (.all [(21, (.take 24 .done))]))])))])), (20, (.all [(12, (.take 22 (.all [(21, (.all [(23, (.take 24 .done))])), (23, (.all [(21, (.take 24 .done))]))]))), (21, (.all [(12, (.take 22 (.all [(23, (.take 24 .done))])))]))]))])), (20, (.all [(11, (.all [(12, (.take 22 (.all [(21, (.all [(23, (.take 24 .done))])), (23, (.all [(21, (.take 24 .done))]))]))), (21, (.all [(12, (.take 22 (.all [(23, (.take 24 .done))])))]))])), (21, (.all [(11, (.all [(12, (.take 22 (.all [(23, (.take 24 .done))])))]))]))]))])), (20, (.all [(11, (.all [(12, (.all [(16, (.take 22 (.all [(21, (.all [(23, (.take 24 .done))])), (23, (.all [(21, (.take 24 .done))]))])))])), (16, (.all [(12, (.take 22 (.all [(21, (.all [(23, (.take 24 .done))])), (23, (.all [(21, (.take 24 .done))]))]))), (21, (.all [(12, (.take 22 (.all [(23, (.take 24 .done))])))]))]))])), (16, (.all [(11, (.all [(12, (.take 22 (.all [(21, (.all [(23, (.take 24 .done))])), (23, (.all [(21, (.take 24 .done))]))]))), (21, (.all [(12, (.take 22 (.all [(23, (.take 24 .done))])))]))])), (21, (.all [(11, (.all [(12, (.take 22 (.all [(23, (.take 24 .done))])))]))]))]))]))])), (11, (.all [(7, (.all [(12, (.all [(16, (.all [(20, (.take 22 (.all [(21, (.all [(23, (.take 24 .done))])), (23, (.all [(21, (.take 24 .done))]))])))])), (20, (.all [(16, (.take 22 (.all [(21, (.all [(23, (.take 24 .done))])), (23, (.all [(21, (.take 24 .done))]))])))]))])), (16, (.all [(12, (.all [(20, (.take 22 (.all [(21, (.all [(23, (.take 24 .done))])), (23, (.all [(21, (.take 24 .done))]))])))])), (20, (.all [(12, (.take 22 (.all [(21, (.all [(23, (.take 24 .done))])), (23, (.all [(21, (.take 24 .done))]))]))), (21, (.all [(12, (.take 22 (.all [(23, (.take 24 .done))])))]))]))])), (20, (.all [(12, (.all [(16, (.take 22 (.all [(21, (.all [(23, (.take 24 .done))])), (23, (.all [(21, (.take 24 .done))]))])))])), (16, (.all [(12, (.take 22 (.all [(21, (.all [(23, (.take 24 .done))])), (23, (.all [(21, (.take 24 .done))]))]))), (21, (.all [(12, (.take 22 (.all [(23, (.take 24 .done))])))]))]))]))])), (16, (.all [(7, (.all [(12, (.all [(20, (.take 22 (.all [(21, (.all [(23, (.take 24 .done))])), (23, (.all [(21, (.take 24 .done))]))])))])), (20, (.all [(12, (.take 22 (.all [(21, (.all [(23, (.take 24 .done))])), (23, (.all [(21, (.take 24 .done))]))]))), (21, (.all [(12, (.take 22 (.all [(23, (.take 24 .done))])))]))]))])), (20, (.all [(7, (.all [(12, (.take 22 (.all [(21, (.all [(23, (.take 24 .done))])), (23, (.all [(21, (.take 24 .done))]))]))), (21, (.all [(12, (.take 22 (.all [(23, (.take 24 .done))])))]))])), (21, (.all [(7, (.all [(12, (.take 22 (.all [(23, (.take 24 .done))])))]))]))]))])), (20, (.all [(7, (.all [(12, (.all [(16, (.take 22 (.all [(21, (.all [(23, (.take 24 .done))])), (23, (.all [(21, (.take 24 .done))]))])))])), (16, (.all [(12, (.take 22 (.all [(21, (.all [(23, (.take 24 .done))])), (23, (.all [(21, (.take 24 .done))]))]))), (21, (.all [(12, (.take 22 (.all [(23, (.take 24 .done))])))]))]))])), (16, (.all [(7, (.all [(12, (.take 22 (.all [(21, (.all [(23, (.take 24 .done))])), (23, (.all [(21, (.take 24 .done))]))]))), (21, (.all [(12, (.take 22 (.all [(23, (.take 24 .done))])))]))])), (21, (.all [(7, (.all [(12, (.take 22 (.all [(23, (.take 24 .done))])))]))]))]))]))])), (16, (.all [(7, (.all [(11, (.all [(12, (.all [(20, (.take 22 (.all [(21, (.all [(23, (.take 24 .done))])), (23, (.all [(21, (.take 24 .done))]))])))])), (20, (.all [(12, (.take 22 (.all [(21, (.all [(23, (.take 24 .done))])), (23, (.all [(21, (.take 24 .done))]))]))), (21, (.all [(12, (.take 22 (.all [(23, (.take 24 .done))])))]))]))])), (20, (.all [(11, (.all [(12, (.take 22 (.all [(21, (.all [(23, (.take 24 .done))])), (23, (.all [(21, (.take 24 .done))]))]))), (21, (.all [(12, (.take 22 (.all [(23, (.take 24 .done))])))]))])), (21, (.all [(11, (.all [(12, (.take 22 (.all [(23, (.take 24 .done))])))]))]))]))])), (11, (.all [(7, (.all [(12, (.all [(20, (.take 22 (.all [(21, (.all [(23, (.take 24 .done))])), (23, (.all [(21, (.take 24 .done))]))])))])), (20, (.all [(12, (.take 22 (.all [(21, (.all [(23, (.take 24 .done))])), (23, (.all [(21, (.take 24 .done))]))]))), (21, (.all [(12, (.take 22 (.all [(23, (.take 24 .done))])))]))]))])), (20, (.all [(7, (.all [(12, (.take 22 (.all [(21, (.all [(23, (.take 24 .done))])), (23, (.all [(21, (.take 24 .done))]))]))), (21, (.all [(12, (.take 22 (.all [(23, (.take 24 .done))])))]))])), (21, (.all [(7, (.all [(12, (.take 22 (.all [(23, (.take 24 .done))])))]))]))]))])), (20, (.all [(7, (.all [(11, (.all [(12, (.take 22 (.all [(21, (.all [(23, (.take 24 .done))])), (23, (.all [(21, (.take 24 .done))]))]))), (21, (.all [(12, (.take 22 (.all [(23, (.take 24 .done))])))]))])), (21, (.all [(11, (.all [(12, (.take 22 (.all [(23, (.take 24 .done))])))]))]))])), (11, (.all [(7, (.all [(12, (.take 22 (.all [(21, (.all [(23, (.take 24 .done))])), (23, (.all [(21, (.take 24 .done))]))]))), (21, (.all [(12, (.take 22 (.all [(23, (.take 24 .done))])))]))])), (21, (.all [(7, (.all [(12, (.take 22 (.all [(23, (.take 24 .done))])))]))]))])), (21, (.all [(7, (.all [(11, (.all [(12, (.take 22 (.all [(23, (.take 24 .done))])))]))])), (11, (.all [(7, (.all [(12, (.take 22 (.all [(23, (.take 24 .done))])))]))]))]))]))])), (20, (.all [(7, (.all [(11, (.all [(12, (.all [(16, (.take 22 (.all [(21, (.all [(23, (.take 24 .done))])), (23, (.all [(21, (.take 24 .done))]))])))])), (16, (.all [(12, (.take 22 (.all [(21, (.all [(23, (.take 24 .done))])), (23, (.all [(21, (.take 24 .done))]))]))), (21, (.all [(12, (.take 22 (.all [(23, (.take 24 .done))])))]))]))])), (16, (.all [(11, (.all [(12, (.take 22 (.all [(21, (.all [(23, (.take 24 .done))])), (23, (.all [(21, (.take 24 .done))]))]))), (21, (.all [(12, (.take 22 (.all [(23, (.take 24 .done))])))]))])), (21, (.all [(11, (.all [(12, (.take 22 (.all [(23, (.take 24 .done))])))]))]))]))])), (11, (.all [(7, (.all [(12, (.all [(16, (.take 22 (.all [(21, (.all [(23, (.take 24 .done))])), (23, (.all [(21, (.take 24 .done))]))])))])), (16, (.all [(12, (.take 22 (.all [(21, (.all [(23, (.take 24 .done))])), (23, (.all [(21, (.take 24 .done))]))]))), (21, (.all [(12, (.take 22 (.all [(23, (.take 24 .done))])))]))]))])), (16, (.all [(7, (.all [(12, (.take 22 (.all [(21, (.all [(23, (.take 24 .done))])), (23, (.all [(21, (.take 24 .done))]))]))), (21, (.all [(12, (.take 22 (.all [(23, (.take 24 .done))])))]))])), (21, (.all [(7, (.all [(12, (.take 22 (.all [(23, (.take 24 .done))])))]))]))]))])), (16, (.all [(7, (.all [(11, (.all [(12, (.take 22 (.all [(21, (.all [(23, (.take 24 .done))])), (23, (.all [(21, (.take 24 .done))]))]))), (21, (.all [(12, (.take 22 (.all [(23, (.take 24 .done))])))]))])), (21, (.all [(11, (.all [(12, (.take 22 (.all [(23, (.take 24 .done))])))]))]))])), (11, (.all [(7, (.all [(12, (.take 22 (.all [(21, (.all [(23, (.take 24 .done))])), (23, (.all [(21, (.take 24 .done))]))]))), (21, (.all [(12, (.take 22 (.all [(23, (.take 24 .done))])))]))])), (21, (.all [(7, (.all [(12, (.take 22 (.all [(23, (.take 24 .done))])))]))]))])), (21, (.all [(7, (.all [(11, (.all [(12, (.take 22 (.all [(23, (.take 24 .done))])))]))])), (11, (.all [(7, (.all [(12, (.take 22 (.all [(23, (.take 24 .done))])))]))]))]))]))]))]) (.all [(25, .done)])))))))))))))))))) (tm, H)).bind fun s' => some (.normal, s') := ev_draw (by kernel_rfl) pl36_16 tm H
end Go.Dv

/- Slices of ints of the call's own; min and max of ints; a map of ints (own work). -/
namespace Go.Dv
open Go.Proofs
set_option maxRecDepth 100000
set_option linter.unusedSimpArgs false
set_option linter.unusedVariables false

theorem ia46 (i k es len cap : Nat) (ex : Bool) (kk : IntKind) (n : Int) : indexAddrA Try.prog 46 (.slice i k es len cap ex) (.int kk n) = if 0 ≤ n ∧ n < len ∧ 1 = es then some (.ptr i (k + n.toNat * es)) else none := by kernel_rfl
theorem ln46 (H : AH) (i k es len cap : Nat) (ex : Bool) : lenA Try.prog 46 H (.slice i k es len cap ex) = some (.int .i64 len) := by kernel_rfl
theorem ln46n (H : AH) : lenA Try.prog 46 H .nilSlice = some (.int .i64 0) := by kernel_rfl
theorem se46 : sliceElem Try.prog 46 = some 3 := by kernel_rfl
theorem z3 : zeroA Try.prog 3 = some (I 0) := by kernel_rfl
theorem by3 : Try.prog.bytesOf 3 = 8 := by kernel_rfl
theorem ce3 : Try.prog.cellsOf 3 = 1 := by kernel_rfl
theorem appT46 : AppT Try.prog 46 (some 46) 3 1 := ⟨by kernel_rfl, ⟨I 0, by kernel_rfl, by kernel_rfl, by simp [AV.cells]⟩, by kernel_rfl, by kernel_rfl⟩

/-- The cells of a list of numbers. -/
def ic (xs : List Nat) : List AV := xs.map fun n : Nat => I n
theorem ic_length (xs : List Nat) : (ic xs).length = xs.length := by simp [ic]
theorem ic_set (xs : List Nat) (j x : Nat) : ic (xs.set j x) = (ic xs).set j (I x) := by simp [ic, List.map_set]
theorem ic_append (xs ys : List Nat) : ic (xs ++ ys) = ic xs ++ ic ys := by simp [ic]
theorem ic_get {xs : List Nat} {j x : Nat} (h : xs[j]? = some x) : (ic xs)[j]? = some (I x) := by simp [ic, h]

def isl (bo n : Nat) (ex : Bool) : AV := .slice bo 0 1 n n ex
theorem isl_len (bo n : Nat) (ex : Bool) (H : AH) : lenA Try.prog 46 H (isl bo n ex) = some (I n) := ln46 H ..
theorem isl_ix {bo n j : Nat} {ex : Bool} (h : j < n) : indexAddrA Try.prog 46 (isl bo n ex) (I j) = some (.ptr bo j) := by
  rw [isl, ia46, if_pos ⟨by omega, by omega, rfl⟩]
  simp
theorem rdI {G : AH} {bo : Nat} {xs : List Nat} (h : G[bo]? = some (.cells (ic xs) 3)) {j x : Nat} (hx : xs[j]? = some x) : rdCells G bo j 1 = some [I x] := by
  have hj := lt_of_get hx
  simp only [rdCells, h]
  rw [if_pos (by rw [ic_length]; omega)]
  have hg := ic_get hx
  rw [List.drop_eq_getElem_cons (by rw [ic_length]; omega)]
  rw [List.getElem?_eq_getElem (by rw [ic_length]; omega)] at hg
  rw [Option.some.inj hg]; rfl
theorem rdI' {G : AH} {bo : Nat} {xs : List Nat} (h : G[bo]? = some (.cells (ic xs) 3)) {j x : Nat} (hx : xs[j]? = some x) (L : AH) : rdCells (G ++ L) bo j 1 = some [I x] := rd_old (rdI h hx) L
theorem wrI {G : AH} {bo : Nat} {xs : List Nat} (h : G[bo]? = some (.cells (ic xs) 3)) {j : Nat} (hj : j < xs.length) (x : Nat) : wrCells G bo j [I x] = some (G.set bo (.cells (ic (xs.set j x)) 3)) := by
  simp only [wrCells, h]
  rw [if_pos ⟨by rw [ic_length]; simp; omega, rfl⟩, ic_set]; rfl
theorem wrI' {G : AH} {bo : Nat} {xs : List Nat} (h : G[bo]? = some (.cells (ic xs) 3)) {j : Nat} (hj : j < xs.length) (x : Nat) (L : AH) : wrCells (G ++ L) bo j [I x] = some (G.set bo (.cells (ic (xs.set j x)) 3) ++ L) := by
  have hl := lt_of_get h
  have h' : (G ++ L)[bo]? = some (.cells (ic xs) 3) := by rw [List.getElem?_append_left hl]; exact h
  rw [wrI h' hj, List.set_append_left _ _ hl]

theorem ic_rep (n : Nat) : ic (List.replicate n 0) = List.replicate n (I 0) := by simp [ic]
theorem mk46 {n : Nat} (hn : n < 2 ^ 40) (H : AH) : makeSliceA Try.prog none 46 (I n) (I n) H = some (isl H.length n true, H ++ [.cells (ic (List.replicate n 0)) 3]) := by
  have hz : zrow [I 0] n = List.replicate n (I 0) := by
    apply List.ext_getElem?
    intro i
    simp only [zrow, List.getElem?_map, List.getElem?_range, List.getElem?_replicate]
    by_cases hi : i < n
    · simp [hi, Nat.mod_one]
    · simp [hi]
  simp only [makeSliceA, se46, Option.bind_some, z3, by3, ce3]
  rw [if_pos ⟨by omega, by omega, by omega, by omega, by simp [AV.cells]⟩]
  simp only [put_none, Option.map_some, Int.toNat_natCast, Nat.mul_one, AV.cells, hz, ic_rep]
  rfl

/-! min and max -/
section
variable {P : Program} {C : Cfg P}
theorem pure2 {o : Oper} {ev : Operand → Option AV} (x y : Operand) (ho : o.op.operands.toList = [x, y]) (h : ev x = none ∨ ev y = none) : pureA P ev o = none := by
  unfold pureA
  rw [ho]
  rcases h with h | h <;> simp [h]
theorem pure_min (ev : Operand → Option AV) (dst : Option Tmp) (ty : TypeId) (pos : String) (after : Array Edge) (g : Option (Nat × Bool)) (x y : Operand) (ats : Array TypeId) {k k' : IntKind} {m n : Int} (hx : ev x = some (.int k m)) (hy : ev y = some (.int k' n)) :
    pureA P ev ⟨dst, .call ⟨.builtin .min, #[x, y], ats⟩, ty, pos, after, g⟩ = some (.val (.int k (if n < m then n else m))) := by
  have e1 : rhoOf ev x = .int k m := by simp [rhoOf, hx, toV]
  have e2 : rhoOf ev y = .int k' n := by simp [rhoOf, hy, toV]
  have hr : pureRun P (execOp (rhoOf ev) ⟨dst, .call ⟨.builtin .min, #[x, y], ats⟩, ty, pos, after, g⟩) = some (.value (.int k (if n < m then n else m))) := by
    simp only [execOp, resolve, List.map_toArray, List.map_cons, List.map_nil, e1, e2]
    rfl
  unfold pureA
  rw [if_pos (by rw [show (Op.call ⟨.builtin .min, #[x, y], ats⟩).operands.toList = [x, y] from rfl]; simp [notSelect, hx, hy, toV]), hr]; rfl
theorem pure_max (ev : Operand → Option AV) (dst : Option Tmp) (ty : TypeId) (pos : String) (after : Array Edge) (g : Option (Nat × Bool)) (x y : Operand) (ats : Array TypeId) {k k' : IntKind} {m n : Int} (hx : ev x = some (.int k m)) (hy : ev y = some (.int k' n)) :
    pureA P ev ⟨dst, .call ⟨.builtin .max, #[x, y], ats⟩, ty, pos, after, g⟩ = some (.val (.int k (if n > m then n else m))) := by
  have e1 : rhoOf ev x = .int k m := by simp [rhoOf, hx, toV]
  have e2 : rhoOf ev y = .int k' n := by simp [rhoOf, hy, toV]
  have hr : pureRun P (execOp (rhoOf ev) ⟨dst, .call ⟨.builtin .max, #[x, y], ats⟩, ty, pos, after, g⟩) = some (.value (.int k (if n > m then n else m))) := by
    simp only [execOp, resolve, List.map_toArray, List.map_cons, List.map_nil, e1, e2]
    rfl
  unfold pureA
  rw [if_pos (by rw [show (Op.call ⟨.builtin .max, #[x, y], ats⟩).operands.toList = [x, y] from rfl]; simp [notSelect, hx, hy, toV]), hr]; rfl

def minI (m n : Int) : Int := if n < m then n else m
def maxI (m n : Int) : Int := if n > m then n else m
theorem callA_min (slot : Option Nat) (ev : Operand → Option AV) (dst : Option Tmp) (ty : TypeId) (pos : String) (after : Array Edge) (g : Option (Nat × Bool)) (H : AH) (x y : Operand) (ats : Array TypeId) :
    callA P C slot ev ⟨dst, .call ⟨.builtin .min, #[x, y], ats⟩, ty, pos, after, g⟩ ⟨.builtin .min, #[x, y], ats⟩ H = (ev x).bind fun a => (ev y).bind fun b => match a, b with
      | .int k m, .int _ n => some (.val (.int k (minI m n)), H)
      | _, _ => (pureA P ev ⟨dst, .call ⟨.builtin .min, #[x, y], ats⟩, ty, pos, after, g⟩).map fun n => (n, H) := by
  unfold callA
  simp only [evL]
  cases hx : ev x with
  | none => rfl
  | some a => cases hy : ev y with
    | none => rfl
    | some b =>
      simp only [Option.bind_some, Option.map_some]
      split
      · rw [pure_min ev dst ty pos after g x y ats hx hy]; rfl
      · rfl
theorem callA_max (slot : Option Nat) (ev : Operand → Option AV) (dst : Option Tmp) (ty : TypeId) (pos : String) (after : Array Edge) (g : Option (Nat × Bool)) (H : AH) (x y : Operand) (ats : Array TypeId) :
    callA P C slot ev ⟨dst, .call ⟨.builtin .max, #[x, y], ats⟩, ty, pos, after, g⟩ ⟨.builtin .max, #[x, y], ats⟩ H = (ev x).bind fun a => (ev y).bind fun b => match a, b with
      | .int k m, .int _ n => some (.val (.int k (maxI m n)), H)
      | _, _ => (pureA P ev ⟨dst, .call ⟨.builtin .max, #[x, y], ats⟩, ty, pos, after, g⟩).map fun n => (n, H) := by
  unfold callA
  simp only [evL]
  cases hx : ev x with
  | none => rfl
  | some a => cases hy : ev y with
    | none => rfl
    | some b =>
      simp only [Option.bind_some, Option.map_some]
      split
      · rw [pure_max ev dst ty pos after g x y ats hx hy]; rfl
      · rfl
end

/-! the map of names -/
noncomputable def dd3 : TypeDesc := (Try.prog.underlying 3).getD default
theorem mt102 : mapTypes Try.prog 102 = some (3, 3) := by kernel_rfl
theorem ask3 (e : Bool) (n : Int) : askA Try.prog 3 e (I n) = some (.int .i64 n, dd3) := by cases e <;> kernel_rfl
theorem sameK3 (a b : Int) : sameK Try.prog 3 dd3 (.int .i64 a) (.int .i64 b) = some (a == b) := by kernel_rfl
/-- the entries: the j-th label has the number j -/
def numE (N : List Nat) : List (AV × AV × Nat) := N.zipIdx.map fun p => (I (p.1 : Nat), I (p.2 : Nat), p.2)
theorem numE_length (N : List Nat) : (numE N).length = N.length := by simp [numE]
theorem find_num (g : Nat) : ∀ (N : List Nat) (n : Nat), findA Try.prog 3 dd3 (.int .i64 g) ((N.zipIdx n).map fun p => (I (p.1 : Nat), I (p.2 : Nat), p.2)) n = some (if g ∈ N then some (n + N.idxOf g, I ((n + N.idxOf g : Nat) : Int)) else none)
  | [], n => by simp [findA]
  | a :: N, n => by
    have ih := find_num g N (n + 1)
    simp only [List.zipIdx_cons, List.map_cons, findA]
    rw [show toV (I (a : Nat)) = some (.int .i64 a) from rfl]
    simp only [Option.bind_some, sameK3]
    by_cases h : g = a
    · subst h; simp [List.idxOf_cons]
    · have hb : (((g : Nat) : Int) == ((a : Nat) : Int)) = false := by simp; omega
      have hb' : (a == g) = false := by simpa using fun e : a = g => h e.symm
      simp only [hb, ih, List.mem_cons, h, false_or, List.idxOf_cons, hb', cond_false]
      by_cases hm : g ∈ N
      · simp only [if_pos hm, show n + 1 + List.idxOf g N = n + (List.idxOf g N + 1) by omega]
      · simp only [if_neg hm]
theorem look_num {H : AH} {i c : Nat} {N : List Nat} (h : H[i]? = some (.map (numE N) c)) (g : Nat) (ok : Bool) :
    lookupA Try.prog 102 (.map i) (I g) ok H = some (if ok then .tuple [I (if g ∈ N then (N.idxOf g : Nat) else 0 : Nat), .bool (decide (g ∈ N))] else I (if g ∈ N then (N.idxOf g : Nat) else 0 : Nat)) := by
  have hf := find_num g N 0
  simp only [lookupA, mt102, Option.bind_some, entriesA, h, ask3]
  rw [show numE N = (N.zipIdx 0).map fun p => (I (p.1 : Nat), I (p.2 : Nat), p.2) from rfl, hf]
  by_cases hm : g ∈ N
  · simp only [if_pos hm, decide_eq_true hm, Option.bind_some, Nat.zero_add]
  · simp only [if_neg hm, decide_eq_false hm, Option.bind_some, z3, Option.map_some]
    cases ok <;> rfl
theorem put_num {H : AH} {i : Nat} {N : List Nat} (h : H[i]? = some (.map (numE N) N.length)) {g : Nat} (hg : g ∉ N) :
    mapPutA Try.prog 102 (.map i) (I g) (I (N.length : Nat)) H = some (H.set i (.map (numE (N ++ [g])) (N ++ [g]).length)) := by
  have hf := find_num g N 0
  rw [if_neg hg] at hf
  simp only [mapPutA, mt102, Option.bind_some, h, ask3]
  rw [show numE N = (N.zipIdx 0).map fun p => (I (p.1 : Nat), I (p.2 : Nat), p.2) from rfl, hf]
  simp [numE, List.zipIdx_append]
theorem len_num {H : AH} {i c : Nat} {N : List Nat} (h : H[i]? = some (.map (numE N) c)) : lenA Try.prog 102 H (.map i) = some (I (N.length : Nat)) := by
  have : lenA Try.prog 102 H (.map i) = (entriesA H (.map i)).map fun es => .int .i64 es.length := by kernel_rfl
  rw [this]
  simp only [entriesA, h, Option.map_some, numE_length]

end Go.Dv

/- race.join (printed by t72.py, own work). -/
namespace Go.Dv
open Go.Proofs
set_option maxRecDepth 100000
set_option linter.unusedSimpArgs false
set_option linter.unusedVariables false
attribute [local congr] bind_congr_first

theorem maxI_lt {i k : Nat} (h : i < k) : maxI (i : Int) (k : Int) = (k : Int) := by simp only [maxI]; rw [if_pos (by omega)]
theorem minI_lt {i k : Nat} (h : i < k) : minI (i : Int) (k : Int) = (i : Int) := by simp only [minI]; rw [if_neg (by omega)]
set_option maxHeartbeats 4000000 in
theorem reg57_0 {G : AH} {tm : List AV} {bo n i k : Nat} {xs : List Nat} {x z : Nat} (hlen : tm.length = 37) (h0 : tm.getD 0 undefA = isl bo n true) (h1 : tm.getD 1 undefA = I i) (h2 : tm.getD 2 undefA = I k) (hik : i < k) (hkn : k < n) (hc : G[bo]? = some (.cells (ic xs) 3)) (hx : xs[i]? = some x) (hz : xs[k]? = some z) :
    ∃ tm', EvC Try.prog C4 d57_0 (tm, G) = some (.normal, (tm', G)) ∧ tm'.length = 37 ∧ tm'.getD 6 undefA = I z ∧ tm'.getD 7 undefA = I x ∧ (∀ t ∈ [0, 1, 2], tm'.getD t undefA = tm.getD t undefA) := by
  have m1 := maxI_lt hik
  have m2 := minI_lt hik
  have i1 : indexAddrA Try.prog 46 (isl bo n true) (I i) = some (.ptr bo i) := isl_ix (by omega)
  have i2 : indexAddrA Try.prog 46 (isl bo n true) (I k) = some (.ptr bo k) := isl_ix hkn
  have r1 := rdI hc hx
  have r2 := rdI hc hz
  have dd := ed57_0
  simp only [d57_0, opsAt, atPath, Try.f57, Option.getD_some] at dd ⊢
  rw [dd]
  simp -implicitDefEqProofs only [hlen, h0, h1, h2, m1, m2, i1, i2, r1, r2, ↓callA_min, ↓callA_max, Bool.not_true, Bool.not_false, Bool.true_and, Bool.and_true, Bool.false_and, Bool.and_false, Bool.true_or, Bool.or_true, Bool.false_or, Bool.or_false, cond_true, cond_false, boolOf_undef, nb, beq_self_eq_true, Bool.and_self, ↓ld36, ↓ld34, ↓ld38, ↓ld89, ↓ld3, ↓st36, ↓st34, ↓st89, ↓st3, z36, z34, z89, fa36_0, fa36_1, fa38_0, fa38_1, boolOf_undef, nb, ↓q_not, ↓aop_lookup, ↓aop_makeFunc, ↓aop_makeMap, ↓aop_mapUpdate, ↓aop_mapEntry, ↓aop_entryStore, ↓aop_buildSlice, ↓aop_extract, ↓EvC_seq, ↓EvC_skip, ↓EvC_exit, ↓EvC_ret, ↓EvC_block, ↓EvC_cond, ↓ev_region, ↓runL_cons, ↓runL_nil, ↓stepO_none, ↓stepO_guard, ↓aop_move, ↓aop_assign, ↓aop_load, ↓aop_store, ↓aop_alloc, ↓aop_box, ↓aop_nilCheck, ↓aop_fieldAddr, ↓aop_field, ↓aop_indexAddr, ↓aop_binOp, ↓aop_pick, ↓aop_extract, ↓aop_buildSlice, ↓aop_slice, ↓aop_not, ↓aop_call, ↓callA_len, ↓callA_append, ev_tmp, ev_const, ofV_int, ofV_bool, ofV_str, ofV_nilSlice, ofV_nilPtr, putA_some, putA_none, gs_self, gs_ne, List.length_set, Option.bind_some, Option.map_some, intBinA, evL, evO, evP, ne_eq, not_false_eq_true, if_true, if_false, reduceCtorEq, ite_true, ite_false, reduceIte, put_app, AV.cells, and_true, true_and, and_self, decide_true, decide_false, ↓yielded_eq, yv_some, boolOf_bool, List.getElem?_toArray, List.getElem?_cons_zero, List.getElem?_cons_succ, Nat.reduceLT, Nat.reduceEqDiff, beq_self_eq_true, Option.some_beq_some, wr_app, wr_app0, rd_app, rd_app0, rdL_here, rdL_next, wrL_here, wrL_next, spl, List.all_cons, List.all_nil, AV.one, Bool.and_self, Bool.true_and, List.drop_zero, List.take_succ_cons, List.take_zero, List.drop_succ_cons, List.head?_cons, Nat.reduceAdd, Nat.reduceLeDiff, List.length_cons, List.length_nil, List.nil_append, List.cons_append, List.set_cons_zero, List.set_cons_succ, Int.toNat_natCast, Nat.add_zero, b_ft, b_tf, Bool.false_eq_true, ↓rp_done, ↓rp_take, ↓rp_all, ↓ra_nil, ↓ra_first, ↓ra_next, ↓quietO_none, ↓quietO_guard, ↓q_move, ↓q_assign, ↓q_pick, ↓q_binOp, ↓q_field, ↓q_fieldAddr, ↓q_indexAddr, ↓q_nilCheck, set_order, keepV_eq, stBeq_self, ↓rp_graft, put_slot, put_slot_app, List.length_append, List.append_assoc, Nat.add_assoc, ↓aop_build, evP, Bool.true_and, Bool.and_true, Bool.false_and, Bool.and_false, Bool.true_or, Bool.or_true, Bool.false_or, Bool.or_false, Bool.not_true, Bool.not_false]
  refine ⟨_, rfl, by simp only [List.length_set, hlen], by simp only [hlen, gs_self, gs_ne, List.length_set, ne_eq, Nat.reduceEqDiff, Nat.reduceLT, not_false_eq_true], by simp only [hlen, gs_self, gs_ne, List.length_set, ne_eq, Nat.reduceEqDiff, Nat.reduceLT, not_false_eq_true], fun t ht => ?_⟩
  simp only [List.mem_cons, List.not_mem_nil, or_false] at ht
  rcases ht with rfl | rfl | rfl <;> simp only [hlen, gs_self, gs_ne, List.length_set, ne_eq, Nat.reduceEqDiff, Nat.reduceLT, not_false_eq_true]

theorem reg57_0' {G : AH} {tm : List AV} {bo n i k : Nat} {xs : List Nat} {x z : Nat} {X : Option (AExit × St)} (hX : EvC Try.prog C4 d57_0 (tm, G) = X) (hlen : tm.length = 37) (h0 : tm.getD 0 undefA = isl bo n true) (h1 : tm.getD 1 undefA = I i) (h2 : tm.getD 2 undefA = I k) (hik : i < k) (hkn : k < n) (hc : G[bo]? = some (.cells (ic xs) 3)) (hx : xs[i]? = some x) (hz : xs[k]? = some z) : ∃ tm', X = some (.normal, (tm', G)) ∧ tm'.length = 37 ∧ tm'.getD 6 undefA = I z ∧ tm'.getD 7 undefA = I x ∧ (∀ t ∈ [0, 1, 2], tm'.getD t undefA = tm.getD t undefA) := by
  subst hX; exact reg57_0 hlen h0 h1 h2 hik hkn hc hx hz

theorem set_sameG {G : AH} {bo : Nat} {c : AObj} (h : G[bo]? = some c) : G.set bo c = G := by
  apply List.ext_getElem?
  intro j
  rw [List.getElem?_set]
  split
  · rename_i e; subst e
    rw [if_pos (lt_of_get h), h]
  · rfl
theorem set_sameN {ys : List Nat} {j y : Nat} (h : ys[j]? = some y) : ys.set j y = ys := by
  apply List.ext_getElem?
  intro q
  rw [List.getElem?_set]
  split
  · rename_i e; subst e
    rw [if_pos (lt_of_get h), h]
  · rfl
theorem sweep {f : Nat → Nat} {ys : List Nat} {j y : Nat} (h : ys[j]? = some y) : (ys.set j (f y)).take (j + 1) ++ ((ys.set j (f y)).drop (j + 1)).map f = ys.take j ++ (ys.drop j).map f := by
  have hj := lt_of_get h
  have h1 : (ys.set j (f y)).drop (j + 1) = ys.drop (j + 1) := by rw [List.drop_set_of_lt (by omega)]
  have h2 : (ys.set j (f y)).take (j + 1) = ys.take j ++ [f y] := by
    rw [List.take_add_one, List.take_set_of_le (by omega), List.getElem?_set_self hj]; rfl
  rw [h1, h2, List.drop_eq_getElem_cons hj]
  rw [List.getElem?_eq_getElem hj] at h
  rw [Option.some.inj h]
  simp

def jf (z x g : Nat) : Nat := if g = z then x else g
theorem join_end {G : AH} {tm : List AV} {n : Nat} (hlen : tm.length = 37) (h23 : tm.getD 23 undefA = I n) (h24 : tm.getD 24 undefA = I n) : ∃ tm', EvC Try.prog C4 l57_0 (tm, G) = some (.exit 0, (tm', G)) ∧ tm'.length = 37 := by
  have hlt : decide ((n : Int) < (n : Int)) = false := by simp
  rw [el57_0]
  simp -implicitDefEqProofs only [b57_0, atPath, Try.f57, Option.getD_some, hlen, h23, h24, hlt, ↓EvC_seq, ↓EvC_skip, ↓EvC_exit, ↓EvC_ret, ↓EvC_block, ↓EvC_cond, ↓ev_region, ↓runL_cons, ↓runL_nil, ↓stepO_none, ↓stepO_guard, ↓aop_move, ↓aop_assign, ↓aop_load, ↓aop_store, ↓aop_alloc, ↓aop_box, ↓aop_nilCheck, ↓aop_fieldAddr, ↓aop_field, ↓aop_indexAddr, ↓aop_binOp, ↓aop_pick, ↓aop_extract, ↓aop_buildSlice, ↓aop_slice, ↓aop_not, ↓aop_call, ↓callA_len, ↓callA_append, ev_tmp, ev_const, ofV_int, ofV_bool, ofV_str, ofV_nilSlice, ofV_nilPtr, putA_some, putA_none, gs_self, gs_ne, List.length_set, Option.bind_some, Option.map_some, intBinA, evL, evO, evP, ne_eq, not_false_eq_true, if_true, if_false, reduceCtorEq, ite_true, ite_false, reduceIte, put_app, AV.cells, and_true, true_and, and_self, decide_true, decide_false, ↓yielded_eq, yv_some, boolOf_bool, List.getElem?_toArray, List.getElem?_cons_zero, List.getElem?_cons_succ, Nat.reduceLT, Nat.reduceEqDiff, beq_self_eq_true, Option.some_beq_some, wr_app, wr_app0, rd_app, rd_app0, rdL_here, rdL_next, wrL_here, wrL_next, spl, List.all_cons, List.all_nil, AV.one, Bool.and_self, Bool.true_and, List.drop_zero, List.take_succ_cons, List.take_zero, List.drop_succ_cons, List.head?_cons, Nat.reduceAdd, Nat.reduceLeDiff, List.length_cons, List.length_nil, List.nil_append, List.cons_append, List.set_cons_zero, List.set_cons_succ, Int.toNat_natCast, Nat.add_zero, b_ft, b_tf, Bool.false_eq_true]
  exact ⟨_, rfl, by simp only [List.length_set, hlen]⟩
theorem join_loop {bo n z x : Nat} (hn : n < 2 ^ 40) : ∀ (d j : Nat) (tm : List AV) (ys : List Nat) (G : AH), n - j = d → j ≤ n → ys.length = n → G[bo]? = some (.cells (ic ys) 3) →
    tm.length = 37 → tm.getD 0 undefA = isl bo n true → tm.getD 6 undefA = I z → tm.getD 7 undefA = I x → tm.getD 22 undefA = isl bo n true → tm.getD 23 undefA = I n → tm.getD 24 undefA = I j →
    ∃ tm', EvC Try.prog C4 l57_0 (tm, G) = some (.exit 0, (tm', G.set bo (.cells (ic (ys.take j ++ (ys.drop j).map (jf z x))) 3))) ∧ tm'.length = 37 := by
  intro d
  induction d with
  | zero =>
    intro j tm ys G hd hj hl hc hlen h0 h6 h7 h22 h23 h24
    obtain rfl : j = n := by omega
    obtain ⟨tm', he, hl'⟩ := join_end (G := G) hlen h23 h24
    refine ⟨tm', ?_, hl'⟩
    rw [List.take_of_length_le (by omega), List.drop_of_length_le (by omega), List.map_nil, List.append_nil, set_sameG hc]
    exact he
  | succ d ih =>
    intro j tm ys G hd hj hl hc hlen h0 h6 h7 h22 h23 h24
    obtain ⟨y, hy⟩ : ∃ y, ys[j]? = some y := ⟨_, List.getElem?_eq_getElem (by omega)⟩
    have hlt : decide ((j : Int) < (n : Int)) = true := by simp; omega
    have hw : IntKind.i64.wrap ((j : Int) + 1) = ((j + 1 : Nat) : Int) := by rw [IntWalk.i64_in _ (by omega)]; omega
    have i1 : indexAddrA Try.prog 46 (isl bo n true) (I j) = some (.ptr bo j) := isl_ix (by omega)
    have r1 := rdI hc hy
    have w1 := wrI hc (j := j) (by omega) x
    have key : ∃ tm1, EvC Try.prog C4 l57_0 (tm, G) = EvC Try.prog C4 l57_0 (tm1, G.set bo (.cells (ic (ys.set j (jf z x y))) 3)) ∧ tm1.length = 37 ∧ tm1.getD 24 undefA = I ((j + 1 : Nat) : Int) ∧ (∀ t ∈ [0, 6, 7, 22, 23], tm1.getD t undefA = tm.getD t undefA) := by
      rw [el57_0]
      by_cases hyz : y = z
      · have hb : (((y : Nat) : Int) == ((z : Nat) : Int)) = true := by simp [hyz]
        rw [show jf z x y = x by simp [jf, hyz]]
        simp -implicitDefEqProofs only [b57_0, atPath, Try.f57, Option.getD_some, hlen, h0, h6, h7, h22, h23, h24, hlt, i1, r1, hb, w1, hw, Bool.not_true, Bool.not_false, Bool.true_and, Bool.and_true, Bool.false_and, Bool.and_false, Bool.true_or, Bool.or_true, Bool.false_or, Bool.or_false, cond_true, cond_false, boolOf_undef, nb, beq_self_eq_true, Bool.and_self, ↓ld36, ↓ld34, ↓ld38, ↓ld89, ↓ld3, ↓st36, ↓st34, ↓st89, ↓st3, z36, z34, z89, fa36_0, fa36_1, fa38_0, fa38_1, boolOf_undef, nb, ↓EvC_seq, ↓EvC_skip, ↓EvC_exit, ↓EvC_ret, ↓EvC_block, ↓EvC_cond, ↓ev_region, ↓runL_cons, ↓runL_nil, ↓stepO_none, ↓stepO_guard, ↓aop_move, ↓aop_assign, ↓aop_load, ↓aop_store, ↓aop_alloc, ↓aop_box, ↓aop_nilCheck, ↓aop_fieldAddr, ↓aop_field, ↓aop_indexAddr, ↓aop_binOp, ↓aop_pick, ↓aop_extract, ↓aop_buildSlice, ↓aop_slice, ↓aop_not, ↓aop_call, ↓callA_len, ↓callA_append, ev_tmp, ev_const, ofV_int, ofV_bool, ofV_str, ofV_nilSlice, ofV_nilPtr, putA_some, putA_none, gs_self, gs_ne, List.length_set, Option.bind_some, Option.map_some, intBinA, evL, evO, evP, ne_eq, not_false_eq_true, if_true, if_false, reduceCtorEq, ite_true, ite_false, reduceIte, put_app, AV.cells, and_true, true_and, and_self, decide_true, decide_false, ↓yielded_eq, yv_some, boolOf_bool, List.getElem?_toArray, List.getElem?_cons_zero, List.getElem?_cons_succ, Nat.reduceLT, Nat.reduceEqDiff, beq_self_eq_true, Option.some_beq_some, wr_app, wr_app0, rd_app, rd_app0, rdL_here, rdL_next, wrL_here, wrL_next, spl, List.all_cons, List.all_nil, AV.one, Bool.and_self, Bool.true_and, List.drop_zero, List.take_succ_cons, List.take_zero, List.drop_succ_cons, List.head?_cons, Nat.reduceAdd, Nat.reduceLeDiff, List.length_cons, List.length_nil, List.nil_append, List.cons_append, List.set_cons_zero, List.set_cons_succ, Int.toNat_natCast, Nat.add_zero, b_ft, b_tf, Bool.false_eq_true]
        refine ⟨_, rfl, by simp only [List.length_set, hlen], by simp only [hlen, gs_self, gs_ne, List.length_set, ne_eq, Nat.reduceEqDiff, Nat.reduceLT, not_false_eq_true], fun t ht => ?_⟩
        simp only [List.mem_cons, List.not_mem_nil, or_false] at ht
        rcases ht with rfl | rfl | rfl | rfl | rfl <;> simp only [hlen, gs_self, gs_ne, List.length_set, ne_eq, Nat.reduceEqDiff, Nat.reduceLT, not_false_eq_true]

      · have hb : (((y : Nat) : Int) == ((z : Nat) : Int)) = false := by simp; omega
        rw [show jf z x y = y by simp [jf, hyz], set_sameN hy, set_sameG hc]
        simp -implicitDefEqProofs only [b57_0, atPath, Try.f57, Option.getD_some, hlen, h0, h6, h7, h22, h23, h24, hlt, i1, r1, hb, hw, Bool.not_true, Bool.not_false, Bool.true_and, Bool.and_true, Bool.false_and, Bool.and_false, Bool.true_or, Bool.or_true, Bool.false_or, Bool.or_false, cond_true, cond_false, boolOf_undef, nb, beq_self_eq_true, Bool.and_self, ↓ld36, ↓ld34, ↓ld38, ↓ld89, ↓ld3, ↓st36, ↓st34, ↓st89, ↓st3, z36, z34, z89, fa36_0, fa36_1, fa38_0, fa38_1, boolOf_undef, nb, ↓EvC_seq, ↓EvC_skip, ↓EvC_exit, ↓EvC_ret, ↓EvC_block, ↓EvC_cond, ↓ev_region, ↓runL_cons, ↓runL_nil, ↓stepO_none, ↓stepO_guard, ↓aop_move, ↓aop_assign, ↓aop_load, ↓aop_store, ↓aop_alloc, ↓aop_box, ↓aop_nilCheck, ↓aop_fieldAddr, ↓aop_field, ↓aop_indexAddr, ↓aop_binOp, ↓aop_pick, ↓aop_extract, ↓aop_buildSlice, ↓aop_slice, ↓aop_not, ↓aop_call, ↓callA_len, ↓callA_append, ev_tmp, ev_const, ofV_int, ofV_bool, ofV_str, ofV_nilSlice, ofV_nilPtr, putA_some, putA_none, gs_self, gs_ne, List.length_set, Option.bind_some, Option.map_some, intBinA, evL, evO, evP, ne_eq, not_false_eq_true, if_true, if_false, reduceCtorEq, ite_true, ite_false, reduceIte, put_app, AV.cells, and_true, true_and, and_self, decide_true, decide_false, ↓yielded_eq, yv_some, boolOf_bool, List.getElem?_toArray, List.getElem?_cons_zero, List.getElem?_cons_succ, Nat.reduceLT, Nat.reduceEqDiff, beq_self_eq_true, Option.some_beq_some, wr_app, wr_app0, rd_app, rd_app0, rdL_here, rdL_next, wrL_here, wrL_next, spl, List.all_cons, List.all_nil, AV.one, Bool.and_self, Bool.true_and, List.drop_zero, List.take_succ_cons, List.take_zero, List.drop_succ_cons, List.head?_cons, Nat.reduceAdd, Nat.reduceLeDiff, List.length_cons, List.length_nil, List.nil_append, List.cons_append, List.set_cons_zero, List.set_cons_succ, Int.toNat_natCast, Nat.add_zero, b_ft, b_tf, Bool.false_eq_true]
        refine ⟨_, rfl, by simp only [List.length_set, hlen], by simp only [hlen, gs_self, gs_ne, List.length_set, ne_eq, Nat.reduceEqDiff, Nat.reduceLT, not_false_eq_true], fun t ht => ?_⟩
        simp only [List.mem_cons, List.not_mem_nil, or_false] at ht
        rcases ht with rfl | rfl | rfl | rfl | rfl <;> simp only [hlen, gs_self, gs_ne, List.length_set, ne_eq, Nat.reduceEqDiff, Nat.reduceLT, not_false_eq_true]

    obtain ⟨tm1, he, hl1, g24, hk⟩ := key
    have hbo := lt_of_get hc
    obtain ⟨tm', he2, hl'⟩ := ih (j + 1) tm1 (ys.set j (jf z x y)) (G.set bo (.cells (ic (ys.set j (jf z x y))) 3)) (by omega) (by omega) (by simp [hl]) (by rw [List.getElem?_set_self hbo]) hl1 ((hk 0 (by simp)).trans h0) ((hk 6 (by simp)).trans h6) ((hk 7 (by simp)).trans h7) ((hk 22 (by simp)).trans h22) ((hk 23 (by simp)).trans h23) g24
    refine ⟨tm', ?_, hl'⟩
    rw [he, he2, List.set_set, sweep hy]
theorem join_loop' {bo n z x : Nat} {tm : List AV} {ys : List Nat} {G : AH} {X : Option (AExit × St)} (hX : EvC Try.prog C4 l57_0 (tm, G) = X) (hn : n < 2 ^ 40) (hl : ys.length = n) (hc : G[bo]? = some (.cells (ic ys) 3))
    (hlen : tm.length = 37) (h0 : tm.getD 0 undefA = isl bo n true) (h6 : tm.getD 6 undefA = I z) (h7 : tm.getD 7 undefA = I x) (h22 : tm.getD 22 undefA = isl bo n true) (h23 : tm.getD 23 undefA = I n) (h24 : tm.getD 24 undefA = I ((0 : Nat) : Int)) :
    ∃ tm', X = some (.exit 0, (tm', G.set bo (.cells (ic (ys.map (jf z x))) 3))) ∧ tm'.length = 37 := by
  subst hX
  have := join_loop (z := z) (x := x) hn n 0 tm ys G (by omega) (by omega) hl hc hlen h0 h6 h7 h22 h23 h24
  simpa using this

/-- what join makes of the groups -/
def joinS (xs : List Nat) (i k : Nat) : List Nat := xs.map (jf (xs.getD k 0) (xs.getD i 0))
theorem join_ev {G : AH} {bo n i k : Nat} {xs : List Nat} (hn : n < 2 ^ 40) (hl : xs.length = n) (hc : G[bo]? = some (.cells (ic xs) 3)) (hik : i < k) (hkn : k < n) :
    Ev Try.prog C4 57 [isl bo n true, I i, I k] G = some (.tuple [], G.set bo (.cells (ic (joinS xs i k)) 3)) := by
  obtain ⟨x, hx⟩ : ∃ x, xs[i]? = some x := ⟨_, List.getElem?_eq_getElem (by omega)⟩
  obtain ⟨z, hz⟩ : ∃ z, xs[k]? = some z := ⟨_, List.getElem?_eq_getElem (by omega)⟩
  have g0 : ([isl bo n true, I i, I k] ++ List.replicate (37 - [isl bo n true, I i, I k].length) undefA).length = 37 := by simp
  have g1 : ([isl bo n true, I i, I k] ++ List.replicate (37 - [isl bo n true, I i, I k].length) undefA).getD 0 undefA = isl bo n true := rfl
  have g2 : ([isl bo n true, I i, I k] ++ List.replicate (37 - [isl bo n true, I i, I k].length) undefA).getD 1 undefA = I i := rfl
  have g3 : ([isl bo n true, I i, I k] ++ List.replicate (37 - [isl bo n true, I i, I k].length) undefA).getD 2 undefA = I k := rfl
  have hla := isl_len bo n true
  rw [fe57]
  generalize [isl bo n true, I i, I k] ++ List.replicate (37 - [isl bo n true, I i, I k].length) undefA = tm at *
  simp -implicitDefEqProofs only [c57, Try.f57, Option.getD_some, ↓EvC_seq, ↓EvC_skip, ↓EvC_exit, ↓EvC_ret, ↓EvC_block, ↓EvC_cond, ↓ev_region, ↓runL_cons, ↓runL_nil, ↓stepO_none, ↓stepO_guard, ↓aop_move, ↓aop_assign, ↓aop_load, ↓aop_store, ↓aop_alloc, ↓aop_box, ↓aop_nilCheck, ↓aop_fieldAddr, ↓aop_field, ↓aop_indexAddr, ↓aop_binOp, ↓aop_pick, ↓aop_extract, ↓aop_buildSlice, ↓aop_slice, ↓aop_not, ↓aop_call, ↓callA_len, ↓callA_append, ev_tmp, ev_const, ofV_int, ofV_bool, ofV_str, ofV_nilSlice, ofV_nilPtr, putA_some, putA_none, gs_self, gs_ne, List.length_set, Option.bind_some, Option.map_some, intBinA, evL, evO, evP, ne_eq, not_false_eq_true, if_true, if_false, reduceCtorEq, ite_true, ite_false, reduceIte, put_app, AV.cells, and_true, true_and, and_self, decide_true, decide_false, ↓yielded_eq, yv_some, boolOf_bool, List.getElem?_toArray, List.getElem?_cons_zero, List.getElem?_cons_succ, Nat.reduceLT, Nat.reduceEqDiff, beq_self_eq_true, Option.some_beq_some, wr_app, wr_app0, rd_app, rd_app0, rdL_here, rdL_next, wrL_here, wrL_next, spl, List.all_cons, List.all_nil, AV.one, Bool.and_self, Bool.true_and, List.drop_zero, List.take_succ_cons, List.take_zero, List.drop_succ_cons, List.head?_cons, Nat.reduceAdd, Nat.reduceLeDiff, List.length_cons, List.length_nil, List.nil_append, List.cons_append, List.set_cons_zero, List.set_cons_succ, Int.toNat_natCast, Nat.add_zero, b_ft, b_tf, Bool.false_eq_true]
  generalize hX : EvC Try.prog C4 (Code.region 0 _ true) _ = X
  obtain ⟨tm1, he, hl1, g6, g7, hk⟩ := reg57_0' (bo := bo) (n := n) (i := i) (k := k) hX g0 g1 g2 g3 hik hkn hc hx hz
  subst he
  have z0 := hk 0 (by simp)
  rw [g1] at z0
  simp -implicitDefEqProofs only [hl1, z0, hla, ↓EvC_seq, ↓EvC_skip, ↓EvC_exit, ↓EvC_ret, ↓EvC_block, ↓EvC_cond, ↓ev_region, ↓runL_cons, ↓runL_nil, ↓stepO_none, ↓stepO_guard, ↓aop_move, ↓aop_assign, ↓aop_load, ↓aop_store, ↓aop_alloc, ↓aop_box, ↓aop_nilCheck, ↓aop_fieldAddr, ↓aop_field, ↓aop_indexAddr, ↓aop_binOp, ↓aop_pick, ↓aop_extract, ↓aop_buildSlice, ↓aop_slice, ↓aop_not, ↓aop_call, ↓callA_len, ↓callA_append, ev_tmp, ev_const, ofV_int, ofV_bool, ofV_str, ofV_nilSlice, ofV_nilPtr, putA_some, putA_none, gs_self, gs_ne, List.length_set, Option.bind_some, Option.map_some, intBinA, evL, evO, evP, ne_eq, not_false_eq_true, if_true, if_false, reduceCtorEq, ite_true, ite_false, reduceIte, put_app, AV.cells, and_true, true_and, and_self, decide_true, decide_false, ↓yielded_eq, yv_some, boolOf_bool, List.getElem?_toArray, List.getElem?_cons_zero, List.getElem?_cons_succ, Nat.reduceLT, Nat.reduceEqDiff, beq_self_eq_true, Option.some_beq_some, wr_app, wr_app0, rd_app, rd_app0, rdL_here, rdL_next, wrL_here, wrL_next, spl, List.all_cons, List.all_nil, AV.one, Bool.and_self, Bool.true_and, List.drop_zero, List.take_succ_cons, List.take_zero, List.drop_succ_cons, List.head?_cons, Nat.reduceAdd, Nat.reduceLeDiff, List.length_cons, List.length_nil, List.nil_append, List.cons_append, List.set_cons_zero, List.set_cons_succ, Int.toNat_natCast, Nat.add_zero, b_ft, b_tf, Bool.false_eq_true]
  generalize hX : EvC Try.prog C4 (Code.loop _) _ = X
  obtain ⟨tm2, he, hl2⟩ := join_loop' (bo := bo) (n := n) (z := z) (x := x) hX hn hl hc (by simp only [List.length_set, hl1]) (by simp only [hl1, z0, gs_self, gs_ne, List.length_set, ne_eq, Nat.reduceEqDiff, Nat.reduceLT, not_false_eq_true]) (by simp only [hl1, g6, gs_self, gs_ne, List.length_set, ne_eq, Nat.reduceEqDiff, Nat.reduceLT, not_false_eq_true]) (by simp only [hl1, g7, gs_self, gs_ne, List.length_set, ne_eq, Nat.reduceEqDiff, Nat.reduceLT, not_false_eq_true]) (by simp only [hl1, gs_self, gs_ne, List.length_set, ne_eq, Nat.reduceEqDiff, Nat.reduceLT, not_false_eq_true]) (by simp only [hl1, gs_self, gs_ne, List.length_set, ne_eq, Nat.reduceEqDiff, Nat.reduceLT, not_false_eq_true]) (by simp only [hl1, gs_self, gs_ne, List.length_set, ne_eq, Nat.reduceEqDiff, Nat.reduceLT, not_false_eq_true] <;> rfl)
  subst he
  have e1 : xs.getD k 0 = z := by rw [List.getD_eq_getElem?_getD, hz]; rfl
  have e2 : xs.getD i 0 = x := by rw [List.getD_eq_getElem?_getD, hx]; rfl
  rw [joinS, e1, e2]
  simp -implicitDefEqProofs only [↓EvC_seq, ↓EvC_skip, ↓EvC_exit, ↓EvC_ret, ↓EvC_block, ↓EvC_cond, ↓ev_region, ↓runL_cons, ↓runL_nil, ↓stepO_none, ↓stepO_guard, ↓aop_move, ↓aop_assign, ↓aop_load, ↓aop_store, ↓aop_alloc, ↓aop_box, ↓aop_nilCheck, ↓aop_fieldAddr, ↓aop_field, ↓aop_indexAddr, ↓aop_binOp, ↓aop_pick, ↓aop_extract, ↓aop_buildSlice, ↓aop_slice, ↓aop_not, ↓aop_call, ↓callA_len, ↓callA_append, ev_tmp, ev_const, ofV_int, ofV_bool, ofV_str, ofV_nilSlice, ofV_nilPtr, putA_some, putA_none, gs_self, gs_ne, List.length_set, Option.bind_some, Option.map_some, intBinA, evL, evO, evP, ne_eq, not_false_eq_true, if_true, if_false, reduceCtorEq, ite_true, ite_false, reduceIte, put_app, AV.cells, and_true, true_and, and_self, decide_true, decide_false, ↓yielded_eq, yv_some, boolOf_bool, List.getElem?_toArray, List.getElem?_cons_zero, List.getElem?_cons_succ, Nat.reduceLT, Nat.reduceEqDiff, beq_self_eq_true, Option.some_beq_some, wr_app, wr_app0, rd_app, rd_app0, rdL_here, rdL_next, wrL_here, wrL_next, spl, List.all_cons, List.all_nil, AV.one, Bool.and_self, Bool.true_and, List.drop_zero, List.take_succ_cons, List.take_zero, List.drop_succ_cons, List.head?_cons, Nat.reduceAdd, Nat.reduceLeDiff, List.length_cons, List.length_nil, List.nil_append, List.cons_append, List.set_cons_zero, List.set_cons_succ, Int.toNat_natCast, Nat.add_zero, b_ft, b_tf, Bool.false_eq_true]

end Go.Dv

/- race.Groups: the loops that join (printed by t73.py, own work). -/
namespace Go.Dv
open Go.Proofs
set_option maxRecDepth 100000
set_option linter.unusedSimpArgs false
set_option linter.unusedVariables false
attribute [local congr] bind_congr_first

theorem k4_clash (H : AH) (sp bl ce th ki ph sp' bl' ce' th' ki' ph' : Int) : Ev Try.prog C4 47 [evt sp bl ce th ki ph, evt sp' bl' ce' th' ki' ph'] H = some (.bool (clashB bl th ki ph bl' th' ki' ph'), H) := Ev_orc rfl
set_option maxHeartbeats 8000000 in
theorem reg35_15 {G : AH} {tm : List AV} {bo n i k ix iy p q : Nat} {xs : List Nat} {x y : E6} (hlen : tm.length = 104) (h4 : tm.getD 4 undefA = isl bo n true) (h6 : tm.getD 6 undefA = I k) (h7 : tm.getD 7 undefA = .ptr iy 0) (h8 : tm.getD 8 undefA = I i) (h9 : tm.getD 9 undefA = .ptr ix 0) (hin : i < n) (hkn : k < n) (hc : G[bo]? = some (.cells (ic xs) 3)) (hp : xs[i]? = some p) (hq : xs[k]? = some q)
    (hx : rdCells G ix 0 6 = some x.cells) (hy : rdCells G iy 0 6 = some y.cells) :
    ∃ tm', EvC Try.prog C4 d35_15 (tm, G) = some (.normal, (tm', G)) ∧ tm'.length = 104 ∧ tm'.getD 69 undefA = .bool (((p : Int) != (q : Int)) && x.race y) ∧ (∀ t ∈ [0, 4, 6, 7, 8, 31, 32, 33, 40, 41, 42], tm'.getD t undefA = tm.getD t undefA) := by
  have i1 : indexAddrA Try.prog 46 (isl bo n true) (I i) = some (.ptr bo i) := isl_ix hin
  have i2 : indexAddrA Try.prog 46 (isl bo n true) (I k) = some (.ptr bo k) := isl_ix hkn
  have r1 := rdI hc hp
  have r2 := rdI hc hq
  have hx6 : rdCells G ix 0 6 = some [I x.sp, I x.bl, I x.ce, I x.th, I x.ki, I x.ph] := hx
  have hy6 : rdCells G iy 0 6 = some [I y.sp, I y.bl, I y.ce, I y.th, I y.ki, I y.ph] := hy
  have hx5 : rdCells G ix 0 5 = some [I x.sp, I x.bl, I x.ce, I x.th, I x.ki] := by have := rd5 hx []; rwa [List.append_nil] at this
  have hy5 : rdCells G iy 0 5 = some [I y.sp, I y.bl, I y.ce, I y.th, I y.ki] := by have := rd5 hy []; rwa [List.append_nil] at this
  rw [← spot_clash x y]
  have dd := ed35_15
  simp only [d35_15, opsAt, atPath, Try.f35, Option.getD_some] at dd ⊢
  rw [dd]
  cases hb : ((p : Int) != (q : Int))
  · simp -implicitDefEqProofs only [hlen, h4, h6, h7, h8, h9, i1, i2, r1, r2, hb, Bool.not_true, Bool.not_false, Bool.true_and, Bool.and_true, Bool.false_and, Bool.and_false, Bool.true_or, Bool.or_true, Bool.false_or, Bool.or_false, cond_true, cond_false, boolOf_undef, nb, beq_self_eq_true, Bool.and_self, ↓ld36, ↓ld34, ↓ld38, ↓ld89, ↓ld3, ↓st36, ↓st34, ↓st89, ↓st3, z36, z34, z89, fa36_0, fa36_1, fa38_0, fa38_1, boolOf_undef, nb, ↓q_not, ↓aop_lookup, ↓aop_makeFunc, ↓aop_makeMap, ↓aop_mapUpdate, ↓aop_mapEntry, ↓aop_entryStore, ↓aop_buildSlice, ↓aop_extract, ↓EvC_seq, ↓EvC_skip, ↓EvC_exit, ↓EvC_ret, ↓EvC_block, ↓EvC_cond, ↓ev_region, ↓runL_cons, ↓runL_nil, ↓stepO_none, ↓stepO_guard, ↓aop_move, ↓aop_assign, ↓aop_load, ↓aop_store, ↓aop_alloc, ↓aop_box, ↓aop_nilCheck, ↓aop_fieldAddr, ↓aop_field, ↓aop_indexAddr, ↓aop_binOp, ↓aop_pick, ↓aop_extract, ↓aop_buildSlice, ↓aop_slice, ↓aop_not, ↓aop_call, ↓callA_len, ↓callA_append, ev_tmp, ev_const, ofV_int, ofV_bool, ofV_str, ofV_nilSlice, ofV_nilPtr, putA_some, putA_none, gs_self, gs_ne, List.length_set, Option.bind_some, Option.map_some, intBinA, evL, evO, evP, ne_eq, not_false_eq_true, if_true, if_false, reduceCtorEq, ite_true, ite_false, reduceIte, put_app, AV.cells, and_true, true_and, and_self, decide_true, decide_false, ↓yielded_eq, yv_some, boolOf_bool, List.getElem?_toArray, List.getElem?_cons_zero, List.getElem?_cons_succ, Nat.reduceLT, Nat.reduceEqDiff, beq_self_eq_true, Option.some_beq_some, wr_app, wr_app0, rd_app, rd_app0, rdL_here, rdL_next, wrL_here, wrL_next, spl, List.all_cons, List.all_nil, AV.one, Bool.and_self, Bool.true_and, List.drop_zero, List.take_succ_cons, List.take_zero, List.drop_succ_cons, List.head?_cons, Nat.reduceAdd, Nat.reduceLeDiff, List.length_cons, List.length_nil, List.nil_append, List.cons_append, List.set_cons_zero, List.set_cons_succ, Int.toNat_natCast, Nat.add_zero, b_ft, b_tf, Bool.false_eq_true, ↓rp_done, ↓rp_take, ↓rp_all, ↓ra_nil, ↓ra_first, ↓ra_next, ↓quietO_none, ↓quietO_guard, ↓q_move, ↓q_assign, ↓q_pick, ↓q_binOp, ↓q_field, ↓q_fieldAddr, ↓q_indexAddr, ↓q_nilCheck, set_order, keepV_eq, stBeq_self, ↓rp_graft, put_slot, put_slot_app, List.length_append, List.append_assoc, Nat.add_assoc, ↓aop_build, evP, Bool.true_and, Bool.and_true, Bool.false_and, Bool.and_false, Bool.true_or, Bool.or_true, Bool.false_or, Bool.or_false, Bool.not_true, Bool.not_false]
    refine ⟨_, rfl, by simp only [List.length_set, hlen], by simp only [hlen, gs_self, gs_ne, List.length_set, ne_eq, Nat.reduceEqDiff, Nat.reduceLT, not_false_eq_true], fun t ht => ?_⟩
    simp only [List.mem_cons, List.not_mem_nil, or_false] at ht
    rcases ht with rfl | rfl | rfl | rfl | rfl | rfl | rfl | rfl | rfl | rfl | rfl <;> simp only [hlen, gs_self, gs_ne, List.length_set, ne_eq, Nat.reduceEqDiff, Nat.reduceLT, not_false_eq_true]

  · cases hs : x.spotEq y
    · have hs' : spotEqB x.sp (bif decide (x.sp < 0) then x.bl else 0) x.ce y.sp (bif decide (y.sp < 0) then y.bl else 0) y.ce = false := hs
      simp -implicitDefEqProofs only [hlen, h4, h6, h7, h8, h9, i1, i2, r1, r2, hb, hx5, hy5, hs', k4_cell, eqa89, ↓fc44, Bool.not_true, Bool.not_false, Bool.true_and, Bool.and_true, Bool.false_and, Bool.and_false, Bool.true_or, Bool.or_true, Bool.false_or, Bool.or_false, cond_true, cond_false, boolOf_undef, nb, beq_self_eq_true, Bool.and_self, ↓ld36, ↓ld34, ↓ld38, ↓ld89, ↓ld3, ↓st36, ↓st34, ↓st89, ↓st3, z36, z34, z89, fa36_0, fa36_1, fa38_0, fa38_1, boolOf_undef, nb, ↓q_not, ↓aop_lookup, ↓aop_makeFunc, ↓aop_makeMap, ↓aop_mapUpdate, ↓aop_mapEntry, ↓aop_entryStore, ↓aop_buildSlice, ↓aop_extract, ↓EvC_seq, ↓EvC_skip, ↓EvC_exit, ↓EvC_ret, ↓EvC_block, ↓EvC_cond, ↓ev_region, ↓runL_cons, ↓runL_nil, ↓stepO_none, ↓stepO_guard, ↓aop_move, ↓aop_assign, ↓aop_load, ↓aop_store, ↓aop_alloc, ↓aop_box, ↓aop_nilCheck, ↓aop_fieldAddr, ↓aop_field, ↓aop_indexAddr, ↓aop_binOp, ↓aop_pick, ↓aop_extract, ↓aop_buildSlice, ↓aop_slice, ↓aop_not, ↓aop_call, ↓callA_len, ↓callA_append, ev_tmp, ev_const, ofV_int, ofV_bool, ofV_str, ofV_nilSlice, ofV_nilPtr, putA_some, putA_none, gs_self, gs_ne, List.length_set, Option.bind_some, Option.map_some, intBinA, evL, evO, evP, ne_eq, not_false_eq_true, if_true, if_false, reduceCtorEq, ite_true, ite_false, reduceIte, put_app, AV.cells, and_true, true_and, and_self, decide_true, decide_false, ↓yielded_eq, yv_some, boolOf_bool, List.getElem?_toArray, List.getElem?_cons_zero, List.getElem?_cons_succ, Nat.reduceLT, Nat.reduceEqDiff, beq_self_eq_true, Option.some_beq_some, wr_app, wr_app0, rd_app, rd_app0, rdL_here, rdL_next, wrL_here, wrL_next, spl, List.all_cons, List.all_nil, AV.one, Bool.and_self, Bool.true_and, List.drop_zero, List.take_succ_cons, List.take_zero, List.drop_succ_cons, List.head?_cons, Nat.reduceAdd, Nat.reduceLeDiff, List.length_cons, List.length_nil, List.nil_append, List.cons_append, List.set_cons_zero, List.set_cons_succ, Int.toNat_natCast, Nat.add_zero, b_ft, b_tf, Bool.false_eq_true, ↓rp_done, ↓rp_take, ↓rp_all, ↓ra_nil, ↓ra_first, ↓ra_next, ↓quietO_none, ↓quietO_guard, ↓q_move, ↓q_assign, ↓q_pick, ↓q_binOp, ↓q_field, ↓q_fieldAddr, ↓q_indexAddr, ↓q_nilCheck, set_order, keepV_eq, stBeq_self, ↓rp_graft, put_slot, put_slot_app, List.length_append, List.append_assoc, Nat.add_assoc, ↓aop_build, evP, Bool.true_and, Bool.and_true, Bool.false_and, Bool.and_false, Bool.true_or, Bool.or_true, Bool.false_or, Bool.or_false, Bool.not_true, Bool.not_false]
      refine ⟨_, rfl, by simp only [List.length_set, hlen], by simp only [hlen, gs_self, gs_ne, List.length_set, ne_eq, Nat.reduceEqDiff, Nat.reduceLT, not_false_eq_true], fun t ht => ?_⟩
      simp only [List.mem_cons, List.not_mem_nil, or_false] at ht
      rcases ht with rfl | rfl | rfl | rfl | rfl | rfl | rfl | rfl | rfl | rfl | rfl <;> simp only [hlen, gs_self, gs_ne, List.length_set, ne_eq, Nat.reduceEqDiff, Nat.reduceLT, not_false_eq_true]

    · have hs' : spotEqB x.sp (bif decide (x.sp < 0) then x.bl else 0) x.ce y.sp (bif decide (y.sp < 0) then y.bl else 0) y.ce = true := hs
      have hk : Ev Try.prog C4 47 [evt x.sp x.bl x.ce x.th x.ki x.ph, evt y.sp y.bl y.ce y.th y.ki y.ph] G = some (.bool (x.clash y), G) := k4_clash ..
      simp -implicitDefEqProofs only [hlen, h4, h6, h7, h8, h9, i1, i2, r1, r2, hb, hx5, hy5, hx6, hy6, hs', hk, k4_cell, eqa89, ↓fc44, ↓fc47, Bool.not_true, Bool.not_false, Bool.true_and, Bool.and_true, Bool.false_and, Bool.and_false, Bool.true_or, Bool.or_true, Bool.false_or, Bool.or_false, cond_true, cond_false, boolOf_undef, nb, beq_self_eq_true, Bool.and_self, ↓ld36, ↓ld34, ↓ld38, ↓ld89, ↓ld3, ↓st36, ↓st34, ↓st89, ↓st3, z36, z34, z89, fa36_0, fa36_1, fa38_0, fa38_1, boolOf_undef, nb, ↓q_not, ↓aop_lookup, ↓aop_makeFunc, ↓aop_makeMap, ↓aop_mapUpdate, ↓aop_mapEntry, ↓aop_entryStore, ↓aop_buildSlice, ↓aop_extract, ↓EvC_seq, ↓EvC_skip, ↓EvC_exit, ↓EvC_ret, ↓EvC_block, ↓EvC_cond, ↓ev_region, ↓runL_cons, ↓runL_nil, ↓stepO_none, ↓stepO_guard, ↓aop_move, ↓aop_assign, ↓aop_load, ↓aop_store, ↓aop_alloc, ↓aop_box, ↓aop_nilCheck, ↓aop_fieldAddr, ↓aop_field, ↓aop_indexAddr, ↓aop_binOp, ↓aop_pick, ↓aop_extract, ↓aop_buildSlice, ↓aop_slice, ↓aop_not, ↓aop_call, ↓callA_len, ↓callA_append, ev_tmp, ev_const, ofV_int, ofV_bool, ofV_str, ofV_nilSlice, ofV_nilPtr, putA_some, putA_none, gs_self, gs_ne, List.length_set, Option.bind_some, Option.map_some, intBinA, evL, evO, evP, ne_eq, not_false_eq_true, if_true, if_false, reduceCtorEq, ite_true, ite_false, reduceIte, put_app, AV.cells, and_true, true_and, and_self, decide_true, decide_false, ↓yielded_eq, yv_some, boolOf_bool, List.getElem?_toArray, List.getElem?_cons_zero, List.getElem?_cons_succ, Nat.reduceLT, Nat.reduceEqDiff, beq_self_eq_true, Option.some_beq_some, wr_app, wr_app0, rd_app, rd_app0, rdL_here, rdL_next, wrL_here, wrL_next, spl, List.all_cons, List.all_nil, AV.one, Bool.and_self, Bool.true_and, List.drop_zero, List.take_succ_cons, List.take_zero, List.drop_succ_cons, List.head?_cons, Nat.reduceAdd, Nat.reduceLeDiff, List.length_cons, List.length_nil, List.nil_append, List.cons_append, List.set_cons_zero, List.set_cons_succ, Int.toNat_natCast, Nat.add_zero, b_ft, b_tf, Bool.false_eq_true, ↓rp_done, ↓rp_take, ↓rp_all, ↓ra_nil, ↓ra_first, ↓ra_next, ↓quietO_none, ↓quietO_guard, ↓q_move, ↓q_assign, ↓q_pick, ↓q_binOp, ↓q_field, ↓q_fieldAddr, ↓q_indexAddr, ↓q_nilCheck, set_order, keepV_eq, stBeq_self, ↓rp_graft, put_slot, put_slot_app, List.length_append, List.append_assoc, Nat.add_assoc, ↓aop_build, evP, Bool.true_and, Bool.and_true, Bool.false_and, Bool.and_false, Bool.true_or, Bool.or_true, Bool.false_or, Bool.or_false, Bool.not_true, Bool.not_false]
      refine ⟨_, rfl, by simp only [List.length_set, hlen], by simp only [hlen, gs_self, gs_ne, List.length_set, ne_eq, Nat.reduceEqDiff, Nat.reduceLT, not_false_eq_true], fun t ht => ?_⟩
      simp only [List.mem_cons, List.not_mem_nil, or_false] at ht
      rcases ht with rfl | rfl | rfl | rfl | rfl | rfl | rfl | rfl | rfl | rfl | rfl <;> simp only [hlen, gs_self, gs_ne, List.length_set, ne_eq, Nat.reduceEqDiff, Nat.reduceLT, not_false_eq_true]

theorem reg35_15' {G : AH} {tm : List AV} {bo n i k ix iy p q : Nat} {xs : List Nat} {x y : E6} {X : Option (AExit × St)} (hX : EvC Try.prog C4 d35_15 (tm, G) = X) (hlen : tm.length = 104) (h4 : tm.getD 4 undefA = isl bo n true) (h6 : tm.getD 6 undefA = I k) (h7 : tm.getD 7 undefA = .ptr iy 0) (h8 : tm.getD 8 undefA = I i) (h9 : tm.getD 9 undefA = .ptr ix 0) (hin : i < n) (hkn : k < n) (hc : G[bo]? = some (.cells (ic xs) 3)) (hp : xs[i]? = some p) (hq : xs[k]? = some q)
    (hx : rdCells G ix 0 6 = some x.cells) (hy : rdCells G iy 0 6 = some y.cells) : ∃ tm', X = some (.normal, (tm', G)) ∧ tm'.length = 104 ∧ tm'.getD 69 undefA = .bool (((p : Int) != (q : Int)) && x.race y) ∧ (∀ t ∈ [0, 4, 6, 7, 8, 31, 32, 33, 40, 41, 42], tm'.getD t undefA = tm.getD t undefA) := by
  subst hX; exact reg35_15 hlen h4 h6 h7 h8 h9 hin hkn hc hp hq hx hy

/-- A heap that keeps an older one, and holds a list of numbers in a block behind it. -/
structure Nums (H0 G : AH) (bo : Nat) (xs : List Nat) : Prop where
  keep : ∀ j, j < H0.length → G[j]? = H0[j]?
  hb : H0.length ≤ bo
  hc : G[bo]? = some (.cells (ic xs) 3)
theorem Nums.app {H0 G : AH} {bo : Nat} {xs : List Nat} (h : Nums H0 G bo xs) (L : AH) : Nums H0 (G ++ L) bo xs := by
  have hl := lt_of_get h.hc
  have h0 := h.hb
  refine ⟨fun j hj => ?_, h.hb, by rw [List.getElem?_append_left hl]; exact h.hc⟩
  rw [List.getElem?_append_left (by omega)]; exact h.keep j hj
theorem Nums.set {H0 G : AH} {bo : Nat} {xs : List Nat} (h : Nums H0 G bo xs) (ys : List Nat) : Nums H0 (G.set bo (.cells (ic ys) 3)) bo ys := by
  have h0 := h.hb
  refine ⟨fun j hj => ?_, h.hb, by rw [List.getElem?_set_self (lt_of_get h.hc)]⟩
  rw [List.getElem?_set_ne (by omega)]; exact h.keep j hj
theorem rd_set_ne {G : AH} {bo i k m : Nat} {c : AObj} (h : bo ≠ i) : rdCells (G.set bo c) i k m = rdCells G i k m := by
  simp only [rdCells, List.getElem?_set_ne h]

/-- one step of race.Groups -/
def stepG (l : List E6) (k : Nat) (xs : List Nat) (i : Nat) : List Nat := match l[i]?, l[k]? with
  | some x, some y => if (((xs.getD i 0 : Nat) : Int) != ((xs.getD k 0 : Nat) : Int) && x.race y) = true then joinS xs i k else xs
  | _, _ => xs
theorem stepG_len (l : List E6) (k : Nat) (xs : List Nat) (i : Nat) : (stepG l k xs i).length = xs.length := by
  unfold stepG
  split
  · split
    · simp [joinS]
    · rfl
  · rfl
theorem getD_of {xs : List Nat} {i p : Nat} (h : xs[i]? = some p) : xs.getD i 0 = p := by rw [List.getD_eq_getElem?_getD, h]; rfl

set_option maxHeartbeats 4000000 in
theorem gr_round {H0 G : AH} {v' : AV} {l : List E6} {bo n i k iy : Nat} {xs : List Nat} {y : E6} {tm : List AV} (hn : n < 2 ^ 40) (hl : l.length = n) (hkn : k < n) (hik : i < k) (hv : EvS H0 v' (l.take k)) (hI : Nums H0 G bo xs) (hxl : xs.length = n) (hyk : l[k]? = some y)
    (hy : rdCells G iy 0 6 = some y.cells) (hne : bo ≠ iy)
    (hlen : tm.length = 104) (h4 : tm.getD 4 undefA = isl bo n true) (h6 : tm.getD 6 undefA = I k) (h7 : tm.getD 7 undefA = .ptr iy 0) (h40 : tm.getD 40 undefA = v') (h41 : tm.getD 41 undefA = I k) (h42 : tm.getD 42 undefA = I i) :
    ∃ tm1 G1, EvC Try.prog C4 l35_1 (tm, G) = EvC Try.prog C4 l35_1 (tm1, G1) ∧ tm1.length = 104 ∧ tm1.getD 42 undefA = I ((i + 1 : Nat) : Int) ∧ (∀ t ∈ [0, 4, 6, 7, 31, 32, 33, 40, 41], tm1.getD t undefA = tm.getD t undefA) ∧ Nums H0 G1 bo (stepG l k xs i) ∧ rdCells G1 iy 0 6 = some y.cells ∧ G.length ≤ G1.length := by
  obtain ⟨x, hx⟩ : ∃ x, l[i]? = some x := ⟨_, List.getElem?_eq_getElem (by omega)⟩
  have hxt : (l.take k)[i]? = some x := by rw [List.getElem?_take, if_pos hik]; exact hx
  obtain ⟨ie, ke, hi, hr0⟩ := (hv.same hI.keep).evs.ix i x hxt
  have hr : rdCells G ie ke 6 = some [I x.sp, I x.bl, I x.ce, I x.th, I x.ki, I x.ph] := hr0
  obtain ⟨p, hp⟩ : ∃ p, xs[i]? = some p := ⟨_, List.getElem?_eq_getElem (by omega)⟩
  obtain ⟨q, hq⟩ : ∃ q, xs[k]? = some q := ⟨_, List.getElem?_eq_getElem (by omega)⟩
  have hlt : decide ((i : Int) < (k : Int)) = true := by simp; omega
  have hw : IntKind.i64.wrap ((i : Int) + 1) = ((i + 1 : Nat) : Int) := by rw [IntWalk.i64_in _ (by omega)]; omega
  have hrd : ∀ L, rdCells (G ++ L) ie ke 6 = some [I x.sp, I x.bl, I x.ce, I x.th, I x.ki, I x.ph] := fun L => rd_old hr L
  have hH : (tm, G) = (tm, G ++ []) := by simp
  rw [el35_1]
  conv => enter [1, tm1, 1, G1, 1, 1]; rw [hH]
  simp -implicitDefEqProofs only [b35_1, atPath, Try.f35, Option.getD_some, hlen, h40, h41, h42, hlt, hi, hrd, Bool.not_true, Bool.not_false, Bool.true_and, Bool.and_true, Bool.false_and, Bool.and_false, Bool.true_or, Bool.or_true, Bool.false_or, Bool.or_false, cond_true, cond_false, boolOf_undef, nb, beq_self_eq_true, Bool.and_self, ↓ld36, ↓ld34, ↓ld38, ↓ld89, ↓ld3, ↓st36, ↓st34, ↓st89, ↓st3, z36, z34, z89, fa36_0, fa36_1, fa38_0, fa38_1, boolOf_undef, nb, ↓EvC_seq, ↓EvC_skip, ↓EvC_exit, ↓EvC_ret, ↓EvC_block, ↓EvC_cond, ↓ev_region, ↓runL_cons, ↓runL_nil, ↓stepO_none, ↓stepO_guard, ↓aop_move, ↓aop_assign, ↓aop_load, ↓aop_store, ↓aop_alloc, ↓aop_box, ↓aop_nilCheck, ↓aop_fieldAddr, ↓aop_field, ↓aop_indexAddr, ↓aop_binOp, ↓aop_pick, ↓aop_extract, ↓aop_buildSlice, ↓aop_slice, ↓aop_not, ↓aop_call, ↓callA_len, ↓callA_append, ev_tmp, ev_const, ofV_int, ofV_bool, ofV_str, ofV_nilSlice, ofV_nilPtr, putA_some, putA_none, gs_self, gs_ne, List.length_set, Option.bind_some, Option.map_some, intBinA, evL, evO, evP, ne_eq, not_false_eq_true, if_true, if_false, reduceCtorEq, ite_true, ite_false, reduceIte, put_app, AV.cells, and_true, true_and, and_self, decide_true, decide_false, ↓yielded_eq, yv_some, boolOf_bool, List.getElem?_toArray, List.getElem?_cons_zero, List.getElem?_cons_succ, Nat.reduceLT, Nat.reduceEqDiff, beq_self_eq_true, Option.some_beq_some, wr_app, wr_app0, rd_app, rd_app0, rdL_here, rdL_next, wrL_here, wrL_next, spl, List.all_cons, List.all_nil, AV.one, Bool.and_self, Bool.true_and, List.drop_zero, List.take_succ_cons, List.take_zero, List.drop_succ_cons, List.head?_cons, Nat.reduceAdd, Nat.reduceLeDiff, List.length_cons, List.length_nil, List.nil_append, List.cons_append, List.set_cons_zero, List.set_cons_succ, Int.toNat_natCast, Nat.add_zero, b_ft, b_tf, Bool.false_eq_true]
  generalize hX : EvC Try.prog C4 (Code.region 15 _ true) _ = X
  have hI1 := hI.app [.cells [I x.sp, I x.bl, I x.ce, I x.th, I x.ki, I x.ph] 36]
  have hx1 : rdCells (G ++ [.cells [I x.sp, I x.bl, I x.ce, I x.th, I x.ki, I x.ph] 36]) G.length 0 6 = some x.cells := by rw [rd_app0]; rfl
  have hy1 := rd_old hy [.cells [I x.sp, I x.bl, I x.ce, I x.th, I x.ki, I x.ph] 36]
  obtain ⟨tm1, he, hl1, g69, hk⟩ := reg35_15' (bo := bo) (n := n) (i := i) (k := k) (ix := G.length) (iy := iy) hX (by simp only [List.length_set, hlen]) (by simp only [hlen, h4, gs_self, gs_ne, List.length_set, ne_eq, Nat.reduceEqDiff, Nat.reduceLT, not_false_eq_true]) (by simp only [hlen, h6, gs_self, gs_ne, List.length_set, ne_eq, Nat.reduceEqDiff, Nat.reduceLT, not_false_eq_true]) (by simp only [hlen, h7, gs_self, gs_ne, List.length_set, ne_eq, Nat.reduceEqDiff, Nat.reduceLT, not_false_eq_true]) (by simp only [hlen, gs_self, gs_ne, List.length_set, ne_eq, Nat.reduceEqDiff, Nat.reduceLT, not_false_eq_true]) (by simp only [hlen, gs_self, gs_ne, List.length_set, ne_eq, Nat.reduceEqDiff, Nat.reduceLT, not_false_eq_true]) (by omega) hkn hI1.hc hp hq hx1 hy1
  subst he
  have z4 := hk 4 (by simp)
  have z6 := hk 6 (by simp)
  have z8 := hk 8 (by simp)
  have z42 := hk 42 (by simp)
  have z0 := hk 0 (by simp)
  have z7 := hk 7 (by simp)
  have z31 := hk 31 (by simp)
  have z32 := hk 32 (by simp)
  have z33 := hk 33 (by simp)
  have z40 := hk 40 (by simp)
  have z41 := hk 41 (by simp)
  simp only [hlen, h4, h6, h42, gs_self, gs_ne, List.length_set, ne_eq, Nat.reduceEqDiff, Nat.reduceLT, not_false_eq_true] at z0 z4 z6 z7 z8 z31 z32 z33 z40 z41 z42
  have hs : stepG l k xs i = if (((p : Int) != (q : Int)) && x.race y) = true then joinS xs i k else xs := by simp only [stepG, hx, hyk, getD_of hp, getD_of hq]
  cases hb : (((p : Int) != (q : Int)) && x.race y)
  · rw [hb] at g69
    simp -implicitDefEqProofs only [hl1, g69, z42, hw, Bool.not_true, Bool.not_false, Bool.true_and, Bool.and_true, Bool.false_and, Bool.and_false, Bool.true_or, Bool.or_true, Bool.false_or, Bool.or_false, cond_true, cond_false, boolOf_undef, nb, beq_self_eq_true, Bool.and_self, ↓EvC_seq, ↓EvC_skip, ↓EvC_exit, ↓EvC_ret, ↓EvC_block, ↓EvC_cond, ↓ev_region, ↓runL_cons, ↓runL_nil, ↓stepO_none, ↓stepO_guard, ↓aop_move, ↓aop_assign, ↓aop_load, ↓aop_store, ↓aop_alloc, ↓aop_box, ↓aop_nilCheck, ↓aop_fieldAddr, ↓aop_field, ↓aop_indexAddr, ↓aop_binOp, ↓aop_pick, ↓aop_extract, ↓aop_buildSlice, ↓aop_slice, ↓aop_not, ↓aop_call, ↓callA_len, ↓callA_append, ev_tmp, ev_const, ofV_int, ofV_bool, ofV_str, ofV_nilSlice, ofV_nilPtr, putA_some, putA_none, gs_self, gs_ne, List.length_set, Option.bind_some, Option.map_some, intBinA, evL, evO, evP, ne_eq, not_false_eq_true, if_true, if_false, reduceCtorEq, ite_true, ite_false, reduceIte, put_app, AV.cells, and_true, true_and, and_self, decide_true, decide_false, ↓yielded_eq, yv_some, boolOf_bool, List.getElem?_toArray, List.getElem?_cons_zero, List.getElem?_cons_succ, Nat.reduceLT, Nat.reduceEqDiff, beq_self_eq_true, Option.some_beq_some, wr_app, wr_app0, rd_app, rd_app0, rdL_here, rdL_next, wrL_here, wrL_next, spl, List.all_cons, List.all_nil, AV.one, Bool.and_self, Bool.true_and, List.drop_zero, List.take_succ_cons, List.take_zero, List.drop_succ_cons, List.head?_cons, Nat.reduceAdd, Nat.reduceLeDiff, List.length_cons, List.length_nil, List.nil_append, List.cons_append, List.set_cons_zero, List.set_cons_succ, Int.toNat_natCast, Nat.add_zero, b_ft, b_tf, Bool.false_eq_true]
    refine ⟨_, _, rfl, by simp only [List.length_set, hl1], by simp only [hl1, gs_self, gs_ne, List.length_set, ne_eq, Nat.reduceEqDiff, Nat.reduceLT, not_false_eq_true], fun t ht => ?_, by rw [hs, if_neg (by rw [hb]; simp)]; exact hI1, hy1, by simp⟩
    simp only [List.mem_cons, List.not_mem_nil, or_false] at ht
    rcases ht with rfl | rfl | rfl | rfl | rfl | rfl | rfl | rfl | rfl <;> simp only [hl1, z0, z4, z6, z7, z31, z32, z33, z40, z41, h4, h6, gs_self, gs_ne, List.length_set, ne_eq, Nat.reduceEqDiff, Nat.reduceLT, not_false_eq_true]
  · rw [hb] at g69
    have hj := join_ev (i := i) (k := k) hn hxl hI1.hc hik hkn
    simp -implicitDefEqProofs only [hl1, g69, z4, z6, z8, z42, hj, hw, ↓fc57, Bool.not_true, Bool.not_false, Bool.true_and, Bool.and_true, Bool.false_and, Bool.and_false, Bool.true_or, Bool.or_true, Bool.false_or, Bool.or_false, cond_true, cond_false, boolOf_undef, nb, beq_self_eq_true, Bool.and_self, ↓EvC_seq, ↓EvC_skip, ↓EvC_exit, ↓EvC_ret, ↓EvC_block, ↓EvC_cond, ↓ev_region, ↓runL_cons, ↓runL_nil, ↓stepO_none, ↓stepO_guard, ↓aop_move, ↓aop_assign, ↓aop_load, ↓aop_store, ↓aop_alloc, ↓aop_box, ↓aop_nilCheck, ↓aop_fieldAddr, ↓aop_field, ↓aop_indexAddr, ↓aop_binOp, ↓aop_pick, ↓aop_extract, ↓aop_buildSlice, ↓aop_slice, ↓aop_not, ↓aop_call, ↓callA_len, ↓callA_append, ev_tmp, ev_const, ofV_int, ofV_bool, ofV_str, ofV_nilSlice, ofV_nilPtr, putA_some, putA_none, gs_self, gs_ne, List.length_set, Option.bind_some, Option.map_some, intBinA, evL, evO, evP, ne_eq, not_false_eq_true, if_true, if_false, reduceCtorEq, ite_true, ite_false, reduceIte, put_app, AV.cells, and_true, true_and, and_self, decide_true, decide_false, ↓yielded_eq, yv_some, boolOf_bool, List.getElem?_toArray, List.getElem?_cons_zero, List.getElem?_cons_succ, Nat.reduceLT, Nat.reduceEqDiff, beq_self_eq_true, Option.some_beq_some, wr_app, wr_app0, rd_app, rd_app0, rdL_here, rdL_next, wrL_here, wrL_next, spl, List.all_cons, List.all_nil, AV.one, Bool.and_self, Bool.true_and, List.drop_zero, List.take_succ_cons, List.take_zero, List.drop_succ_cons, List.head?_cons, Nat.reduceAdd, Nat.reduceLeDiff, List.length_cons, List.length_nil, List.nil_append, List.cons_append, List.set_cons_zero, List.set_cons_succ, Int.toNat_natCast, Nat.add_zero, b_ft, b_tf, Bool.false_eq_true]
    refine ⟨_, _, rfl, by simp only [List.length_set, hl1], by simp only [hl1, gs_self, gs_ne, List.length_set, ne_eq, Nat.reduceEqDiff, Nat.reduceLT, not_false_eq_true], fun t ht => ?_, by rw [hs, if_pos hb]; exact hI1.set _, by rw [rd_set_ne hne]; exact hy1, by simp⟩
    simp only [List.mem_cons, List.not_mem_nil, or_false] at ht
    rcases ht with rfl | rfl | rfl | rfl | rfl | rfl | rfl | rfl | rfl <;> simp only [hl1, z0, z4, z6, z7, z31, z32, z33, z40, z41, h4, h6, gs_self, gs_ne, List.length_set, ne_eq, Nat.reduceEqDiff, Nat.reduceLT, not_false_eq_true]

end Go.Dv

/- race.Groups, the loops (printed by t74.py, own work). -/
namespace Go.Dv
open Go.Proofs
set_option maxRecDepth 100000
set_option linter.unusedSimpArgs false
set_option linter.unusedVariables false
attribute [local congr] bind_congr_first

theorem gr_in_end {G : AH} {tm : List AV} {k : Nat} (hlen : tm.length = 104) (h41 : tm.getD 41 undefA = I k) (h42 : tm.getD 42 undefA = I k) : ∃ tm', EvC Try.prog C4 l35_1 (tm, G) = some (.exit 4, (tm', G)) ∧ tm'.length = 104 ∧ (∀ t ∈ [0, 4, 6, 7, 31, 32, 33, 40, 41], tm'.getD t undefA = tm.getD t undefA) := by
  have hlt : decide ((k : Int) < (k : Int)) = false := by simp
  rw [el35_1]
  simp -implicitDefEqProofs only [b35_1, atPath, Try.f35, Option.getD_some, hlen, h41, h42, hlt, ↓EvC_seq, ↓EvC_skip, ↓EvC_exit, ↓EvC_ret, ↓EvC_block, ↓EvC_cond, ↓ev_region, ↓runL_cons, ↓runL_nil, ↓stepO_none, ↓stepO_guard, ↓aop_move, ↓aop_assign, ↓aop_load, ↓aop_store, ↓aop_alloc, ↓aop_box, ↓aop_nilCheck, ↓aop_fieldAddr, ↓aop_field, ↓aop_indexAddr, ↓aop_binOp, ↓aop_pick, ↓aop_extract, ↓aop_buildSlice, ↓aop_slice, ↓aop_not, ↓aop_call, ↓callA_len, ↓callA_append, ev_tmp, ev_const, ofV_int, ofV_bool, ofV_str, ofV_nilSlice, ofV_nilPtr, putA_some, putA_none, gs_self, gs_ne, List.length_set, Option.bind_some, Option.map_some, intBinA, evL, evO, evP, ne_eq, not_false_eq_true, if_true, if_false, reduceCtorEq, ite_true, ite_false, reduceIte, put_app, AV.cells, and_true, true_and, and_self, decide_true, decide_false, ↓yielded_eq, yv_some, boolOf_bool, List.getElem?_toArray, List.getElem?_cons_zero, List.getElem?_cons_succ, Nat.reduceLT, Nat.reduceEqDiff, beq_self_eq_true, Option.some_beq_some, wr_app, wr_app0, rd_app, rd_app0, rdL_here, rdL_next, wrL_here, wrL_next, spl, List.all_cons, List.all_nil, AV.one, Bool.and_self, Bool.true_and, List.drop_zero, List.take_succ_cons, List.take_zero, List.drop_succ_cons, List.head?_cons, Nat.reduceAdd, Nat.reduceLeDiff, List.length_cons, List.length_nil, List.nil_append, List.cons_append, List.set_cons_zero, List.set_cons_succ, Int.toNat_natCast, Nat.add_zero, b_ft, b_tf, Bool.false_eq_true]
  refine ⟨_, rfl, by simp only [List.length_set, hlen], fun t ht => ?_⟩
  simp only [List.mem_cons, List.not_mem_nil, or_false] at ht
  rcases ht with rfl | rfl | rfl | rfl | rfl | rfl | rfl | rfl | rfl <;> simp only [hlen, gs_self, gs_ne, List.length_set, ne_eq, Nat.reduceEqDiff, Nat.reduceLT, not_false_eq_true]

def rowG (l : List E6) (k : Nat) (is : List Nat) (xs : List Nat) : List Nat := is.foldl (stepG l k) xs
theorem rowG_len (l : List E6) (k : Nat) : ∀ (is xs : List Nat), (rowG l k is xs).length = xs.length
  | [], xs => rfl
  | i :: is, xs => by rw [rowG, List.foldl_cons]; exact (rowG_len l k is _).trans (stepG_len ..)
theorem range_drop {k i : Nat} (h : i < k) : (List.range k).drop i = i :: (List.range k).drop (i + 1) := by
  rw [List.drop_eq_getElem_cons (by simpa using h)]; simp
theorem gr_inner {H0 : AH} {v' : AV} {l : List E6} {bo n k iy : Nat} {y : E6} (hn : n < 2 ^ 40) (hl : l.length = n) (hkn : k < n) (hv : EvS H0 v' (l.take k)) (hyk : l[k]? = some y) (hne : bo ≠ iy) : ∀ (d i : Nat) (tm : List AV) (xs : List Nat) (G : AH), k - i = d → i ≤ k → Nums H0 G bo xs → xs.length = n → rdCells G iy 0 6 = some y.cells →
    tm.length = 104 → tm.getD 4 undefA = isl bo n true → tm.getD 6 undefA = I k → tm.getD 7 undefA = .ptr iy 0 → tm.getD 40 undefA = v' → tm.getD 41 undefA = I k → tm.getD 42 undefA = I i →
    ∃ tm' G', EvC Try.prog C4 l35_1 (tm, G) = some (.exit 4, (tm', G')) ∧ tm'.length = 104 ∧ (∀ t ∈ [0, 4, 6, 7, 31, 32, 33, 40, 41], tm'.getD t undefA = tm.getD t undefA) ∧ Nums H0 G' bo (rowG l k ((List.range k).drop i) xs) ∧ G.length ≤ G'.length := by
  intro d
  induction d with
  | zero =>
    intro i tm xs G hd hi hI hxl hy hlen h4 h6 h7 h40 h41 h42
    obtain rfl : i = k := by omega
    obtain ⟨tm', he, hl', hk⟩ := gr_in_end (G := G) hlen h41 h42
    exact ⟨tm', G, he, hl', hk, by rw [List.drop_of_length_le (by simp)]; exact hI, Nat.le_refl _⟩
  | succ d ih =>
    intro i tm xs G hd hi hI hxl hy hlen h4 h6 h7 h40 h41 h42
    obtain ⟨tm1, G1, he, hl1, g42, hk, hI1, hy1, hg⟩ := gr_round hn hl hkn (by omega : i < k) hv hI hxl hyk hy hne hlen h4 h6 h7 h40 h41 h42
    obtain ⟨tm', G', he2, hl', hk', hI', hg'⟩ := ih (i + 1) tm1 _ G1 (by omega) (by omega) hI1 ((stepG_len ..).trans hxl) hy1 hl1 ((hk 4 (by simp)).trans h4) ((hk 6 (by simp)).trans h6) ((hk 7 (by simp)).trans h7) ((hk 40 (by simp)).trans h40) ((hk 41 (by simp)).trans h41) g42
    exact ⟨tm', G', he.trans he2, hl', fun t ht => (hk' t ht).trans (hk t ht), by rw [range_drop (by omega), rowG, List.foldl_cons]; exact hI', by omega⟩
theorem gr_inner' {H0 G : AH} {v' : AV} {l : List E6} {bo n k iy : Nat} {y : E6} {tm : List AV} {xs : List Nat} {X : Option (AExit × St)} (hX : EvC Try.prog C4 l35_1 (tm, G) = X) (hn : n < 2 ^ 40) (hl : l.length = n) (hkn : k < n) (hv : EvS H0 v' (l.take k)) (hyk : l[k]? = some y) (hne : bo ≠ iy)
    (hI : Nums H0 G bo xs) (hxl : xs.length = n) (hy : rdCells G iy 0 6 = some y.cells)
    (hlen : tm.length = 104) (h4 : tm.getD 4 undefA = isl bo n true) (h6 : tm.getD 6 undefA = I k) (h7 : tm.getD 7 undefA = .ptr iy 0) (h40 : tm.getD 40 undefA = v') (h41 : tm.getD 41 undefA = I k) (h42 : tm.getD 42 undefA = I ((0 : Nat) : Int)) :
    ∃ tm' G', X = some (.exit 4, (tm', G')) ∧ tm'.length = 104 ∧ (∀ t ∈ [0, 4, 6, 7, 31, 32, 33, 40, 41], tm'.getD t undefA = tm.getD t undefA) ∧ Nums H0 G' bo (rowG l k (List.range k) xs) ∧ G.length ≤ G'.length := by
  subst hX
  exact gr_inner hn hl hkn hv hyk hne k 0 tm xs G (by omega) (by omega) hI hxl hy hlen h4 h6 h7 h40 h41 h42

set_option maxHeartbeats 4000000 in
theorem gr_out_round {H0 G : AH} {v : AV} {l : List E6} {bo n k : Nat} {xs : List Nat} {tm : List AV} (hn : n < 2 ^ 40) (hl : l.length = n) (hkn : k < n) (hv : EvS H0 v l) (hI : Nums H0 G bo xs) (hxl : xs.length = n)
    (hlen : tm.length = 104) (h0 : tm.getD 0 undefA = v) (h4 : tm.getD 4 undefA = isl bo n true) (h31 : tm.getD 31 undefA = v) (h32 : tm.getD 32 undefA = I n) (h33 : tm.getD 33 undefA = I k) :
    ∃ tm1 G1, EvC Try.prog C4 l35_2 (tm, G) = EvC Try.prog C4 l35_2 (tm1, G1) ∧ tm1.length = 104 ∧ tm1.getD 33 undefA = I ((k + 1 : Nat) : Int) ∧ (∀ t ∈ [0, 4, 31, 32], tm1.getD t undefA = tm.getD t undefA) ∧ Nums H0 G1 bo (rowG l k (List.range k) xs) := by
  obtain ⟨y, hyk⟩ : ∃ y, l[k]? = some y := ⟨_, List.getElem?_eq_getElem (by omega)⟩
  obtain ⟨ie, ke, hi, hr0⟩ := (hv.same hI.keep).evs.ix k y hyk
  obtain ⟨v', hsl, hv'⟩ := hv.pre (n := k) (by omega)
  have hpl : (l.take k).length = k := by simp; omega
  have hla := hv'.evs.len
  rw [hpl] at hla
  have hlt : decide ((k : Int) < (n : Int)) = true := by simp; omega
  have hw : IntKind.i64.wrap ((k : Int) + 1) = ((k + 1 : Nat) : Int) := by rw [IntWalk.i64_in _ (by omega)]; omega
  have hrd : ∀ L, rdCells (G ++ L) ie ke 6 = some [I y.sp, I y.bl, I y.ce, I y.th, I y.ki, I y.ph] := fun L => rd_old hr0 L
  have hH : (tm, G) = (tm, G ++ []) := by simp
  rw [el35_2]
  conv => enter [1, tm1, 1, G1, 1, 1]; rw [hH]
  simp -implicitDefEqProofs only [b35_2, atPath, Try.f35, Option.getD_some, hlen, h0, h31, h32, h33, hlt, hi, hrd, hsl, hla, Bool.not_true, Bool.not_false, Bool.true_and, Bool.and_true, Bool.false_and, Bool.and_false, Bool.true_or, Bool.or_true, Bool.false_or, Bool.or_false, cond_true, cond_false, boolOf_undef, nb, beq_self_eq_true, Bool.and_self, ↓ld36, ↓ld34, ↓ld38, ↓ld89, ↓ld3, ↓st36, ↓st34, ↓st89, ↓st3, z36, z34, z89, fa36_0, fa36_1, fa38_0, fa38_1, boolOf_undef, nb, ↓EvC_seq, ↓EvC_skip, ↓EvC_exit, ↓EvC_ret, ↓EvC_block, ↓EvC_cond, ↓ev_region, ↓runL_cons, ↓runL_nil, ↓stepO_none, ↓stepO_guard, ↓aop_move, ↓aop_assign, ↓aop_load, ↓aop_store, ↓aop_alloc, ↓aop_box, ↓aop_nilCheck, ↓aop_fieldAddr, ↓aop_field, ↓aop_indexAddr, ↓aop_binOp, ↓aop_pick, ↓aop_extract, ↓aop_buildSlice, ↓aop_slice, ↓aop_not, ↓aop_call, ↓callA_len, ↓callA_append, ev_tmp, ev_const, ofV_int, ofV_bool, ofV_str, ofV_nilSlice, ofV_nilPtr, putA_some, putA_none, gs_self, gs_ne, List.length_set, Option.bind_some, Option.map_some, intBinA, evL, evO, evP, ne_eq, not_false_eq_true, if_true, if_false, reduceCtorEq, ite_true, ite_false, reduceIte, put_app, AV.cells, and_true, true_and, and_self, decide_true, decide_false, ↓yielded_eq, yv_some, boolOf_bool, List.getElem?_toArray, List.getElem?_cons_zero, List.getElem?_cons_succ, Nat.reduceLT, Nat.reduceEqDiff, beq_self_eq_true, Option.some_beq_some, wr_app, wr_app0, rd_app, rd_app0, rdL_here, rdL_next, wrL_here, wrL_next, spl, List.all_cons, List.all_nil, AV.one, Bool.and_self, Bool.true_and, List.drop_zero, List.take_succ_cons, List.take_zero, List.drop_succ_cons, List.head?_cons, Nat.reduceAdd, Nat.reduceLeDiff, List.length_cons, List.length_nil, List.nil_append, List.cons_append, List.set_cons_zero, List.set_cons_succ, Int.toNat_natCast, Nat.add_zero, b_ft, b_tf, Bool.false_eq_true]
  generalize hX : EvC Try.prog C4 (Code.loop _) _ = X
  have hI1 := hI.app [.cells [I y.sp, I y.bl, I y.ce, I y.th, I y.ki, I y.ph] 36]
  have hy1 : rdCells (G ++ [.cells [I y.sp, I y.bl, I y.ce, I y.th, I y.ki, I y.ph] 36]) G.length 0 6 = some y.cells := by rw [rd_app0]; rfl
  have hbl := lt_of_get hI.hc
  obtain ⟨tm1, G1, he, hl1, hk, hI2, hg⟩ := gr_inner' (bo := bo) (n := n) (k := k) (iy := G.length) (v' := v') hX hn hl hkn hv' hyk (by omega) hI1 hxl hy1 (by simp only [List.length_set, hlen]) (by simp only [hlen, h4, gs_self, gs_ne, List.length_set, ne_eq, Nat.reduceEqDiff, Nat.reduceLT, not_false_eq_true]) (by simp only [hlen, gs_self, gs_ne, List.length_set, ne_eq, Nat.reduceEqDiff, Nat.reduceLT, not_false_eq_true]) (by simp only [hlen, gs_self, gs_ne, List.length_set, ne_eq, Nat.reduceEqDiff, Nat.reduceLT, not_false_eq_true]) (by simp only [hlen, gs_self, gs_ne, List.length_set, ne_eq, Nat.reduceEqDiff, Nat.reduceLT, not_false_eq_true]) (by simp only [hlen, gs_self, gs_ne, List.length_set, ne_eq, Nat.reduceEqDiff, Nat.reduceLT, not_false_eq_true]) (by simp only [hlen, gs_self, gs_ne, List.length_set, ne_eq, Nat.reduceEqDiff, Nat.reduceLT, not_false_eq_true] <;> rfl)
  subst he
  have z0 := hk 0 (by simp)
  have z4 := hk 4 (by simp)
  have z31 := hk 31 (by simp)
  have z32 := hk 32 (by simp)
  have z33 := hk 33 (by simp)
  simp only [hlen, h0, h4, h31, h32, h33, gs_self, gs_ne, List.length_set, ne_eq, Nat.reduceEqDiff, Nat.reduceLT, not_false_eq_true] at z0 z4 z31 z32 z33
  simp -implicitDefEqProofs only [hl1, z33, hw, ↓EvC_seq, ↓EvC_skip, ↓EvC_exit, ↓EvC_ret, ↓EvC_block, ↓EvC_cond, ↓ev_region, ↓runL_cons, ↓runL_nil, ↓stepO_none, ↓stepO_guard, ↓aop_move, ↓aop_assign, ↓aop_load, ↓aop_store, ↓aop_alloc, ↓aop_box, ↓aop_nilCheck, ↓aop_fieldAddr, ↓aop_field, ↓aop_indexAddr, ↓aop_binOp, ↓aop_pick, ↓aop_extract, ↓aop_buildSlice, ↓aop_slice, ↓aop_not, ↓aop_call, ↓callA_len, ↓callA_append, ev_tmp, ev_const, ofV_int, ofV_bool, ofV_str, ofV_nilSlice, ofV_nilPtr, putA_some, putA_none, gs_self, gs_ne, List.length_set, Option.bind_some, Option.map_some, intBinA, evL, evO, evP, ne_eq, not_false_eq_true, if_true, if_false, reduceCtorEq, ite_true, ite_false, reduceIte, put_app, AV.cells, and_true, true_and, and_self, decide_true, decide_false, ↓yielded_eq, yv_some, boolOf_bool, List.getElem?_toArray, List.getElem?_cons_zero, List.getElem?_cons_succ, Nat.reduceLT, Nat.reduceEqDiff, beq_self_eq_true, Option.some_beq_some, wr_app, wr_app0, rd_app, rd_app0, rdL_here, rdL_next, wrL_here, wrL_next, spl, List.all_cons, List.all_nil, AV.one, Bool.and_self, Bool.true_and, List.drop_zero, List.take_succ_cons, List.take_zero, List.drop_succ_cons, List.head?_cons, Nat.reduceAdd, Nat.reduceLeDiff, List.length_cons, List.length_nil, List.nil_append, List.cons_append, List.set_cons_zero, List.set_cons_succ, Int.toNat_natCast, Nat.add_zero, b_ft, b_tf, Bool.false_eq_true]
  refine ⟨_, _, rfl, by simp only [List.length_set, hl1], by simp only [hl1, gs_self, gs_ne, List.length_set, ne_eq, Nat.reduceEqDiff, Nat.reduceLT, not_false_eq_true], fun t ht => ?_, hI2⟩
  simp only [List.mem_cons, List.not_mem_nil, or_false] at ht
  rcases ht with rfl | rfl | rfl | rfl <;> simp only [hl1, z0, z4, z31, z32, h0, h4, h31, h32, gs_self, gs_ne, List.length_set, ne_eq, Nat.reduceEqDiff, Nat.reduceLT, not_false_eq_true]
theorem gr_out_end {G : AH} {tm : List AV} {n : Nat} (hlen : tm.length = 104) (h32 : tm.getD 32 undefA = I n) (h33 : tm.getD 33 undefA = I n) : ∃ tm', EvC Try.prog C4 l35_2 (tm, G) = some (.exit 2, (tm', G)) ∧ tm'.length = 104 ∧ (∀ t ∈ [0, 4, 31, 32], tm'.getD t undefA = tm.getD t undefA) := by
  have hlt : decide ((n : Int) < (n : Int)) = false := by simp
  rw [el35_2]
  simp -implicitDefEqProofs only [b35_2, atPath, Try.f35, Option.getD_some, hlen, h32, h33, hlt, ↓EvC_seq, ↓EvC_skip, ↓EvC_exit, ↓EvC_ret, ↓EvC_block, ↓EvC_cond, ↓ev_region, ↓runL_cons, ↓runL_nil, ↓stepO_none, ↓stepO_guard, ↓aop_move, ↓aop_assign, ↓aop_load, ↓aop_store, ↓aop_alloc, ↓aop_box, ↓aop_nilCheck, ↓aop_fieldAddr, ↓aop_field, ↓aop_indexAddr, ↓aop_binOp, ↓aop_pick, ↓aop_extract, ↓aop_buildSlice, ↓aop_slice, ↓aop_not, ↓aop_call, ↓callA_len, ↓callA_append, ev_tmp, ev_const, ofV_int, ofV_bool, ofV_str, ofV_nilSlice, ofV_nilPtr, putA_some, putA_none, gs_self, gs_ne, List.length_set, Option.bind_some, Option.map_some, intBinA, evL, evO, evP, ne_eq, not_false_eq_true, if_true, if_false, reduceCtorEq, ite_true, ite_false, reduceIte, put_app, AV.cells, and_true, true_and, and_self, decide_true, decide_false, ↓yielded_eq, yv_some, boolOf_bool, List.getElem?_toArray, List.getElem?_cons_zero, List.getElem?_cons_succ, Nat.reduceLT, Nat.reduceEqDiff, beq_self_eq_true, Option.some_beq_some, wr_app, wr_app0, rd_app, rd_app0, rdL_here, rdL_next, wrL_here, wrL_next, spl, List.all_cons, List.all_nil, AV.one, Bool.and_self, Bool.true_and, List.drop_zero, List.take_succ_cons, List.take_zero, List.drop_succ_cons, List.head?_cons, Nat.reduceAdd, Nat.reduceLeDiff, List.length_cons, List.length_nil, List.nil_append, List.cons_append, List.set_cons_zero, List.set_cons_succ, Int.toNat_natCast, Nat.add_zero, b_ft, b_tf, Bool.false_eq_true]
  refine ⟨_, rfl, by simp only [List.length_set, hlen], fun t ht => ?_⟩
  simp only [List.mem_cons, List.not_mem_nil, or_false] at ht
  rcases ht with rfl | rfl | rfl | rfl <;> simp only [hlen, gs_self, gs_ne, List.length_set, ne_eq, Nat.reduceEqDiff, Nat.reduceLT, not_false_eq_true]

def allG (l : List E6) (ks : List Nat) (xs : List Nat) : List Nat := ks.foldl (fun s k => rowG l k (List.range k) s) xs
theorem gr_outer {H0 : AH} {v : AV} {l : List E6} {bo n : Nat} (hn : n < 2 ^ 40) (hl : l.length = n) (hv : EvS H0 v l) : ∀ (d k : Nat) (tm : List AV) (xs : List Nat) (G : AH), n - k = d → k ≤ n → Nums H0 G bo xs → xs.length = n →
    tm.length = 104 → tm.getD 0 undefA = v → tm.getD 4 undefA = isl bo n true → tm.getD 31 undefA = v → tm.getD 32 undefA = I n → tm.getD 33 undefA = I k →
    ∃ tm' G', EvC Try.prog C4 l35_2 (tm, G) = some (.exit 2, (tm', G')) ∧ tm'.length = 104 ∧ (∀ t ∈ [0, 4, 31, 32], tm'.getD t undefA = tm.getD t undefA) ∧ Nums H0 G' bo (allG l ((List.range n).drop k) xs) ∧ (allG l ((List.range n).drop k) xs).length = n := by
  intro d
  induction d with
  | zero =>
    intro k tm xs G hd hk hI hxl hlen h0 h4 h31 h32 h33
    obtain rfl : k = n := by omega
    obtain ⟨tm', he, hl', hk⟩ := gr_out_end (G := G) hlen h32 h33
    rw [List.drop_of_length_le (by simp)]
    exact ⟨tm', G, he, hl', hk, hI, hxl⟩
  | succ d ih =>
    intro k tm xs G hd hk hI hxl hlen h0 h4 h31 h32 h33
    obtain ⟨tm1, G1, he, hl1, g33, hk, hI1⟩ := gr_out_round hn hl (by omega : k < n) hv hI hxl hlen h0 h4 h31 h32 h33
    obtain ⟨tm', G', he2, hl', hk', hI', hx'⟩ := ih (k + 1) tm1 _ G1 (by omega) (by omega) hI1 ((rowG_len ..).trans hxl) hl1 ((hk 0 (by simp)).trans h0) ((hk 4 (by simp)).trans h4) ((hk 31 (by simp)).trans h31) ((hk 32 (by simp)).trans h32) g33
    rw [range_drop (by omega), allG, List.foldl_cons]
    exact ⟨tm', G', he.trans he2, hl', fun t ht => (hk' t ht).trans (hk t ht), hI', hx'⟩
theorem gr_outer' {H0 G : AH} {v : AV} {l : List E6} {bo n : Nat} {tm : List AV} {xs : List Nat} {X : Option (AExit × St)} (hX : EvC Try.prog C4 l35_2 (tm, G) = X) (hn : n < 2 ^ 40) (hl : l.length = n) (hv : EvS H0 v l) (hI : Nums H0 G bo xs) (hxl : xs.length = n)
    (hlen : tm.length = 104) (h0 : tm.getD 0 undefA = v) (h4 : tm.getD 4 undefA = isl bo n true) (h31 : tm.getD 31 undefA = v) (h32 : tm.getD 32 undefA = I n) (h33 : tm.getD 33 undefA = I ((0 : Nat) : Int)) :
    ∃ tm' G', X = some (.exit 2, (tm', G')) ∧ tm'.length = 104 ∧ (∀ t ∈ [0, 4, 31, 32], tm'.getD t undefA = tm.getD t undefA) ∧ Nums H0 G' bo (allG l (List.range n) xs) ∧ (allG l (List.range n) xs).length = n := by
  subst hX
  exact gr_outer hn hl hv n 0 tm xs G (by omega) (by omega) hI hxl hlen h0 h4 h31 h32 h33

/-! the first loop: each its own group -/
theorem gr_ini {bo n : Nat} (hn : n < 2 ^ 40) : ∀ (d j : Nat) (tm : List AV) (ys : List Nat) (G : AH), n - j = d → j ≤ n → ys.length = n → (∀ a, a < j → ys[a]? = some a) → G[bo]? = some (.cells (ic ys) 3) →
    tm.length = 104 → tm.getD 4 undefA = isl bo n true → tm.getD 22 undefA = I n → tm.getD 23 undefA = I j →
    ∃ tm', EvC Try.prog C4 l35_0 (tm, G) = some (.exit 0, (tm', G.set bo (.cells (ic (List.range n)) 3))) ∧ tm'.length = 104 ∧ (∀ t ∈ [0, 4], tm'.getD t undefA = tm.getD t undefA) := by
  intro d
  induction d with
  | zero =>
    intro j tm ys G hd hj hl ha hc hlen h4 h22 h23
    obtain rfl : j = n := by omega
    have hlt : decide ((j : Int) < (j : Int)) = false := by simp
    have hys : ys = List.range j := by
      apply List.ext_getElem?
      intro a
      by_cases h : a < j
      · rw [ha a h]; simp [h]
      · rw [List.getElem?_eq_none (by omega), List.getElem?_eq_none (by simp; omega)]
    subst hys
    rw [el35_0, set_sameG hc]
    simp -implicitDefEqProofs only [b35_0, atPath, Try.f35, Option.getD_some, hlen, h22, h23, hlt, ↓EvC_seq, ↓EvC_skip, ↓EvC_exit, ↓EvC_ret, ↓EvC_block, ↓EvC_cond, ↓ev_region, ↓runL_cons, ↓runL_nil, ↓stepO_none, ↓stepO_guard, ↓aop_move, ↓aop_assign, ↓aop_load, ↓aop_store, ↓aop_alloc, ↓aop_box, ↓aop_nilCheck, ↓aop_fieldAddr, ↓aop_field, ↓aop_indexAddr, ↓aop_binOp, ↓aop_pick, ↓aop_extract, ↓aop_buildSlice, ↓aop_slice, ↓aop_not, ↓aop_call, ↓callA_len, ↓callA_append, ev_tmp, ev_const, ofV_int, ofV_bool, ofV_str, ofV_nilSlice, ofV_nilPtr, putA_some, putA_none, gs_self, gs_ne, List.length_set, Option.bind_some, Option.map_some, intBinA, evL, evO, evP, ne_eq, not_false_eq_true, if_true, if_false, reduceCtorEq, ite_true, ite_false, reduceIte, put_app, AV.cells, and_true, true_and, and_self, decide_true, decide_false, ↓yielded_eq, yv_some, boolOf_bool, List.getElem?_toArray, List.getElem?_cons_zero, List.getElem?_cons_succ, Nat.reduceLT, Nat.reduceEqDiff, beq_self_eq_true, Option.some_beq_some, wr_app, wr_app0, rd_app, rd_app0, rdL_here, rdL_next, wrL_here, wrL_next, spl, List.all_cons, List.all_nil, AV.one, Bool.and_self, Bool.true_and, List.drop_zero, List.take_succ_cons, List.take_zero, List.drop_succ_cons, List.head?_cons, Nat.reduceAdd, Nat.reduceLeDiff, List.length_cons, List.length_nil, List.nil_append, List.cons_append, List.set_cons_zero, List.set_cons_succ, Int.toNat_natCast, Nat.add_zero, b_ft, b_tf, Bool.false_eq_true]
    refine ⟨_, rfl, by simp only [List.length_set, hlen], fun t ht => ?_⟩
    simp only [List.mem_cons, List.not_mem_nil, or_false] at ht
    rcases ht with rfl | rfl <;> simp only [hlen, gs_self, gs_ne, List.length_set, ne_eq, Nat.reduceEqDiff, Nat.reduceLT, not_false_eq_true]

  | succ d ih =>
    intro j tm ys G hd hj hl ha hc hlen h4 h22 h23
    have hlt : decide ((j : Int) < (n : Int)) = true := by simp; omega
    have hw : IntKind.i64.wrap ((j : Int) + 1) = ((j + 1 : Nat) : Int) := by rw [IntWalk.i64_in _ (by omega)]; omega
    have i1 : indexAddrA Try.prog 46 (isl bo n true) (I j) = some (.ptr bo j) := isl_ix (by omega)
    have w1 := wrI hc (j := j) (by omega) j
    have key : ∃ tm1, EvC Try.prog C4 l35_0 (tm, G) = EvC Try.prog C4 l35_0 (tm1, G.set bo (.cells (ic (ys.set j j)) 3)) ∧ tm1.length = 104 ∧ tm1.getD 23 undefA = I ((j + 1 : Nat) : Int) ∧ (∀ t ∈ [0, 4, 22], tm1.getD t undefA = tm.getD t undefA) := by
      rw [el35_0]
      simp -implicitDefEqProofs only [b35_0, atPath, Try.f35, Option.getD_some, hlen, h4, h22, h23, hlt, i1, w1, hw, Bool.not_true, Bool.not_false, Bool.true_and, Bool.and_true, Bool.false_and, Bool.and_false, Bool.true_or, Bool.or_true, Bool.false_or, Bool.or_false, cond_true, cond_false, boolOf_undef, nb, beq_self_eq_true, Bool.and_self, ↓ld36, ↓ld34, ↓ld38, ↓ld89, ↓ld3, ↓st36, ↓st34, ↓st89, ↓st3, z36, z34, z89, fa36_0, fa36_1, fa38_0, fa38_1, boolOf_undef, nb, ↓EvC_seq, ↓EvC_skip, ↓EvC_exit, ↓EvC_ret, ↓EvC_block, ↓EvC_cond, ↓ev_region, ↓runL_cons, ↓runL_nil, ↓stepO_none, ↓stepO_guard, ↓aop_move, ↓aop_assign, ↓aop_load, ↓aop_store, ↓aop_alloc, ↓aop_box, ↓aop_nilCheck, ↓aop_fieldAddr, ↓aop_field, ↓aop_indexAddr, ↓aop_binOp, ↓aop_pick, ↓aop_extract, ↓aop_buildSlice, ↓aop_slice, ↓aop_not, ↓aop_call, ↓callA_len, ↓callA_append, ev_tmp, ev_const, ofV_int, ofV_bool, ofV_str, ofV_nilSlice, ofV_nilPtr, putA_some, putA_none, gs_self, gs_ne, List.length_set, Option.bind_some, Option.map_some, intBinA, evL, evO, evP, ne_eq, not_false_eq_true, if_true, if_false, reduceCtorEq, ite_true, ite_false, reduceIte, put_app, AV.cells, and_true, true_and, and_self, decide_true, decide_false, ↓yielded_eq, yv_some, boolOf_bool, List.getElem?_toArray, List.getElem?_cons_zero, List.getElem?_cons_succ, Nat.reduceLT, Nat.reduceEqDiff, beq_self_eq_true, Option.some_beq_some, wr_app, wr_app0, rd_app, rd_app0, rdL_here, rdL_next, wrL_here, wrL_next, spl, List.all_cons, List.all_nil, AV.one, Bool.and_self, Bool.true_and, List.drop_zero, List.take_succ_cons, List.take_zero, List.drop_succ_cons, List.head?_cons, Nat.reduceAdd, Nat.reduceLeDiff, List.length_cons, List.length_nil, List.nil_append, List.cons_append, List.set_cons_zero, List.set_cons_succ, Int.toNat_natCast, Nat.add_zero, b_ft, b_tf, Bool.false_eq_true]
      refine ⟨_, rfl, by simp only [List.length_set, hlen], by simp only [hlen, gs_self, gs_ne, List.length_set, ne_eq, Nat.reduceEqDiff, Nat.reduceLT, not_false_eq_true], fun t ht => ?_⟩
      simp only [List.mem_cons, List.not_mem_nil, or_false] at ht
      rcases ht with rfl | rfl | rfl <;> simp only [hlen, gs_self, gs_ne, List.length_set, ne_eq, Nat.reduceEqDiff, Nat.reduceLT, not_false_eq_true]

    obtain ⟨tm1, he, hl1, g23, hk⟩ := key
    obtain ⟨tm', he2, hl', hk'⟩ := ih (j + 1) tm1 (ys.set j j) (G.set bo (.cells (ic (ys.set j j)) 3)) (by omega) (by omega) (by simp [hl]) (fun a hlt' => by
        rw [List.getElem?_set]
        split
        · rename_i e; subst e; rw [if_pos (by omega)]
        · exact ha a (by omega)) (by rw [List.getElem?_set_self (lt_of_get hc)]) hl1 ((hk 4 (by simp)).trans h4) ((hk 22 (by simp)).trans h22) g23
    refine ⟨tm', by rw [he, he2, List.set_set], hl', fun t ht => (hk' t ht).trans (hk t (by simp at ht ⊢; omega))⟩
theorem gr_ini' {bo n : Nat} {tm : List AV} {ys : List Nat} {G : AH} {X : Option (AExit × St)} (hX : EvC Try.prog C4 l35_0 (tm, G) = X) (hn : n < 2 ^ 40) (hl : ys.length = n) (hc : G[bo]? = some (.cells (ic ys) 3))
    (hlen : tm.length = 104) (h4 : tm.getD 4 undefA = isl bo n true) (h22 : tm.getD 22 undefA = I n) (h23 : tm.getD 23 undefA = I ((0 : Nat) : Int)) :
    ∃ tm', X = some (.exit 0, (tm', G.set bo (.cells (ic (List.range n)) 3))) ∧ tm'.length = 104 ∧ (∀ t ∈ [0, 4], tm'.getD t undefA = tm.getD t undefA) := by
  subst hX
  exact gr_ini hn n 0 tm ys G (by omega) (by omega) hl (by omega) hc hlen h4 h22 h23

end Go.Dv

/- race.Groups, whole (printed by t75.py, own work). -/
namespace Go.Dv
open Go.Proofs
set_option maxRecDepth 100000
set_option linter.unusedSimpArgs false
set_option linter.unusedVariables false
attribute [local congr] bind_congr_first

/-- the labels so far with a further one -/
def addN (N : List Nat) (g : Nat) : List Nat := if g ∈ N then N else N ++ [g]
/-- the numbers of the labels, by first occurrence -/
def numL : List Nat → List Nat → List Nat
  | _, [] => []
  | N, g :: gs => (addN N g).idxOf g :: numL (addN N g) gs
theorem Nums.setm {H0 G : AH} {bo im : Nat} {xs : List Nat} {c : AObj} (h : Nums H0 G bo xs) (hm : H0.length ≤ im) (hne : im ≠ bo) : Nums H0 (G.set im c) bo xs := by
  refine ⟨fun j hj => ?_, h.hb, by rw [List.getElem?_set_ne hne]; exact h.hc⟩
  rw [List.getElem?_set_ne (by omega)]; exact h.keep j hj
theorem numL_step {N : List Nat} {ys : List Nat} {j g m : Nat} (h : ys[j]? = some g) (hm : (addN N g).idxOf g = m) : (ys.set j m).take (j + 1) ++ numL (addN N g) ((ys.set j m).drop (j + 1)) = ys.take j ++ numL N (ys.drop j) := by
  have hj := lt_of_get h
  have h1 : (ys.set j m).drop (j + 1) = ys.drop (j + 1) := by rw [List.drop_set_of_lt (by omega)]
  have h2 : (ys.set j m).take (j + 1) = ys.take j ++ [m] := by
    rw [List.take_add_one, List.take_set_of_le (by omega), List.getElem?_set_self hj]; rfl
  rw [h1, h2, List.drop_eq_getElem_cons hj]
  rw [List.getElem?_eq_getElem hj] at h
  rw [Option.some.inj h, numL, hm]
  simp

set_option maxHeartbeats 4000000 in
theorem nm_round {H0 G : AH} {bo n j im g : Nat} {ys N : List Nat} {tm : List AV} (hn : n < 2 ^ 40) (hj : j < n) (hyl : ys.length = n) (hI : Nums H0 G bo ys) (hg : ys[j]? = some g) (hm : G[im]? = some (.map (numE N) N.length)) (hmb : H0.length ≤ im) (hne : im ≠ bo)
    (hlen : tm.length = 104) (h4 : tm.getD 4 undefA = isl bo n true) (h10 : tm.getD 10 undefA = .map im) (h77 : tm.getD 77 undefA = isl bo n true) (h78 : tm.getD 78 undefA = I n) (h79 : tm.getD 79 undefA = I j) :
    ∃ tm1 G1, EvC Try.prog C4 l35_3 (tm, G) = EvC Try.prog C4 l35_3 (tm1, G1) ∧ tm1.length = 104 ∧ tm1.getD 79 undefA = I ((j + 1 : Nat) : Int) ∧ (∀ t ∈ [4, 10, 77, 78], tm1.getD t undefA = tm.getD t undefA) ∧ Nums H0 G1 bo (ys.set j ((addN N g).idxOf g)) ∧ G1[im]? = some (.map (numE (addN N g)) (addN N g).length) := by
  have hlt : decide ((j : Int) < (n : Int)) = true := by simp; omega
  have hw : IntKind.i64.wrap ((j : Int) + 1) = ((j + 1 : Nat) : Int) := by rw [IntWalk.i64_in _ (by omega)]; omega
  have i1 : indexAddrA Try.prog 46 (isl bo n true) (I j) = some (.ptr bo j) := isl_ix hj
  have r1 := rdI hI.hc hg
  have l1 := look_num hm g true
  rw [if_pos rfl] at l1
  rw [el35_3]
  by_cases hmem : g ∈ N
  · have ha : addN N g = N := by simp [addN, hmem]
    rw [if_pos hmem, decide_eq_true hmem] at l1
    have l2 := look_num hm g false
    rw [if_pos hmem] at l2
    simp only [Bool.false_eq_true, if_false] at l2
    have w1 := wrI hI.hc (j := j) (by omega) (N.idxOf g)
    rw [ha]
    simp -implicitDefEqProofs only [b35_3, atPath, Try.f35, Option.getD_some, hlen, h4, h10, h77, h78, h79, hlt, i1, r1, l1, l2, w1, hw, Bool.not_true, Bool.not_false, Bool.true_and, Bool.and_true, Bool.false_and, Bool.and_false, Bool.true_or, Bool.or_true, Bool.false_or, Bool.or_false, cond_true, cond_false, boolOf_undef, nb, beq_self_eq_true, Bool.and_self, ↓ld36, ↓ld34, ↓ld38, ↓ld89, ↓ld3, ↓st36, ↓st34, ↓st89, ↓st3, z36, z34, z89, fa36_0, fa36_1, fa38_0, fa38_1, boolOf_undef, nb, ↓q_not, ↓aop_lookup, ↓aop_makeFunc, ↓aop_makeMap, ↓aop_mapUpdate, ↓aop_mapEntry, ↓aop_entryStore, ↓aop_buildSlice, ↓aop_extract, ↓EvC_seq, ↓EvC_skip, ↓EvC_exit, ↓EvC_ret, ↓EvC_block, ↓EvC_cond, ↓ev_region, ↓runL_cons, ↓runL_nil, ↓stepO_none, ↓stepO_guard, ↓aop_move, ↓aop_assign, ↓aop_load, ↓aop_store, ↓aop_alloc, ↓aop_box, ↓aop_nilCheck, ↓aop_fieldAddr, ↓aop_field, ↓aop_indexAddr, ↓aop_binOp, ↓aop_pick, ↓aop_extract, ↓aop_buildSlice, ↓aop_slice, ↓aop_not, ↓aop_call, ↓callA_len, ↓callA_append, ev_tmp, ev_const, ofV_int, ofV_bool, ofV_str, ofV_nilSlice, ofV_nilPtr, putA_some, putA_none, gs_self, gs_ne, List.length_set, Option.bind_some, Option.map_some, intBinA, evL, evO, evP, ne_eq, not_false_eq_true, if_true, if_false, reduceCtorEq, ite_true, ite_false, reduceIte, put_app, AV.cells, and_true, true_and, and_self, decide_true, decide_false, ↓yielded_eq, yv_some, boolOf_bool, List.getElem?_toArray, List.getElem?_cons_zero, List.getElem?_cons_succ, Nat.reduceLT, Nat.reduceEqDiff, beq_self_eq_true, Option.some_beq_some, wr_app, wr_app0, rd_app, rd_app0, rdL_here, rdL_next, wrL_here, wrL_next, spl, List.all_cons, List.all_nil, AV.one, Bool.and_self, Bool.true_and, List.drop_zero, List.take_succ_cons, List.take_zero, List.drop_succ_cons, List.head?_cons, Nat.reduceAdd, Nat.reduceLeDiff, List.length_cons, List.length_nil, List.nil_append, List.cons_append, List.set_cons_zero, List.set_cons_succ, Int.toNat_natCast, Nat.add_zero, b_ft, b_tf, Bool.false_eq_true]
    refine ⟨_, _, rfl, by simp only [List.length_set, hlen], by simp only [hlen, gs_self, gs_ne, List.length_set, ne_eq, Nat.reduceEqDiff, Nat.reduceLT, not_false_eq_true], fun t ht => ?_, hI.set _, by rw [List.getElem?_set_ne (by omega)]; exact hm⟩
    simp only [List.mem_cons, List.not_mem_nil, or_false] at ht
    rcases ht with rfl | rfl | rfl | rfl <;> simp only [hlen, gs_self, gs_ne, List.length_set, ne_eq, Nat.reduceEqDiff, Nat.reduceLT, not_false_eq_true]
  · have ha : addN N g = N ++ [g] := by simp [addN, hmem]
    rw [if_neg hmem, decide_eq_false hmem] at l1
    have le := len_num hm
    have p1 := put_num hm hmem
    have hm1 : (G.set im (.map (numE (N ++ [g])) (N ++ [g]).length))[im]? = some (.map (numE (N ++ [g])) (N ++ [g]).length) := by rw [List.getElem?_set_self (lt_of_get hm)]
    have l2 := look_num hm1 g false
    rw [if_neg Bool.false_ne_true, if_pos (by simp)] at l2
    have hI1 : Nums H0 (G.set im (.map (numE (N ++ [g])) (N ++ [g]).length)) bo ys := hI.setm hmb hne
    have w1 := wrI hI1.hc (j := j) (by omega) ((N ++ [g]).idxOf g)
    rw [ha]
    generalize hG : G.set im (.map (numE (N ++ [g])) (N ++ [g]).length) = G1 at *
    generalize (N ++ [g]).idxOf g = m at *
    simp -implicitDefEqProofs only [b35_3, atPath, Try.f35, Option.getD_some, hlen, h4, h10, h77, h78, h79, hlt, i1, r1, l1, l2, le, p1, w1, hw, Bool.not_true, Bool.not_false, Bool.true_and, Bool.and_true, Bool.false_and, Bool.and_false, Bool.true_or, Bool.or_true, Bool.false_or, Bool.or_false, cond_true, cond_false, boolOf_undef, nb, beq_self_eq_true, Bool.and_self, ↓ld36, ↓ld34, ↓ld38, ↓ld89, ↓ld3, ↓st36, ↓st34, ↓st89, ↓st3, z36, z34, z89, fa36_0, fa36_1, fa38_0, fa38_1, boolOf_undef, nb, ↓q_not, ↓aop_lookup, ↓aop_makeFunc, ↓aop_makeMap, ↓aop_mapUpdate, ↓aop_mapEntry, ↓aop_entryStore, ↓aop_buildSlice, ↓aop_extract, ↓EvC_seq, ↓EvC_skip, ↓EvC_exit, ↓EvC_ret, ↓EvC_block, ↓EvC_cond, ↓ev_region, ↓runL_cons, ↓runL_nil, ↓stepO_none, ↓stepO_guard, ↓aop_move, ↓aop_assign, ↓aop_load, ↓aop_store, ↓aop_alloc, ↓aop_box, ↓aop_nilCheck, ↓aop_fieldAddr, ↓aop_field, ↓aop_indexAddr, ↓aop_binOp, ↓aop_pick, ↓aop_extract, ↓aop_buildSlice, ↓aop_slice, ↓aop_not, ↓aop_call, ↓callA_len, ↓callA_append, ev_tmp, ev_const, ofV_int, ofV_bool, ofV_str, ofV_nilSlice, ofV_nilPtr, putA_some, putA_none, gs_self, gs_ne, List.length_set, Option.bind_some, Option.map_some, intBinA, evL, evO, evP, ne_eq, not_false_eq_true, if_true, if_false, reduceCtorEq, ite_true, ite_false, reduceIte, put_app, AV.cells, and_true, true_and, and_self, decide_true, decide_false, ↓yielded_eq, yv_some, boolOf_bool, List.getElem?_toArray, List.getElem?_cons_zero, List.getElem?_cons_succ, Nat.reduceLT, Nat.reduceEqDiff, beq_self_eq_true, Option.some_beq_some, wr_app, wr_app0, rd_app, rd_app0, rdL_here, rdL_next, wrL_here, wrL_next, spl, List.all_cons, List.all_nil, AV.one, Bool.and_self, Bool.true_and, List.drop_zero, List.take_succ_cons, List.take_zero, List.drop_succ_cons, List.head?_cons, Nat.reduceAdd, Nat.reduceLeDiff, List.length_cons, List.length_nil, List.nil_append, List.cons_append, List.set_cons_zero, List.set_cons_succ, Int.toNat_natCast, Nat.add_zero, b_ft, b_tf, Bool.false_eq_true]
    refine ⟨_, _, rfl, by simp only [List.length_set, hlen], by simp only [hlen, gs_self, gs_ne, List.length_set, ne_eq, Nat.reduceEqDiff, Nat.reduceLT, not_false_eq_true], fun t ht => ?_, hI1.set _, by rw [List.getElem?_set_ne (by omega)]; exact hm1⟩
    simp only [List.mem_cons, List.not_mem_nil, or_false] at ht
    rcases ht with rfl | rfl | rfl | rfl <;> simp only [hlen, gs_self, gs_ne, List.length_set, ne_eq, Nat.reduceEqDiff, Nat.reduceLT, not_false_eq_true]
theorem nm_end {G : AH} {tm : List AV} {n : Nat} (hlen : tm.length = 104) (h78 : tm.getD 78 undefA = I n) (h79 : tm.getD 79 undefA = I n) : ∃ tm', EvC Try.prog C4 l35_3 (tm, G) = some (.exit 6, (tm', G)) ∧ tm'.length = 104 ∧ tm'.getD 4 undefA = tm.getD 4 undefA := by
  have hlt : decide ((n : Int) < (n : Int)) = false := by simp
  rw [el35_3]
  simp -implicitDefEqProofs only [b35_3, atPath, Try.f35, Option.getD_some, hlen, h78, h79, hlt, ↓EvC_seq, ↓EvC_skip, ↓EvC_exit, ↓EvC_ret, ↓EvC_block, ↓EvC_cond, ↓ev_region, ↓runL_cons, ↓runL_nil, ↓stepO_none, ↓stepO_guard, ↓aop_move, ↓aop_assign, ↓aop_load, ↓aop_store, ↓aop_alloc, ↓aop_box, ↓aop_nilCheck, ↓aop_fieldAddr, ↓aop_field, ↓aop_indexAddr, ↓aop_binOp, ↓aop_pick, ↓aop_extract, ↓aop_buildSlice, ↓aop_slice, ↓aop_not, ↓aop_call, ↓callA_len, ↓callA_append, ev_tmp, ev_const, ofV_int, ofV_bool, ofV_str, ofV_nilSlice, ofV_nilPtr, putA_some, putA_none, gs_self, gs_ne, List.length_set, Option.bind_some, Option.map_some, intBinA, evL, evO, evP, ne_eq, not_false_eq_true, if_true, if_false, reduceCtorEq, ite_true, ite_false, reduceIte, put_app, AV.cells, and_true, true_and, and_self, decide_true, decide_false, ↓yielded_eq, yv_some, boolOf_bool, List.getElem?_toArray, List.getElem?_cons_zero, List.getElem?_cons_succ, Nat.reduceLT, Nat.reduceEqDiff, beq_self_eq_true, Option.some_beq_some, wr_app, wr_app0, rd_app, rd_app0, rdL_here, rdL_next, wrL_here, wrL_next, spl, List.all_cons, List.all_nil, AV.one, Bool.and_self, Bool.true_and, List.drop_zero, List.take_succ_cons, List.take_zero, List.drop_succ_cons, List.head?_cons, Nat.reduceAdd, Nat.reduceLeDiff, List.length_cons, List.length_nil, List.nil_append, List.cons_append, List.set_cons_zero, List.set_cons_succ, Int.toNat_natCast, Nat.add_zero, b_ft, b_tf, Bool.false_eq_true]
  exact ⟨_, rfl, by simp only [List.length_set, hlen], by simp only [hlen, gs_self, gs_ne, List.length_set, ne_eq, Nat.reduceEqDiff, Nat.reduceLT, not_false_eq_true]⟩
theorem nm_loop {H0 : AH} {bo n im : Nat} (hn : n < 2 ^ 40) (hmb : H0.length ≤ im) (hne : im ≠ bo) : ∀ (d j : Nat) (tm : List AV) (ys N : List Nat) (G : AH), n - j = d → j ≤ n → ys.length = n → Nums H0 G bo ys → G[im]? = some (.map (numE N) N.length) →
    tm.length = 104 → tm.getD 4 undefA = isl bo n true → tm.getD 10 undefA = .map im → tm.getD 77 undefA = isl bo n true → tm.getD 78 undefA = I n → tm.getD 79 undefA = I j →
    ∃ tm' G', EvC Try.prog C4 l35_3 (tm, G) = some (.exit 6, (tm', G')) ∧ tm'.length = 104 ∧ tm'.getD 4 undefA = isl bo n true ∧ Nums H0 G' bo (ys.take j ++ numL N (ys.drop j)) := by
  intro d
  induction d with
  | zero =>
    intro j tm ys N G hd hj hyl hI hm hlen h4 h10 h77 h78 h79
    obtain rfl : j = n := by omega
    obtain ⟨tm', he, hl', h4'⟩ := nm_end (G := G) hlen h78 h79
    rw [List.take_of_length_le (by omega), List.drop_of_length_le (by omega), numL, List.append_nil]
    exact ⟨tm', G, he, hl', h4'.trans h4, hI⟩
  | succ d ih =>
    intro j tm ys N G hd hj hyl hI hm hlen h4 h10 h77 h78 h79
    obtain ⟨g, hg⟩ : ∃ g, ys[j]? = some g := ⟨_, List.getElem?_eq_getElem (by omega)⟩
    obtain ⟨tm1, G1, he, hl1, g79, hk, hI1, hm1⟩ := nm_round hn (by omega : j < n) hyl hI hg hm hmb hne hlen h4 h10 h77 h78 h79
    obtain ⟨tm', G', he2, hl', h4', hI'⟩ := ih (j + 1) tm1 _ _ G1 (by omega) (by omega) (by simp [hyl]) hI1 hm1 hl1 ((hk 4 (by simp)).trans h4) ((hk 10 (by simp)).trans h10) ((hk 77 (by simp)).trans h77) ((hk 78 (by simp)).trans h78) g79
    rw [numL_step hg rfl] at hI'
    exact ⟨tm', G', he.trans he2, hl', h4', hI'⟩
theorem nm_loop' {H0 G : AH} {bo n im : Nat} {tm : List AV} {ys : List Nat} {X : Option (AExit × St)} (hX : EvC Try.prog C4 l35_3 (tm, G) = X) (hn : n < 2 ^ 40) (hmb : H0.length ≤ im) (hne : im ≠ bo) (hyl : ys.length = n) (hI : Nums H0 G bo ys) (hm : G[im]? = some (.map [] 0))
    (hlen : tm.length = 104) (h4 : tm.getD 4 undefA = isl bo n true) (h10 : tm.getD 10 undefA = .map im) (h77 : tm.getD 77 undefA = isl bo n true) (h78 : tm.getD 78 undefA = I n) (h79 : tm.getD 79 undefA = I ((0 : Nat) : Int)) :
    ∃ tm' G', X = some (.exit 6, (tm', G')) ∧ tm'.length = 104 ∧ tm'.getD 4 undefA = isl bo n true ∧ Nums H0 G' bo (numL [] ys) := by
  subst hX
  exact nm_loop hn hmb hne n 0 tm ys [] G (by omega) (by omega) hyl hI hm hlen h4 h10 h77 h78 h79

/-- what race.Groups yields -/
def groupsS (l : List E6) : List Nat := numL [] (allG l (List.range l.length) (List.range l.length))

theorem groups_bad {H : AH} {v : AV} {l : List E6} (hv : EvS H v l) (hl : l.length < 2 ^ 30) (hb : (!(decide ((l.length : Int) > 4000)) && !(l.any E6.bad)) = false) : Ev Try.prog C4 35 [v] H = some (.tuple [.nilSlice, I 1], H) := by
  have g0 : ([v] ++ List.replicate (104 - [v].length) undefA).length = 104 := by simp
  have g1 : ([v] ++ List.replicate (104 - [v].length) undefA).getD 0 undefA = v := rfl
  have hval := k4_valid hv.evs (by omega)
  rw [hb] at hval
  rw [fe35]
  generalize [v] ++ List.replicate (104 - [v].length) undefA = tm at *
  simp -implicitDefEqProofs only [c35, Try.f35, Option.getD_some, g0, g1, hval, ↓fc18, Bool.not_false, ↓q_not, ↓aop_lookup, ↓aop_makeFunc, ↓aop_makeMap, ↓aop_mapUpdate, ↓aop_mapEntry, ↓aop_entryStore, ↓aop_buildSlice, ↓aop_extract, ↓EvC_seq, ↓EvC_skip, ↓EvC_exit, ↓EvC_ret, ↓EvC_block, ↓EvC_cond, ↓ev_region, ↓runL_cons, ↓runL_nil, ↓stepO_none, ↓stepO_guard, ↓aop_move, ↓aop_assign, ↓aop_load, ↓aop_store, ↓aop_alloc, ↓aop_box, ↓aop_nilCheck, ↓aop_fieldAddr, ↓aop_field, ↓aop_indexAddr, ↓aop_binOp, ↓aop_pick, ↓aop_extract, ↓aop_buildSlice, ↓aop_slice, ↓aop_not, ↓aop_call, ↓callA_len, ↓callA_append, ev_tmp, ev_const, ofV_int, ofV_bool, ofV_str, ofV_nilSlice, ofV_nilPtr, putA_some, putA_none, gs_self, gs_ne, List.length_set, Option.bind_some, Option.map_some, intBinA, evL, evO, evP, ne_eq, not_false_eq_true, if_true, if_false, reduceCtorEq, ite_true, ite_false, reduceIte, put_app, AV.cells, and_true, true_and, and_self, decide_true, decide_false, ↓yielded_eq, yv_some, boolOf_bool, List.getElem?_toArray, List.getElem?_cons_zero, List.getElem?_cons_succ, Nat.reduceLT, Nat.reduceEqDiff, beq_self_eq_true, Option.some_beq_some, wr_app, wr_app0, rd_app, rd_app0, rdL_here, rdL_next, wrL_here, wrL_next, spl, List.all_cons, List.all_nil, AV.one, Bool.and_self, Bool.true_and, List.drop_zero, List.take_succ_cons, List.take_zero, List.drop_succ_cons, List.head?_cons, Nat.reduceAdd, Nat.reduceLeDiff, List.length_cons, List.length_nil, List.nil_append, List.cons_append, List.set_cons_zero, List.set_cons_succ, Int.toNat_natCast, Nat.add_zero, b_ft, b_tf, Bool.false_eq_true]
set_option maxHeartbeats 4000000 in
theorem groups_ev {H : AH} {v : AV} {l : List E6} (hv : EvS H v l) (hl : l.length < 2 ^ 30) (hb : (!(decide ((l.length : Int) > 4000)) && !(l.any E6.bad)) = true) :
    ∃ H', Ev Try.prog C4 35 [v] H = some (.tuple [isl H.length l.length true, I 0], H') ∧ Nums H H' H.length (groupsS l) := by
  have g0 : ([v] ++ List.replicate (104 - [v].length) undefA).length = 104 := by simp
  have g1 : ([v] ++ List.replicate (104 - [v].length) undefA).getD 0 undefA = v := rfl
  have hval := k4_valid hv.evs (by omega)
  rw [hb] at hval
  have hla := hv.evs.len
  have hmk := mk46 (n := l.length) (by omega) H
  have hsl := isl_len H.length l.length true
  rw [fe35]
  generalize [v] ++ List.replicate (104 - [v].length) undefA = tm at *
  simp -implicitDefEqProofs only [c35, Try.f35, Option.getD_some, g0, g1, hval, hla, hmk, hsl, ↓fc18, ↓aop_makeSlice, Bool.not_true, ↓q_not, ↓aop_lookup, ↓aop_makeFunc, ↓aop_makeMap, ↓aop_mapUpdate, ↓aop_mapEntry, ↓aop_entryStore, ↓aop_buildSlice, ↓aop_extract, ↓EvC_seq, ↓EvC_skip, ↓EvC_exit, ↓EvC_ret, ↓EvC_block, ↓EvC_cond, ↓ev_region, ↓runL_cons, ↓runL_nil, ↓stepO_none, ↓stepO_guard, ↓aop_move, ↓aop_assign, ↓aop_load, ↓aop_store, ↓aop_alloc, ↓aop_box, ↓aop_nilCheck, ↓aop_fieldAddr, ↓aop_field, ↓aop_indexAddr, ↓aop_binOp, ↓aop_pick, ↓aop_extract, ↓aop_buildSlice, ↓aop_slice, ↓aop_not, ↓aop_call, ↓callA_len, ↓callA_append, ev_tmp, ev_const, ofV_int, ofV_bool, ofV_str, ofV_nilSlice, ofV_nilPtr, putA_some, putA_none, gs_self, gs_ne, List.length_set, Option.bind_some, Option.map_some, intBinA, evL, evO, evP, ne_eq, not_false_eq_true, if_true, if_false, reduceCtorEq, ite_true, ite_false, reduceIte, put_app, AV.cells, and_true, true_and, and_self, decide_true, decide_false, ↓yielded_eq, yv_some, boolOf_bool, List.getElem?_toArray, List.getElem?_cons_zero, List.getElem?_cons_succ, Nat.reduceLT, Nat.reduceEqDiff, beq_self_eq_true, Option.some_beq_some, wr_app, wr_app0, rd_app, rd_app0, rdL_here, rdL_next, wrL_here, wrL_next, spl, List.all_cons, List.all_nil, AV.one, Bool.and_self, Bool.true_and, List.drop_zero, List.take_succ_cons, List.take_zero, List.drop_succ_cons, List.head?_cons, Nat.reduceAdd, Nat.reduceLeDiff, List.length_cons, List.length_nil, List.nil_append, List.cons_append, List.set_cons_zero, List.set_cons_succ, Int.toNat_natCast, Nat.add_zero, b_ft, b_tf, Bool.false_eq_true]
  generalize hX : EvC Try.prog C4 (Code.loop _) _ = X
  have hc0 : (H ++ [AObj.cells (ic (List.replicate l.length 0)) 3])[H.length]? = some (.cells (ic (List.replicate l.length 0)) 3) := by simp
  obtain ⟨tm1, he, hl1, hk1⟩ := gr_ini' (bo := H.length) (n := l.length) hX (by omega) (by simp) hc0 (by simp only [List.length_set, g0]) (by simp only [g0, gs_self, gs_ne, List.length_set, ne_eq, Nat.reduceEqDiff, Nat.reduceLT, not_false_eq_true]) (by simp only [g0, gs_self, gs_ne, List.length_set, ne_eq, Nat.reduceEqDiff, Nat.reduceLT, not_false_eq_true]) (by simp only [g0, gs_self, gs_ne, List.length_set, ne_eq, Nat.reduceEqDiff, Nat.reduceLT, not_false_eq_true] <;> rfl)
  subst he
  have hI : Nums H ((H ++ [AObj.cells (ic (List.replicate l.length 0)) 3]).set H.length (.cells (ic (List.range l.length)) 3)) H.length (List.range l.length) :=
    Nums.set (xs := List.replicate l.length 0) ⟨fun j hj => by rw [List.getElem?_append_left hj], Nat.le_refl _, hc0⟩ _
  generalize (H ++ [AObj.cells (ic (List.replicate l.length 0)) 3]).set H.length (.cells (ic (List.range l.length)) 3) = G1 at *
  have z0 := hk1 0 (by simp)
  have z4 := hk1 4 (by simp)
  simp only [g0, g1, gs_self, gs_ne, List.length_set, ne_eq, Nat.reduceEqDiff, Nat.reduceLT, not_false_eq_true] at z0 z4
  simp -implicitDefEqProofs only [hl1, z0, z4, hla, ↓EvC_seq, ↓EvC_skip, ↓EvC_exit, ↓EvC_ret, ↓EvC_block, ↓EvC_cond, ↓ev_region, ↓runL_cons, ↓runL_nil, ↓stepO_none, ↓stepO_guard, ↓aop_move, ↓aop_assign, ↓aop_load, ↓aop_store, ↓aop_alloc, ↓aop_box, ↓aop_nilCheck, ↓aop_fieldAddr, ↓aop_field, ↓aop_indexAddr, ↓aop_binOp, ↓aop_pick, ↓aop_extract, ↓aop_buildSlice, ↓aop_slice, ↓aop_not, ↓aop_call, ↓callA_len, ↓callA_append, ev_tmp, ev_const, ofV_int, ofV_bool, ofV_str, ofV_nilSlice, ofV_nilPtr, putA_some, putA_none, gs_self, gs_ne, List.length_set, Option.bind_some, Option.map_some, intBinA, evL, evO, evP, ne_eq, not_false_eq_true, if_true, if_false, reduceCtorEq, ite_true, ite_false, reduceIte, put_app, AV.cells, and_true, true_and, and_self, decide_true, decide_false, ↓yielded_eq, yv_some, boolOf_bool, List.getElem?_toArray, List.getElem?_cons_zero, List.getElem?_cons_succ, Nat.reduceLT, Nat.reduceEqDiff, beq_self_eq_true, Option.some_beq_some, wr_app, wr_app0, rd_app, rd_app0, rdL_here, rdL_next, wrL_here, wrL_next, spl, List.all_cons, List.all_nil, AV.one, Bool.and_self, Bool.true_and, List.drop_zero, List.take_succ_cons, List.take_zero, List.drop_succ_cons, List.head?_cons, Nat.reduceAdd, Nat.reduceLeDiff, List.length_cons, List.length_nil, List.nil_append, List.cons_append, List.set_cons_zero, List.set_cons_succ, Int.toNat_natCast, Nat.add_zero, b_ft, b_tf, Bool.false_eq_true]
  generalize hX : EvC Try.prog C4 (Code.loop _) _ = X
  obtain ⟨tm2, G2, he, hl2, hk2, hI2, hx2⟩ := gr_outer' (bo := H.length) (n := l.length) hX (by omega) rfl hv hI (by simp) (by simp only [List.length_set, hl1]) (by simp only [hl1, z0, gs_self, gs_ne, List.length_set, ne_eq, Nat.reduceEqDiff, Nat.reduceLT, not_false_eq_true]) (by simp only [hl1, z4, gs_self, gs_ne, List.length_set, ne_eq, Nat.reduceEqDiff, Nat.reduceLT, not_false_eq_true]) (by simp only [hl1, gs_self, gs_ne, List.length_set, ne_eq, Nat.reduceEqDiff, Nat.reduceLT, not_false_eq_true]) (by simp only [hl1, gs_self, gs_ne, List.length_set, ne_eq, Nat.reduceEqDiff, Nat.reduceLT, not_false_eq_true]) (by simp only [hl1, gs_self, gs_ne, List.length_set, ne_eq, Nat.reduceEqDiff, Nat.reduceLT, not_false_eq_true] <;> rfl)
  subst he
  have y4 := hk2 4 (by simp)
  simp only [hl1, z4, gs_self, gs_ne, List.length_set, ne_eq, Nat.reduceEqDiff, Nat.reduceLT, not_false_eq_true] at y4
  simp -implicitDefEqProofs only [hl2, y4, hsl, put_none, ↓q_not, ↓aop_lookup, ↓aop_makeFunc, ↓aop_makeMap, ↓aop_mapUpdate, ↓aop_mapEntry, ↓aop_entryStore, ↓aop_buildSlice, ↓aop_extract, ↓EvC_seq, ↓EvC_skip, ↓EvC_exit, ↓EvC_ret, ↓EvC_block, ↓EvC_cond, ↓ev_region, ↓runL_cons, ↓runL_nil, ↓stepO_none, ↓stepO_guard, ↓aop_move, ↓aop_assign, ↓aop_load, ↓aop_store, ↓aop_alloc, ↓aop_box, ↓aop_nilCheck, ↓aop_fieldAddr, ↓aop_field, ↓aop_indexAddr, ↓aop_binOp, ↓aop_pick, ↓aop_extract, ↓aop_buildSlice, ↓aop_slice, ↓aop_not, ↓aop_call, ↓callA_len, ↓callA_append, ev_tmp, ev_const, ofV_int, ofV_bool, ofV_str, ofV_nilSlice, ofV_nilPtr, putA_some, putA_none, gs_self, gs_ne, List.length_set, Option.bind_some, Option.map_some, intBinA, evL, evO, evP, ne_eq, not_false_eq_true, if_true, if_false, reduceCtorEq, ite_true, ite_false, reduceIte, put_app, AV.cells, and_true, true_and, and_self, decide_true, decide_false, ↓yielded_eq, yv_some, boolOf_bool, List.getElem?_toArray, List.getElem?_cons_zero, List.getElem?_cons_succ, Nat.reduceLT, Nat.reduceEqDiff, beq_self_eq_true, Option.some_beq_some, wr_app, wr_app0, rd_app, rd_app0, rdL_here, rdL_next, wrL_here, wrL_next, spl, List.all_cons, List.all_nil, AV.one, Bool.and_self, Bool.true_and, List.drop_zero, List.take_succ_cons, List.take_zero, List.drop_succ_cons, List.head?_cons, Nat.reduceAdd, Nat.reduceLeDiff, List.length_cons, List.length_nil, List.nil_append, List.cons_append, List.set_cons_zero, List.set_cons_succ, Int.toNat_natCast, Nat.add_zero, b_ft, b_tf, Bool.false_eq_true]
  generalize hX : EvC Try.prog C4 (Code.loop _) _ = X
  have hbl := lt_of_get hI2.hc
  obtain ⟨tm3, G3, he, hl3, g4, hI3⟩ := nm_loop' (bo := H.length) (n := l.length) (im := G2.length) hX (by omega) (by omega) (by omega) hx2 (hI2.app _) (by simp) (by simp only [List.length_set, hl2]) (by simp only [hl2, y4, gs_self, gs_ne, List.length_set, ne_eq, Nat.reduceEqDiff, Nat.reduceLT, not_false_eq_true]) (by simp only [hl2, gs_self, gs_ne, List.length_set, ne_eq, Nat.reduceEqDiff, Nat.reduceLT, not_false_eq_true]) (by simp only [hl2, gs_self, gs_ne, List.length_set, ne_eq, Nat.reduceEqDiff, Nat.reduceLT, not_false_eq_true]) (by simp only [hl2, gs_self, gs_ne, List.length_set, ne_eq, Nat.reduceEqDiff, Nat.reduceLT, not_false_eq_true]) (by simp only [hl2, gs_self, gs_ne, List.length_set, ne_eq, Nat.reduceEqDiff, Nat.reduceLT, not_false_eq_true] <;> rfl)
  subst he
  refine ⟨G3, ?_, hI3⟩
  simp -implicitDefEqProofs only [hl3, g4, ↓EvC_seq, ↓EvC_skip, ↓EvC_exit, ↓EvC_ret, ↓EvC_block, ↓EvC_cond, ↓ev_region, ↓runL_cons, ↓runL_nil, ↓stepO_none, ↓stepO_guard, ↓aop_move, ↓aop_assign, ↓aop_load, ↓aop_store, ↓aop_alloc, ↓aop_box, ↓aop_nilCheck, ↓aop_fieldAddr, ↓aop_field, ↓aop_indexAddr, ↓aop_binOp, ↓aop_pick, ↓aop_extract, ↓aop_buildSlice, ↓aop_slice, ↓aop_not, ↓aop_call, ↓callA_len, ↓callA_append, ev_tmp, ev_const, ofV_int, ofV_bool, ofV_str, ofV_nilSlice, ofV_nilPtr, putA_some, putA_none, gs_self, gs_ne, List.length_set, Option.bind_some, Option.map_some, intBinA, evL, evO, evP, ne_eq, not_false_eq_true, if_true, if_false, reduceCtorEq, ite_true, ite_false, reduceIte, put_app, AV.cells, and_true, true_and, and_self, decide_true, decide_false, ↓yielded_eq, yv_some, boolOf_bool, List.getElem?_toArray, List.getElem?_cons_zero, List.getElem?_cons_succ, Nat.reduceLT, Nat.reduceEqDiff, beq_self_eq_true, Option.some_beq_some, wr_app, wr_app0, rd_app, rd_app0, rdL_here, rdL_next, wrL_here, wrL_next, spl, List.all_cons, List.all_nil, AV.one, Bool.and_self, Bool.true_and, List.drop_zero, List.take_succ_cons, List.take_zero, List.drop_succ_cons, List.head?_cons, Nat.reduceAdd, Nat.reduceLeDiff, List.length_cons, List.length_nil, List.nil_append, List.cons_append, List.set_cons_zero, List.set_cons_succ, Int.toNat_natCast, Nat.add_zero, b_ft, b_tf, Bool.false_eq_true]

end Go.Dv
