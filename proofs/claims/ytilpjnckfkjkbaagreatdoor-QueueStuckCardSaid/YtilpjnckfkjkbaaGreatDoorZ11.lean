/- Part 11 of the walks (own work). -/
import Derived.Test.YtilpjnckfkjkbaaGreatDoorZ10
set_option maxRecDepth 100000
set_option maxHeartbeats 4000000
set_option linter.unusedSimpArgs false
set_option linter.unusedVariables false
namespace Go.Dv
open Go.Proofs
noncomputable section
abbrev XE (f:Nat) (pl:Nat->Option Way) (c:Code) (n:Nat) (r:List AV->AV):Prop:=∀ (args:List AV) (H:AH),Ev Tryz.prog C0 W0 f args H=(EvC Tryz.prog C0 W0 pl c (args++List.replicate (n - args.length) uA,H)).bind fun x=>match x with | (.normal,s)=>some (r s.1,s.2) | (.ret,s)=>some (r s.1,s.2) | _=>none
abbrev XR (f:Nat) (pl:Nat->Option Way) (c:Code) (n:Nat) (r:List AV->AV):Prop:=∀ (args:List AV) (H:AH),Ev Tryz.prog C0 W0 f args H=(EvC Tryz.prog C0 W0 pl c (args++List.replicate (n - args.length) uA,ro H)).bind fun x=>match x with | (.normal,s)=>finA true H (r s.1,s.2) | (.ret,s)=>finA true H (r s.1,s.2) | _=>none
abbrev XC (f:Nat):Prop:=∀ (C:Cfg Tryz.prog) (gl:GL) (slot:Option Nat) (tm:List AV) (H:AH) (o:Oper) (xs:Array Operand) (ats:Array TypeId),callA Tryz.prog C slot (evalA gl tm) o ⟨.value (.func f),xs,ats⟩ H=(evL (evalA gl tm) xs.toList).map fun vs=>(.enter f vs,H)
abbrev XL (pl:Nat->Option Way) (l b:Code):Prop:=∀ s:St,EvC Tryz.prog C0 W0 pl l s=(EvC Tryz.prog C0 W0 pl b s).bind fun r=>match r with | (.normal,s')=>EvC Tryz.prog C0 W0 pl l s' | r=>some r
def b3_0:Code:=atPath [true,true,false,true,false,false,true,false,false,true,false,true,false,false] (Tryz.f3.body.getD .skip)
def l3_0:Code:=Code.loop b3_0
theorem el3_0:XL plN l3_0 b3_0:=fun s=>EvC_loop _ _
def b3_1:Code:=atPath [true,true,false,true,false,false] (Tryz.f3.body.getD .skip)
def l3_1:Code:=Code.loop b3_1
theorem el3_1:XL plN l3_1 b3_1:=fun s=>EvC_loop _ _
def c3:Code:=Tryz.f3.body.getD .skip
theorem fe3:XE 3 plN c3 133 (fun t=>t.getD 6 uA):=fun args H=>Ev_eqW Tryz.func3 rfl rfl rfl args H (orc0 (by decide) args H)
def c4:Code:=Tryz.f4.body.getD .skip
def c5:Code:=Tryz.f5.body.getD .skip
def c6:Code:=Tryz.f6.body.getD .skip
def b8_0:Code:=atPath [true,true,false,true,false,false] (Tryz.f8.body.getD .skip)
def l8_0:Code:=Code.loop b8_0
theorem el8_0:XL plN l8_0 b8_0:=fun s=>EvC_loop _ _
def c8:Code:=Tryz.f8.body.getD .skip
theorem fe8:XR 8 plN c8 33 (fun t=>t.getD 2 uA):=fun args H=>Ev_eqR Tryz.func8 rfl rfl rfl args H (orc0 (by decide) args H)
theorem fc8:XC 8:=fun C gl slot tm H o xs ats=>callG (by rw [Tryz.func8]; rfl) C slot _ H o xs ats rfl
def b10_0:Code:=atPath [true,true,true,false,true,false,false] (Tryz.f10.body.getD .skip)
def l10_0:Code:=Code.loop b10_0
theorem el10_0:XL pl10 l10_0 b10_0:=fun s=>EvC_loop _ _
def b10_1:Code:=atPath [true,true,true,true,false,true,false,false,true,true,false,false,true,true,false,true,false,false] (Tryz.f10.body.getD .skip)
def l10_1:Code:=Code.loop b10_1
theorem el10_1:XL pl10 l10_1 b10_1:=fun s=>EvC_loop _ _
def b10_2:Code:=atPath [true,true,true,true,false,true,false,false] (Tryz.f10.body.getD .skip)
def l10_2:Code:=Code.loop b10_2
theorem el10_2:XL pl10 l10_2 b10_2:=fun s=>EvC_loop _ _
def c10:Code:=Tryz.f10.body.getD .skip
theorem fe10:XE 10 pl10 c10 100 (fun t=>.tuple [t.getD 8 uA,t.getD 9 uA]):=fun args H=>Ev_eqW Tryz.func10 rfl rfl rfl args H (orc0 (by decide) args H)
theorem fc10:XC 10:=fun C gl slot tm H o xs ats=>callG (by rw [Tryz.func10]; rfl) C slot _ H o xs ats rfl
def b11_0:Code:=atPath [true,false,false] (Tryz.f11.body.getD .skip)
def l11_0:Code:=Code.loop b11_0
theorem el11_0:XL plN l11_0 b11_0:=fun s=>EvC_loop _ _
def c11:Code:=Tryz.f11.body.getD .skip
theorem fe11:XE 11 plN c11 24 (fun t=>.tuple []):=fun args H=>Ev_eqW Tryz.func11 rfl rfl rfl args H (orc0 (by decide) args H)
theorem fc11:XC 11:=fun C gl slot tm H o xs ats=>callG (by rw [Tryz.func11]; rfl) C slot _ H o xs ats rfl
def c12:Code:=Tryz.f12.body.getD .skip
theorem fe12:XR 12 pl12 c12 33 (fun t=>.tuple [t.getD 2 uA,t.getD 3 uA]):=fun args H=>Ev_eqR Tryz.func12 rfl rfl rfl args H (orc0 (by decide) args H)
theorem fc12:XC 12:=fun C gl slot tm H o xs ats=>callG (by rw [Tryz.func12]; rfl) C slot _ H o xs ats rfl
def b13_0:Code:=atPath [true,true,false,true,false,false] (Tryz.f13.body.getD .skip)
def l13_0:Code:=Code.loop b13_0
theorem el13_0:XL pl13 l13_0 b13_0:=fun s=>EvC_loop _ _
def c13:Code:=Tryz.f13.body.getD .skip
theorem fe13:XR 13 pl13 c13 26 (fun t=>t.getD 4 uA):=fun args H=>Ev_eqR Tryz.func13 rfl rfl rfl args H (orc0 (by decide) args H)
theorem fc13:XC 13:=fun C gl slot tm H o xs ats=>callG (by rw [Tryz.func13]; rfl) C slot _ H o xs ats rfl
def b14_0:Code:=atPath [true,true,true,false,true,false,false] (Tryz.f14.body.getD .skip)
def l14_0:Code:=Code.loop b14_0
theorem el14_0:XL plN l14_0 b14_0:=fun s=>EvC_loop _ _
def c14:Code:=Tryz.f14.body.getD .skip
theorem fe14:XE 14 plN c14 34 (fun t=>t.getD 2 uA):=fun args H=>Ev_eqW Tryz.func14 rfl rfl rfl args H (orc0 (by decide) args H)
theorem fc14:XC 14:=fun C gl slot tm H o xs ats=>callG (by rw [Tryz.func14]; rfl) C slot _ H o xs ats rfl
def b15_0:Code:=atPath [true,true,true,false,true,false,false] (Tryz.f15.body.getD .skip)
def l15_0:Code:=Code.loop b15_0
theorem el15_0:XL plN l15_0 b15_0:=fun s=>EvC_loop _ _
def c15:Code:=Tryz.f15.body.getD .skip
theorem fe15:XE 15 plN c15 24 (fun t=>t.getD 2 uA):=fun args H=>Ev_eqW Tryz.func15 rfl rfl rfl args H (orc0 (by decide) args H)
theorem fc15:XC 15:=fun C gl slot tm H o xs ats=>callG (by rw [Tryz.func15]; rfl) C slot _ H o xs ats rfl
def b16_0:Code:=atPath [true,false,true,false,false] (Tryz.f16.body.getD .skip)
def l16_0:Code:=Code.loop b16_0
theorem el16_0:XL plN l16_0 b16_0:=fun s=>EvC_loop _ _
def b16_1:Code:=atPath [true,true,true,true,false,true,false,false] (Tryz.f16.body.getD .skip)
def l16_1:Code:=Code.loop b16_1
theorem el16_1:XL plN l16_1 b16_1:=fun s=>EvC_loop _ _
def b16_2:Code:=atPath [true,true,true,true,true,true,false,true,false,false] (Tryz.f16.body.getD .skip)
def l16_2:Code:=Code.loop b16_2
theorem el16_2:XL plN l16_2 b16_2:=fun s=>EvC_loop _ _
def b16_3:Code:=atPath [true,true,true,true,true,true,true,false,true,false,false,true,false,false,true,false,false] (Tryz.f16.body.getD .skip)
def l16_3:Code:=Code.loop b16_3
theorem el16_3:XL plN l16_3 b16_3:=fun s=>EvC_loop _ _
def b16_4:Code:=atPath [true,true,true,true,true,true,true,false,true,false,false] (Tryz.f16.body.getD .skip)
def l16_4:Code:=Code.loop b16_4
theorem el16_4:XL plN l16_4 b16_4:=fun s=>EvC_loop _ _
def c16:Code:=Tryz.f16.body.getD .skip
theorem fe16:XR 16 plN c16 103 (fun t=>t.getD 8 uA):=fun args H=>Ev_eqR Tryz.func16 rfl rfl rfl args H (orc0 (by decide) args H)
theorem fc16:XC 16:=fun C gl slot tm H o xs ats=>callG (by rw [Tryz.func16]; rfl) C slot _ H o xs ats rfl
def b17_0:Code:=atPath [true,true,true,false,true,false,false] (Tryz.f17.body.getD .skip)
def l17_0:Code:=Code.loop b17_0
theorem el17_0:XL plN l17_0 b17_0:=fun s=>EvC_loop _ _
def c17:Code:=Tryz.f17.body.getD .skip
theorem fe17:XE 17 plN c17 77 (fun t=>.tuple [t.getD 10 uA,t.getD 11 uA,t.getD 12 uA]):=fun args H=>Ev_eqW Tryz.func17 rfl rfl rfl args H (orc0 (by decide) args H)
theorem fc17:XC 17:=fun C gl slot tm H o xs ats=>callG (by rw [Tryz.func17]; rfl) C slot _ H o xs ats rfl
def b18_0:Code:=atPath [true,true,true,false,true,false,false,true,true,false,false,true,true,false,false] (Tryz.f18.body.getD .skip)
def l18_0:Code:=Code.loop b18_0
theorem el18_0:XL plN l18_0 b18_0:=fun s=>EvC_loop _ _
def b18_1:Code:=atPath [true,true,true,false,true,false,false] (Tryz.f18.body.getD .skip)
def l18_1:Code:=Code.loop b18_1
theorem el18_1:XL plN l18_1 b18_1:=fun s=>EvC_loop _ _
def c18:Code:=Tryz.f18.body.getD .skip
theorem fe18:XR 18 plN c18 64 (fun t=>.tuple [t.getD 6 uA,t.getD 7 uA]):=fun args H=>Ev_eqR Tryz.func18 rfl rfl rfl args H (orc0 (by decide) args H)
theorem fc18:XC 18:=fun C gl slot tm H o xs ats=>callG (by rw [Tryz.func18]; rfl) C slot _ H o xs ats rfl
def b25_0:Code:=atPath [true,true,false,true,false,false,true,false,false,true,true,false,false] (Tryz.f25.body.getD .skip)
def l25_0:Code:=Code.loop b25_0
theorem el25_0:XL pl25 l25_0 b25_0:=fun s=>EvC_loop _ _
def b25_1:Code:=atPath [true,true,false,true,false,false] (Tryz.f25.body.getD .skip)
def l25_1:Code:=Code.loop b25_1
theorem el25_1:XL pl25 l25_1 b25_1:=fun s=>EvC_loop _ _
def c25:Code:=Tryz.f25.body.getD .skip
theorem fe25:XR 25 pl25 c25 53 (fun t=>t.getD 4 uA):=fun args H=>Ev_eqR Tryz.func25 rfl rfl rfl args H (orc0 (by decide) args H)
theorem fc25:XC 25:=fun C gl slot tm H o xs ats=>callG (by rw [Tryz.func25]; rfl) C slot _ H o xs ats rfl
def b26_0:Code:=atPath [true,true,true,false,true,false,false] (Tryz.f26.body.getD .skip)
def l26_0:Code:=Code.loop b26_0
theorem el26_0:XL plN l26_0 b26_0:=fun s=>EvC_loop _ _
def b26_1:Code:=atPath [true,true,true,true,true,true,false,true,false,false,true,true,false,false,true,true,false,false] (Tryz.f26.body.getD .skip)
def l26_1:Code:=Code.loop b26_1
theorem el26_1:XL plN l26_1 b26_1:=fun s=>EvC_loop _ _
def b26_2:Code:=atPath [true,true,true,true,true,true,false,true,false,false] (Tryz.f26.body.getD .skip)
def l26_2:Code:=Code.loop b26_2
theorem el26_2:XL plN l26_2 b26_2:=fun s=>EvC_loop _ _
def c26:Code:=Tryz.f26.body.getD .skip
theorem fe26:XR 26 plN c26 81 (fun t=>t.getD 8 uA):=fun args H=>Ev_eqR Tryz.func26 rfl rfl rfl args H (orc0 (by decide) args H)
theorem fc26:XC 26:=fun C gl slot tm H o xs ats=>callG (by rw [Tryz.func26]; rfl) C slot _ H o xs ats rfl
def c27:Code:=Tryz.f27.body.getD .skip
theorem fe27:XE 27 plN c27 8 (fun t=>t.getD 2 uA):=fun args H=>Ev_eqW Tryz.func27 rfl rfl rfl args H (orc0 (by decide) args H)
theorem fc27:XC 27:=fun C gl slot tm H o xs ats=>callG (by rw [Tryz.func27]; rfl) C slot _ H o xs ats rfl
def b28_0:Code:=atPath [true,true,false,true,false,false] (Tryz.f28.body.getD .skip)
def l28_0:Code:=Code.loop b28_0
theorem el28_0:XL plN l28_0 b28_0:=fun s=>EvC_loop _ _
def c28:Code:=Tryz.f28.body.getD .skip
theorem fe28:XE 28 plN c28 23 (fun t=>t.getD 2 uA):=fun args H=>Ev_eqW Tryz.func28 rfl rfl rfl args H (orc0 (by decide) args H)
theorem fc28:XC 28:=fun C gl slot tm H o xs ats=>callG (by rw [Tryz.func28]; rfl) C slot _ H o xs ats rfl
def c29:Code:=Tryz.f29.body.getD .skip
theorem fe29:XE 29 plN c29 8 (fun t=>t.getD 2 uA):=fun args H=>Ev_eqW Tryz.func29 rfl rfl rfl args H (orc0 (by decide) args H)
theorem fc29:XC 29:=fun C gl slot tm H o xs ats=>callG (by rw [Tryz.func29]; rfl) C slot _ H o xs ats rfl
def c30:Code:=Tryz.f30.body.getD .skip
theorem fe30:XE 30 plN c30 8 (fun t=>t.getD 2 uA):=fun args H=>Ev_eqW Tryz.func30 rfl rfl rfl args H (orc0 (by decide) args H)
theorem fc30:XC 30:=fun C gl slot tm H o xs ats=>callG (by rw [Tryz.func30]; rfl) C slot _ H o xs ats rfl
def c31:Code:=Tryz.f31.body.getD .skip
theorem fe31:XE 31 plN c31 8 (fun t=>t.getD 2 uA):=fun args H=>Ev_eqW Tryz.func31 rfl rfl rfl args H (orc0 (by decide) args H)
theorem fc31:XC 31:=fun C gl slot tm H o xs ats=>callG (by rw [Tryz.func31]; rfl) C slot _ H o xs ats rfl
def c32:Code:=Tryz.f32.body.getD .skip
theorem fe32:XE 32 plN c32 8 (fun t=>t.getD 2 uA):=fun args H=>Ev_eqW Tryz.func32 rfl rfl rfl args H (orc0 (by decide) args H)
theorem fc32:XC 32:=fun C gl slot tm H o xs ats=>callG (by rw [Tryz.func32]; rfl) C slot _ H o xs ats rfl
def b33_0:Code:=atPath [true,true,true,false,true,false,false] (Tryz.f33.body.getD .skip)
def l33_0:Code:=Code.loop b33_0
theorem el33_0:XL pl33 l33_0 b33_0:=fun s=>EvC_loop _ _
def c33:Code:=Tryz.f33.body.getD .skip
theorem fe33:XE 33 pl33 c33 64 (fun t=>t.getD 2 uA):=fun args H=>Ev_eqW Tryz.func33 rfl rfl rfl args H (orc0 (by decide) args H)
theorem fc33:XC 33:=fun C gl slot tm H o xs ats=>callG (by rw [Tryz.func33]; rfl) C slot _ H o xs ats rfl
def b34_0:Code:=atPath [true,true,true,true,true,true,false,true,false,true,true,true,true,true,false,true,false,false] (Tryz.f34.body.getD .skip)
def l34_0:Code:=Code.loop b34_0
theorem el34_0:XL pl34 l34_0 b34_0:=fun s=>EvC_loop _ _
def c34:Code:=Tryz.f34.body.getD .skip
def r34 (s:St):Option (AV × AH):=retA Tryz.prog Tryz.f34 s
theorem fe34 (args:List AV) (H:AH):Ev Tryz.prog C0 W0 34 args H=(EvC Tryz.prog C0 W0 pl34 c34 (args++List.replicate (163 - args.length) uA,H)).bind fun r=>match r with | (.normal,s)=>r34 s | (.ret,s)=>r34 s | _=>none:=Ev_eqW Tryz.func34 rfl rfl rfl args H (orc0 (by decide) args H)
theorem fc34:XC 34:=fun C gl slot tm H o xs ats=>callG (by rw [Tryz.func34]; rfl) C slot _ H o xs ats rfl
def c35:Code:=Tryz.f35.body.getD .skip
theorem fe35:XR 35 plN c35 21 (fun t=>t.getD 6 uA):=fun args H=>Ev_eqR Tryz.func35 rfl rfl rfl args H (orc0 (by decide) args H)
theorem fc35:XC 35:=fun C gl slot tm H o xs ats=>callG (by rw [Tryz.func35]; rfl) C slot _ H o xs ats rfl
def b36_0:Code:=atPath [true,true,false,true,false,false] (Tryz.f36.body.getD .skip)
def l36_0:Code:=Code.loop b36_0
theorem el36_0:XL plN l36_0 b36_0:=fun s=>EvC_loop _ _
def c36:Code:=Tryz.f36.body.getD .skip
theorem fe36:XR 36 plN c36 18 (fun t=>t.getD 2 uA):=fun args H=>Ev_eqR Tryz.func36 rfl rfl rfl args H (orc0 (by decide) args H)
theorem fc36:XC 36:=fun C gl slot tm H o xs ats=>callG (by rw [Tryz.func36]; rfl) C slot _ H o xs ats rfl
def b37_0:Code:=atPath [true,true,true,false,true,false,false] (Tryz.f37.body.getD .skip)
def l37_0:Code:=Code.loop b37_0
theorem el37_0:XL pl37 l37_0 b37_0:=fun s=>EvC_loop _ _
def c37:Code:=Tryz.f37.body.getD .skip
theorem fe37:XR 37 pl37 c37 60 (fun t=>t.getD 2 uA):=fun args H=>Ev_eqR Tryz.func37 rfl rfl rfl args H (orc0 (by decide) args H)
theorem fc37:XC 37:=fun C gl slot tm H o xs ats=>callG (by rw [Tryz.func37]; rfl) C slot _ H o xs ats rfl
def c38:Code:=Tryz.f38.body.getD .skip
theorem fe38:XR 38 plN c38 48 (fun t=>t.getD 2 uA):=fun args H=>Ev_eqR Tryz.func38 rfl rfl rfl args H (orc0 (by decide) args H)
theorem fc38:XC 38:=fun C gl slot tm H o xs ats=>callG (by rw [Tryz.func38]; rfl) C slot _ H o xs ats rfl
def c39:Code:=Tryz.f39.body.getD .skip
theorem fe39:XR 39 pl39 c39 162 (fun t=>t.getD 6 uA):=fun args H=>Ev_eqR Tryz.func39 rfl rfl rfl args H (orc0 (by decide) args H)
theorem fc39:XC 39:=fun C gl slot tm H o xs ats=>callG (by rw [Tryz.func39]; rfl) C slot _ H o xs ats rfl
def c40:Code:=Tryz.f40.body.getD .skip
theorem fe40:XE 40 plN c40 10 (fun t=>t.getD 2 uA):=fun args H=>Ev_eqW Tryz.func40 rfl rfl rfl args H (orc0 (by decide) args H)
theorem fc40:XC 40:=fun C gl slot tm H o xs ats=>callG (by rw [Tryz.func40]; rfl) C slot _ H o xs ats rfl
def c41:Code:=Tryz.f41.body.getD .skip
def r41 (s:St):Option (AV × AH):=retA Tryz.prog Tryz.f41 s
theorem fr41 (tm:List AV) (H:AH):r41 (tm,H)=match tm.getD 0 uA with | .ptr i k=>(ldA Tryz.prog 27 H i k).map fun v=>(v,H) | _=>none:=retA_cell1 (by rfl) tm H
theorem fe41 (args:List AV) (H:AH):Ev Tryz.prog C0 W0 41 args H=(EvC Tryz.prog C0 W0 plN c41 (args++List.replicate (2 - args.length) uA,H)).bind fun r=>match r with | (.normal,s)=>r41 s | (.ret,s)=>r41 s | _=>none:=Ev_eqW Tryz.func41 rfl rfl rfl args H (orc0 (by decide) args H)
theorem fc41:XC 41:=fun C gl slot tm H o xs ats=>callG (by rw [Tryz.func41]; rfl) C slot _ H o xs ats rfl
def b42_0:Code:=atPath [true,true,true,false,true,false,false,true,true,false,false,true,true,false,false] (Tryz.f42.body.getD .skip)
def l42_0:Code:=Code.loop b42_0
theorem el42_0:XL pl42 l42_0 b42_0:=fun s=>EvC_loop _ _
def b42_1:Code:=atPath [true,true,true,false,true,false,false] (Tryz.f42.body.getD .skip)
def l42_1:Code:=Code.loop b42_1
theorem el42_1:XL pl42 l42_1 b42_1:=fun s=>EvC_loop _ _
def b42_2:Code:=atPath [true,true,true,true,false,true,false,false] (Tryz.f42.body.getD .skip)
def l42_2:Code:=Code.loop b42_2
theorem el42_2:XL pl42 l42_2 b42_2:=fun s=>EvC_loop _ _
def c42:Code:=Tryz.f42.body.getD .skip
def r42 (s:St):Option (AV × AH):=retA Tryz.prog Tryz.f42 s
theorem fr42 (tm:List AV) (H:AH):r42 (tm,H)=match tm.getD 2 uA with | .ptr i k=>(ldA Tryz.prog 93 H i k).map fun v=>(v,H) | _=>none:=retA_cell1 (by rfl) tm H
theorem fe42 (args:List AV) (H:AH):Ev Tryz.prog C0 W0 42 args H=(EvC Tryz.prog C0 W0 pl42 c42 (args++List.replicate (111 - args.length) uA,H)).bind fun r=>match r with | (.normal,s)=>r42 s | (.ret,s)=>r42 s | _=>none:=Ev_eqW Tryz.func42 rfl rfl rfl args H (orc0 (by decide) args H)
theorem fc42:XC 42:=fun C gl slot tm H o xs ats=>callG (by rw [Tryz.func42]; rfl) C slot _ H o xs ats rfl
def c43:Code:=Tryz.f43.body.getD .skip
theorem fe43:XR 43 plN c43 34 (fun t=>t.getD 6 uA):=fun args H=>Ev_eqR Tryz.func43 rfl rfl rfl args H (orc0 (by decide) args H)
theorem fc43:XC 43:=fun C gl slot tm H o xs ats=>callG (by rw [Tryz.func43]; rfl) C slot _ H o xs ats rfl
def b44_0:Code:=atPath [true,true,false,true,false,false,true,false,true,true,true,false,false] (Tryz.f44.body.getD .skip)
def l44_0:Code:=Code.loop b44_0
theorem el44_0:XL plN l44_0 b44_0:=fun s=>EvC_loop _ _
def b44_1:Code:=atPath [true,true,false,true,false,false] (Tryz.f44.body.getD .skip)
def l44_1:Code:=Code.loop b44_1
theorem el44_1:XL plN l44_1 b44_1:=fun s=>EvC_loop _ _
def c44:Code:=Tryz.f44.body.getD .skip
theorem fe44:XE 44 plN c44 43 (fun t=>t.getD 4 uA):=fun args H=>Ev_eqW Tryz.func44 rfl rfl rfl args H (orc0 (by decide) args H)
theorem fc44:XC 44:=fun C gl slot tm H o xs ats=>callG (by rw [Tryz.func44]; rfl) C slot _ H o xs ats rfl
def c56:Code:=Tryz.f56.body.getD .skip
theorem fe56:XR 56 plN c56 38 (fun t=>t.getD 2 uA):=fun args H=>Ev_eqR Tryz.func56 rfl rfl rfl args H (orc0 (by decide) args H)
theorem fc56:XC 56:=fun C gl slot tm H o xs ats=>callG (by rw [Tryz.func56]; rfl) C slot _ H o xs ats rfl
def c57:Code:=Tryz.f57.body.getD .skip
theorem fe57:XR 57 plN c57 9 (fun t=>t.getD 4 uA):=fun args H=>Ev_eqR Tryz.func57 rfl rfl rfl args H (orc0 (by decide) args H)
theorem fc57:XC 57:=fun C gl slot tm H o xs ats=>callG (by rw [Tryz.func57]; rfl) C slot _ H o xs ats rfl
def c58:Code:=Tryz.f58.body.getD .skip
theorem fe58:XR 58 plN c58 6 (fun t=>t.getD 2 uA):=fun args H=>Ev_eqR Tryz.func58 rfl rfl rfl args H (orc0 (by decide) args H)
def b59_0:Code:=atPath [true,true,true,true,true,false,true,false,false] (Tryz.f59.body.getD .skip)
def l59_0:Code:=Code.loop b59_0
theorem el59_0:XL plN l59_0 b59_0:=fun s=>EvC_loop _ _
def c59:Code:=Tryz.f59.body.getD .skip
theorem fe59:XR 59 plN c59 49 (fun t=>t.getD 2 uA):=fun args H=>Ev_eqR Tryz.func59 rfl rfl rfl args H (orc0 (by decide) args H)
theorem fc59:XC 59:=fun C gl slot tm H o xs ats=>callG (by rw [Tryz.func59]; rfl) C slot _ H o xs ats rfl
def c60:Code:=Tryz.f60.body.getD .skip
theorem fe60:XR 60 plN c60 9 (fun t=>t.getD 4 uA):=fun args H=>Ev_eqR Tryz.func60 rfl rfl rfl args H (orc0 (by decide) args H)
theorem fc60:XC 60:=fun C gl slot tm H o xs ats=>callG (by rw [Tryz.func60]; rfl) C slot _ H o xs ats rfl
def c61:Code:=Tryz.f61.body.getD .skip
theorem fe61:XR 61 plN c61 6 (fun t=>t.getD 2 uA):=fun args H=>Ev_eqR Tryz.func61 rfl rfl rfl args H (orc0 (by decide) args H)
def c62:Code:=Tryz.f62.body.getD .skip
theorem fe62:XR 62 pl62 c62 181 (fun t=>t.getD 6 uA):=fun args H=>Ev_eqR Tryz.func62 rfl rfl rfl args H (orc0 (by decide) args H)
theorem fc62:XC 62:=fun C gl slot tm H o xs ats=>callG (by rw [Tryz.func62]; rfl) C slot _ H o xs ats rfl
def c63:Code:=Tryz.f63.body.getD .skip
theorem fe63:XR 63 plN c63 9 (fun t=>t.getD 4 uA):=fun args H=>Ev_eqR Tryz.func63 rfl rfl rfl args H (orc0 (by decide) args H)
theorem fc63:XC 63:=fun C gl slot tm H o xs ats=>callG (by rw [Tryz.func63]; rfl) C slot _ H o xs ats rfl
def c65:Code:=Tryz.f65.body.getD .skip
def r65 (s:St):Option (AV × AH):=retA Tryz.prog Tryz.f65 s
theorem fr65 (tm:List AV) (H:AH):r65 (tm,H)=match tm.getD 4 uA with | .ptr i k=>(ldA Tryz.prog 126 H i k).map fun v=>(v,H) | _=>none:=retA_cell1 (by rfl) tm H
theorem fe65 (args:List AV) (H:AH):Ev Tryz.prog C0 W0 65 args H=(EvC Tryz.prog C0 W0 plN c65 (args++List.replicate (14 - args.length) uA,ro H)).bind fun r=>match r with | (.normal,s)=>(r65 s).bind (finA true H) | (.ret,s)=>(r65 s).bind (finA true H) | _=>none:=Ev_eqR Tryz.func65 rfl rfl rfl args H (orc0 (by decide) args H)
theorem fc65:XC 65:=fun C gl slot tm H o xs ats=>callG (by rw [Tryz.func65]; rfl) C slot _ H o xs ats rfl
theorem rds65:C0.reads 65=true:=rfl
def b66_0:Code:=atPath [true,true,true,false,true,false,false] (Tryz.f66.body.getD .skip)
def l66_0:Code:=Code.loop b66_0
theorem el66_0:XL pl66 l66_0 b66_0:=fun s=>EvC_loop _ _
def b66_1:Code:=atPath [true,true,true,true,false,true,false,false] (Tryz.f66.body.getD .skip)
def l66_1:Code:=Code.loop b66_1
theorem el66_1:XL pl66 l66_1 b66_1:=fun s=>EvC_loop _ _
def b66_2:Code:=atPath [true,true,true,true,true,false,true,false,false,true,false,false,true,true,false,false] (Tryz.f66.body.getD .skip)
def l66_2:Code:=Code.loop b66_2
theorem el66_2:XL pl66 l66_2 b66_2:=fun s=>EvC_loop _ _
def b66_3:Code:=atPath [true,true,true,true,true,false,true,false,false] (Tryz.f66.body.getD .skip)
def l66_3:Code:=Code.loop b66_3
theorem el66_3:XL pl66 l66_3 b66_3:=fun s=>EvC_loop _ _
def c66:Code:=Tryz.f66.body.getD .skip
theorem fe66:XR 66 pl66 c66 98 (fun t=>t.getD 2 uA):=fun args H=>Ev_eqR Tryz.func66 rfl rfl rfl args H (orc0 (by decide) args H)
theorem fc66:XC 66:=fun C gl slot tm H o xs ats=>callG (by rw [Tryz.func66]; rfl) C slot _ H o xs ats rfl
def c67:Code:=Tryz.f67.body.getD .skip
theorem fe67:XR 67 plN c67 95 (fun t=>t.getD 4 uA):=fun args H=>Ev_eqR Tryz.func67 rfl rfl rfl args H (orc0 (by decide) args H)
theorem fc67:XC 67:=fun C gl slot tm H o xs ats=>callG (by rw [Tryz.func67]; rfl) C slot _ H o xs ats rfl
theorem rds67:C0.reads 67=true:=rfl
def c68:Code:=Tryz.f68.body.getD .skip
theorem fe68:XR 68 plN c68 19 (fun t=>t.getD 4 uA):=fun args H=>Ev_eqR Tryz.func68 rfl rfl rfl args H (orc0 (by decide) args H)
theorem fc68:XC 68:=fun C gl slot tm H o xs ats=>callG (by rw [Tryz.func68]; rfl) C slot _ H o xs ats rfl
def b69_0:Code:=atPath [true,false,true,false,false] (Tryz.f69.body.getD .skip)
def l69_0:Code:=Code.loop b69_0
theorem el69_0:XL plN l69_0 b69_0:=fun s=>EvC_loop _ _
def c69:Code:=Tryz.f69.body.getD .skip
theorem fe69:XR 69 plN c69 30 (fun t=>t.getD 6 uA):=fun args H=>Ev_eqR Tryz.func69 rfl rfl rfl args H (orc0 (by decide) args H)
theorem fc69:XC 69:=fun C gl slot tm H o xs ats=>callG (by rw [Tryz.func69]; rfl) C slot _ H o xs ats rfl
theorem rds69:C0.reads 69=true:=rfl
def c70:Code:=Tryz.f70.body.getD .skip
def r70 (s:St):Option (AV × AH):=retA Tryz.prog Tryz.f70 s
theorem fr70 (tm:List AV) (H:AH):r70 (tm,H)=match tm.getD 4 uA with | .ptr i k=>(ldA Tryz.prog 126 H i k).map fun v=>(v,H) | _=>none:=retA_cell1 (by rfl) tm H
theorem fe70 (args:List AV) (H:AH):Ev Tryz.prog C0 W0 70 args H=(EvC Tryz.prog C0 W0 plN c70 (args++List.replicate (14 - args.length) uA,ro H)).bind fun r=>match r with | (.normal,s)=>(r70 s).bind (finA true H) | (.ret,s)=>(r70 s).bind (finA true H) | _=>none:=Ev_eqR Tryz.func70 rfl rfl rfl args H (orc0 (by decide) args H)
theorem fc70:XC 70:=fun C gl slot tm H o xs ats=>callG (by rw [Tryz.func70]; rfl) C slot _ H o xs ats rfl
theorem rds70:C0.reads 70=true:=rfl
def c71:Code:=Tryz.f71.body.getD .skip
theorem fe71:XR 71 plN c71 22 (fun t=>t.getD 2 uA):=fun args H=>Ev_eqR Tryz.func71 rfl rfl rfl args H (orc0 (by decide) args H)
theorem fc71:XC 71:=fun C gl slot tm H o xs ats=>callG (by rw [Tryz.func71]; rfl) C slot _ H o xs ats rfl
theorem rds71:C0.reads 71=true:=rfl
def c72:Code:=Tryz.f72.body.getD .skip
theorem fe72:XE 72 plN c72 8 (fun t=>t.getD 4 uA):=fun args H=>Ev_eqW Tryz.func72 rfl rfl rfl args H (orc0 (by decide) args H)
def c73:Code:=Tryz.f73.body.getD .skip
theorem fe73:XR 73 plN c73 9 (fun t=>t.getD 4 uA):=fun args H=>Ev_eqR Tryz.func73 rfl rfl rfl args H (orc0 (by decide) args H)
theorem fc73:XC 73:=fun C gl slot tm H o xs ats=>callG (by rw [Tryz.func73]; rfl) C slot _ H o xs ats rfl
def c74:Code:=Tryz.f74.body.getD .skip
theorem fe74:XR 74 plN c74 7 (fun t=>t.getD 3 uA):=fun args H=>Ev_eqR Tryz.func74 rfl rfl rfl args H (orc0 (by decide) args H)
def b75_0:Code:=atPath [true,false,true,false,true,false,false,true,false,false] (Tryz.f75.body.getD .skip)
def l75_0:Code:=Code.loop b75_0
theorem el75_0:XL pl75 l75_0 b75_0:=fun s=>EvC_loop _ _
def c75:Code:=Tryz.f75.body.getD .skip
theorem fe75:XE 75 pl75 c75 56 (fun t=>.tuple [t.getD 4 uA,t.getD 5 uA]):=fun args H=>Ev_eqW Tryz.func75 rfl rfl rfl args H (orc0 (by decide) args H)
theorem fc75:XC 75:=fun C gl slot tm H o xs ats=>callG (by rw [Tryz.func75]; rfl) C slot _ H o xs ats rfl
def c84:Code:=Tryz.f84.body.getD .skip
theorem fe84:XR 84 plN c84 15 (fun t=>t.getD 6 uA):=fun args H=>Ev_eqR Tryz.func84 rfl rfl rfl args H (orc0 (by decide) args H)
def b85_0:Code:=atPath [true,false,true,false,false] (Tryz.f85.body.getD .skip)
def l85_0:Code:=Code.loop b85_0
theorem el85_0:XL plN l85_0 b85_0:=fun s=>EvC_loop _ _
def c85:Code:=Tryz.f85.body.getD .skip
theorem fe85:XR 85 plN c85 19 (fun t=>t.getD 4 uA):=fun args H=>Ev_eqR Tryz.func85 rfl rfl rfl args H (orc0 (by decide) args H)
theorem fc85:XC 85:=fun C gl slot tm H o xs ats=>callG (by rw [Tryz.func85]; rfl) C slot _ H o xs ats rfl
def b86_0:Code:=atPath [true,true,true,false,true,false,false] (Tryz.f86.body.getD .skip)
def l86_0:Code:=Code.loop b86_0
theorem el86_0:XL plN l86_0 b86_0:=fun s=>EvC_loop _ _
def b86_1:Code:=atPath [true,true,true,true,false,true,false,false] (Tryz.f86.body.getD .skip)
def l86_1:Code:=Code.loop b86_1
theorem el86_1:XL plN l86_1 b86_1:=fun s=>EvC_loop _ _
def c86:Code:=Tryz.f86.body.getD .skip
theorem fe86:XR 86 plN c86 87 (fun t=>t.getD 2 uA):=fun args H=>Ev_eqR Tryz.func86 rfl rfl rfl args H (orc0 (by decide) args H)
theorem fc86:XC 86:=fun C gl slot tm H o xs ats=>callG (by rw [Tryz.func86]; rfl) C slot _ H o xs ats rfl
theorem fc87:XC 87:=fun C gl slot tm H o xs ats=>callG (by rw [Tryz.func87]; rfl) C slot _ H o xs ats rfl
def c88:Code:=Tryz.f88.body.getD .skip
theorem fe88:XR 88 plN c88 93 (fun t=>t.getD 6 uA):=fun args H=>Ev_eqR Tryz.func88 rfl rfl rfl args H (orc0 (by decide) args H)
theorem fc88:XC 88:=fun C gl slot tm H o xs ats=>callG (by rw [Tryz.func88]; rfl) C slot _ H o xs ats rfl
def b89_0:Code:=atPath [true,false,true,false,false] (Tryz.f89.body.getD .skip)
def l89_0:Code:=Code.loop b89_0
theorem el89_0:XL plN l89_0 b89_0:=fun s=>EvC_loop _ _
def c89:Code:=Tryz.f89.body.getD .skip
theorem fe89:XR 89 plN c89 19 (fun t=>t.getD 4 uA):=fun args H=>Ev_eqR Tryz.func89 rfl rfl rfl args H (orc0 (by decide) args H)
theorem fc89:XC 89:=fun C gl slot tm H o xs ats=>callG (by rw [Tryz.func89]; rfl) C slot _ H o xs ats rfl
def c90:Code:=Tryz.f90.body.getD .skip
theorem fe90:XR 90 plN c90 12 (fun t=>t.getD 3 uA):=fun args H=>Ev_eqR Tryz.func90 rfl rfl rfl args H (orc0 (by decide) args H)
theorem rds90:C0.reads 90=true:=rfl
def b91_0:Code:=atPath [true,true,false,true,false,false] (Tryz.f91.body.getD .skip)
def l91_0:Code:=Code.loop b91_0
theorem el91_0:XL plN l91_0 b91_0:=fun s=>EvC_loop _ _
def b91_1:Code:=atPath [true,true,true,false,true,false,false] (Tryz.f91.body.getD .skip)
def l91_1:Code:=Code.loop b91_1
theorem el91_1:XL plN l91_1 b91_1:=fun s=>EvC_loop _ _
def c91:Code:=Tryz.f91.body.getD .skip
theorem fe91:XR 91 plN c91 52 (fun t=>t.getD 6 uA):=fun args H=>Ev_eqR Tryz.func91 rfl rfl rfl args H (orc0 (by decide) args H)
theorem fc91:XC 91:=fun C gl slot tm H o xs ats=>callG (by rw [Tryz.func91]; rfl) C slot _ H o xs ats rfl
theorem rds91:C0.reads 91=true:=rfl
def b92_0:Code:=atPath [true,false,true,false,false] (Tryz.f92.body.getD .skip)
def l92_0:Code:=Code.loop b92_0
theorem el92_0:XL plN l92_0 b92_0:=fun s=>EvC_loop _ _
def c92:Code:=Tryz.f92.body.getD .skip
theorem fe92:XR 92 plN c92 19 (fun t=>t.getD 4 uA):=fun args H=>Ev_eqR Tryz.func92 rfl rfl rfl args H (orc0 (by decide) args H)
theorem fc92:XC 92:=fun C gl slot tm H o xs ats=>callG (by rw [Tryz.func92]; rfl) C slot _ H o xs ats rfl
def c96:Code:=Tryz.f96.body.getD .skip
theorem fe96:XR 96 plN c96 16 (fun t=>t.getD 2 uA):=fun args H=>Ev_eqR Tryz.func96 rfl rfl rfl args H (orc0 (by decide) args H)
theorem fc96:XC 96:=fun C gl slot tm H o xs ats=>callG (by rw [Tryz.func96]; rfl) C slot _ H o xs ats rfl
def c97:Code:=Tryz.f97.body.getD .skip
theorem fe97:XR 97 plN c97 24 (fun t=>.tuple [t.getD 2 uA,t.getD 3 uA,t.getD 4 uA]):=fun args H=>Ev_eqR Tryz.func97 rfl rfl rfl args H (orc0 (by decide) args H)
theorem fc97:XC 97:=fun C gl slot tm H o xs ats=>callG (by rw [Tryz.func97]; rfl) C slot _ H o xs ats rfl
def c98:Code:=Tryz.f98.body.getD .skip
theorem fe98:XR 98 plN c98 15 (fun t=>t.getD 4 uA):=fun args H=>Ev_eqR Tryz.func98 rfl rfl rfl args H (orc0 (by decide) args H)
theorem fc98:XC 98:=fun C gl slot tm H o xs ats=>callG (by rw [Tryz.func98]; rfl) C slot _ H o xs ats rfl
def c99:Code:=Tryz.f99.body.getD .skip
theorem fe99:XR 99 plN c99 44 (fun t=>t.getD 2 uA):=fun args H=>Ev_eqR Tryz.func99 rfl rfl rfl args H (orc0 (by decide) args H)
theorem fc99:XC 99:=fun C gl slot tm H o xs ats=>callG (by rw [Tryz.func99]; rfl) C slot _ H o xs ats rfl
def c100:Code:=Tryz.f100.body.getD .skip
theorem fe100:XR 100 plN c100 69 (fun t=>t.getD 4 uA):=fun args H=>Ev_eqR Tryz.func100 rfl rfl rfl args H (orc0 (by decide) args H)
theorem fc100:XC 100:=fun C gl slot tm H o xs ats=>callG (by rw [Tryz.func100]; rfl) C slot _ H o xs ats rfl
def b101_0:Code:=atPath [true,true,false,true,false,false] (Tryz.f101.body.getD .skip)
def l101_0:Code:=Code.loop b101_0
theorem el101_0:XL plN l101_0 b101_0:=fun s=>EvC_loop _ _
def c101:Code:=Tryz.f101.body.getD .skip
theorem fe101:XR 101 plN c101 73 (fun t=>t.getD 6 uA):=fun args H=>Ev_eqR Tryz.func101 rfl rfl rfl args H (orc0 (by decide) args H)
theorem fc101:XC 101:=fun C gl slot tm H o xs ats=>callG (by rw [Tryz.func101]; rfl) C slot _ H o xs ats rfl
def b102_0:Code:=atPath [true,false,true,false,false] (Tryz.f102.body.getD .skip)
def l102_0:Code:=Code.loop b102_0
theorem el102_0:XL plN l102_0 b102_0:=fun s=>EvC_loop _ _
def c102:Code:=Tryz.f102.body.getD .skip
theorem fe102:XR 102 plN c102 19 (fun t=>t.getD 4 uA):=fun args H=>Ev_eqR Tryz.func102 rfl rfl rfl args H (orc0 (by decide) args H)
theorem fc102:XC 102:=fun C gl slot tm H o xs ats=>callG (by rw [Tryz.func102]; rfl) C slot _ H o xs ats rfl
def b104_0:Code:=atPath [true,true,false,true,false,false] (Tryz.f104.body.getD .skip)
def l104_0:Code:=Code.loop b104_0
theorem el104_0:XL plN l104_0 b104_0:=fun s=>EvC_loop _ _
def c104:Code:=Tryz.f104.body.getD .skip
theorem fe104:XR 104 plN c104 33 (fun t=>t.getD 2 uA):=fun args H=>Ev_eqR Tryz.func104 rfl rfl rfl args H (orc0 (by decide) args H)
theorem fc104:XC 104:=fun C gl slot tm H o xs ats=>callG (by rw [Tryz.func104]; rfl) C slot _ H o xs ats rfl
def c105:Code:=Tryz.f105.body.getD .skip
theorem fe105:XR 105 plN c105 11 (fun t=>t.getD 2 uA):=fun args H=>Ev_eqR Tryz.func105 rfl rfl rfl args H (orc0 (by decide) args H)
theorem fc105:XC 105:=fun C gl slot tm H o xs ats=>callG (by rw [Tryz.func105]; rfl) C slot _ H o xs ats rfl
def c106:Code:=Tryz.f106.body.getD .skip
theorem fe106:XR 106 plN c106 18 (fun t=>t.getD 6 uA):=fun args H=>Ev_eqR Tryz.func106 rfl rfl rfl args H (orc0 (by decide) args H)
theorem fc106:XC 106:=fun C gl slot tm H o xs ats=>callG (by rw [Tryz.func106]; rfl) C slot _ H o xs ats rfl
def c107:Code:=Tryz.f107.body.getD .skip
theorem fe107:XR 107 plN c107 61 (fun t=>t.getD 6 uA):=fun args H=>Ev_eqR Tryz.func107 rfl rfl rfl args H (orc0 (by decide) args H)
theorem fc107:XC 107:=fun C gl slot tm H o xs ats=>callG (by rw [Tryz.func107]; rfl) C slot _ H o xs ats rfl
def b108_0:Code:=atPath [true,true,false,true,false,false] (Tryz.f108.body.getD .skip)
def l108_0:Code:=Code.loop b108_0
theorem el108_0:XL plN l108_0 b108_0:=fun s=>EvC_loop _ _
def c108:Code:=Tryz.f108.body.getD .skip
theorem fe108:XR 108 plN c108 68 (fun t=>t.getD 4 uA):=fun args H=>Ev_eqR Tryz.func108 rfl rfl rfl args H (orc0 (by decide) args H)
theorem fc108:XC 108:=fun C gl slot tm H o xs ats=>callG (by rw [Tryz.func108]; rfl) C slot _ H o xs ats rfl
def b119_0:Code:=atPath [true,true,false,true,false,false] (Tryz.f119.body.getD .skip)
def l119_0:Code:=Code.loop b119_0
theorem el119_0:XL plN l119_0 b119_0:=fun s=>EvC_loop _ _
def c119:Code:=Tryz.f119.body.getD .skip
theorem fe119:XR 119 plN c119 23 (fun t=>t.getD 2 uA):=fun args H=>Ev_eqR Tryz.func119 rfl rfl rfl args H (orc0 (by decide) args H)
theorem fc119:XC 119:=fun C gl slot tm H o xs ats=>callG (by rw [Tryz.func119]; rfl) C slot _ H o xs ats rfl
def b120_0:Code:=atPath [true,false,true,false,false] (Tryz.f120.body.getD .skip)
def l120_0:Code:=Code.loop b120_0
theorem el120_0:XL plN l120_0 b120_0:=fun s=>EvC_loop _ _
def c120:Code:=Tryz.f120.body.getD .skip
theorem fe120:XR 120 plN c120 18 (fun t=>t.getD 4 uA):=fun args H=>Ev_eqR Tryz.func120 rfl rfl rfl args H (orc0 (by decide) args H)
theorem fc120:XC 120:=fun C gl slot tm H o xs ats=>callG (by rw [Tryz.func120]; rfl) C slot _ H o xs ats rfl
def c121:Code:=Tryz.f121.body.getD .skip
theorem fe121:XE 121 plN c121 2 (fun t=>t.getD 0 uA):=fun args H=>Ev_eqW Tryz.func121 rfl rfl rfl args H (orc0 (by decide) args H)
theorem fc121:XC 121:=fun C gl slot tm H o xs ats=>callG (by rw [Tryz.func121]; rfl) C slot _ H o xs ats rfl
def c122:Code:=Tryz.f122.body.getD .skip
theorem fe122:XR 122 plN c122 11 (fun t=>t.getD 2 uA):=fun args H=>Ev_eqR Tryz.func122 rfl rfl rfl args H (orc0 (by decide) args H)
theorem fc122:XC 122:=fun C gl slot tm H o xs ats=>callG (by rw [Tryz.func122]; rfl) C slot _ H o xs ats rfl
def c123:Code:=Tryz.f123.body.getD .skip
theorem fe123:XR 123 plN c123 32 (fun t=>t.getD 4 uA):=fun args H=>Ev_eqR Tryz.func123 rfl rfl rfl args H (orc0 (by decide) args H)
theorem fc123:XC 123:=fun C gl slot tm H o xs ats=>callG (by rw [Tryz.func123]; rfl) C slot _ H o xs ats rfl
def c129:Code:=Tryz.f129.body.getD .skip
theorem fe129:XR 129 plN c129 17 (fun t=>t.getD 2 uA):=fun args H=>Ev_eqR Tryz.func129 rfl rfl rfl args H (orc0 (by decide) args H)
theorem fc129:XC 129:=fun C gl slot tm H o xs ats=>callG (by rw [Tryz.func129]; rfl) C slot _ H o xs ats rfl
theorem fc130:XC 130:=fun C gl slot tm H o xs ats=>callG (by rw [Tryz.func130]; rfl) C slot _ H o xs ats rfl
def c131:Code:=Tryz.f131.body.getD .skip
theorem fe131:XR 131 plN c131 13 (fun t=>t.getD 2 uA):=fun args H=>Ev_eqR Tryz.func131 rfl rfl rfl args H (orc0 (by decide) args H)
theorem fc131:XC 131:=fun C gl slot tm H o xs ats=>callG (by rw [Tryz.func131]; rfl) C slot _ H o xs ats rfl
def c132:Code:=Tryz.f132.body.getD .skip
theorem fe132:XR 132 plN c132 15 (fun t=>.tuple [t.getD 2 uA,t.getD 3 uA]):=fun args H=>Ev_eqR Tryz.func132 rfl rfl rfl args H (orc0 (by decide) args H)
theorem fc132:XC 132:=fun C gl slot tm H o xs ats=>callG (by rw [Tryz.func132]; rfl) C slot _ H o xs ats rfl
def c133:Code:=Tryz.f133.body.getD .skip
theorem fe133:XR 133 plN c133 32 (fun t=>t.getD 4 uA):=fun args H=>Ev_eqR Tryz.func133 rfl rfl rfl args H (orc0 (by decide) args H)
theorem fc133:XC 133:=fun C gl slot tm H o xs ats=>callG (by rw [Tryz.func133]; rfl) C slot _ H o xs ats rfl
def c149:Code:=Tryz.f149.body.getD .skip
theorem fe149:XR 149 plN c149 17 (fun t=>t.getD 2 uA):=fun args H=>Ev_eqR Tryz.func149 rfl rfl rfl args H (orc0 (by decide) args H)
theorem fc149:XC 149:=fun C gl slot tm H o xs ats=>callG (by rw [Tryz.func149]; rfl) C slot _ H o xs ats rfl
def c150:Code:=Tryz.f150.body.getD .skip
theorem fe150:XR 150 plN c150 13 (fun t=>t.getD 2 uA):=fun args H=>Ev_eqR Tryz.func150 rfl rfl rfl args H (orc0 (by decide) args H)
theorem fc150:XC 150:=fun C gl slot tm H o xs ats=>callG (by rw [Tryz.func150]; rfl) C slot _ H o xs ats rfl
def c151:Code:=Tryz.f151.body.getD .skip
theorem fe151:XR 151 plN c151 15 (fun t=>.tuple [t.getD 2 uA,t.getD 3 uA]):=fun args H=>Ev_eqR Tryz.func151 rfl rfl rfl args H (orc0 (by decide) args H)
theorem fc151:XC 151:=fun C gl slot tm H o xs ats=>callG (by rw [Tryz.func151]; rfl) C slot _ H o xs ats rfl
def c165:Code:=Tryz.f165.body.getD .skip
theorem fe165:XR 165 plN c165 9 (fun t=>t.getD 2 uA):=fun args H=>Ev_eqR Tryz.func165 rfl rfl rfl args H (orc0 (by decide) args H)
theorem fc165:XC 165:=fun C gl slot tm H o xs ats=>callG (by rw [Tryz.func165]; rfl) C slot _ H o xs ats rfl
def c190:Code:=Tryz.f190.body.getD .skip
theorem fe190:XR 190 plN c190 9 (fun t=>t.getD 2 uA):=fun args H=>Ev_eqR Tryz.func190 rfl rfl rfl args H (orc0 (by decide) args H)
theorem fc190:XC 190:=fun C gl slot tm H o xs ats=>callG (by rw [Tryz.func190]; rfl) C slot _ H o xs ats rfl
def c9:Code:=Tryz.f9.body.getD .skip
theorem fe9:XR 9 plN c9 62 (fun t=>t.getD 0 uA):=fun args H=>Ev_eqR Tryz.func9 rfl rfl rfl args H (orc0 (by decide) args H)
theorem fc9:XC 9:=fun C gl slot tm H o xs ats=>callG (by rw [Tryz.func9]; rfl) C slot _ H o xs ats rfl
end
end Go.Dv
