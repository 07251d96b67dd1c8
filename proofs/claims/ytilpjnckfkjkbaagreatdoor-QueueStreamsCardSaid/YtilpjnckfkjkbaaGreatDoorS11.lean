/- Part 11 of the walks (own work). -/
import Derived.Test.YtilpjnckfkjkbaaGreatDoorS10
open List renaming replicate→aA
open Go.Proofs.Tryz renaming prog→aa
set_option maxRecDepth 100000
set_option maxHeartbeats 4000000
set_option linter.unusedSimpArgs false
set_option linter.unusedVariables false
namespace Go.Dv
open Go.Proofs
noncomputable section
abbrev XE (f:Nat) (pl:Nat->Option Way) (c:Code) (n:Nat) (r:List AV->AV):Prop:=∀ (args:List AV) (H:AH),Ev aa C0 W0 f args H=(EvC aa C0 W0 pl c (args++aA (n - args.length) uA,H)).bind fun x=>match x with | (.normal,s)=>some (r s.1,s.2) | (.ret,s)=>some (r s.1,s.2) | _=>none
abbrev XR (f:Nat) (pl:Nat->Option Way) (c:Code) (n:Nat) (r:List AV->AV):Prop:=∀ (args:List AV) (H:AH),Ev aa C0 W0 f args H=(EvC aa C0 W0 pl c (args++aA (n - args.length) uA,ro H)).bind fun x=>match x with | (.normal,s)=>kj true H (r s.1,s.2) | (.ret,s)=>kj true H (r s.1,s.2) | _=>none
abbrev XC (f:Nat):Prop:=∀ (C:Cfg aa) (gl:GL) (slot:Option Nat) (tm:List AV) (H:AH) (o:Oper) (xs:Array Operand) (ats:Array TypeId),fN aa C slot (cz gl tm) o ⟨.value (.func f),xs,ats⟩ H=(evL (cz gl tm) xs.toList).map fun vs=>(.enter f vs,H)
abbrev XL (pl:Nat->Option Way) (l b:Code):Prop:=∀ s:St,EvC aa C0 W0 pl l s=(EvC aa C0 W0 pl b s).bind fun r=>match r with | (.normal,s')=>EvC aa C0 W0 pl l s' | r=>some r
def c3:Code:=Tryz.f3.body.getD .skip
def c4:Code:=Tryz.f4.body.getD .skip
def c5:Code:=Tryz.f5.body.getD .skip
def c6:Code:=Tryz.f6.body.getD .skip
def PF:Code:=aQ [true,true,true,true,false,true,false,false] (Tryz.f7.body.getD .skip)
def OP:Code:=Code.loop PF
theorem Qp:XL pl7 OP PF:=fun s=>bk _ _
def Mf:Code:=aQ [true,true,true,true,true,true,true,true,true,true,false,true,false,false,true,false,false,true,false,false] (Tryz.f7.body.getD .skip)
def OO:Code:=Code.loop Mf
theorem Qo:XL pl7 OO Mf:=fun s=>bk _ _
def PE:Code:=aQ [true,true,true,true,true,true,true,true,true,true,false,true,false,false] (Tryz.f7.body.getD .skip)
def ON:Code:=Code.loop PE
theorem Qn:XL pl7 ON PE:=fun s=>bk _ _
def c7:Code:=Tryz.f7.body.getD .skip
theorem fe7:XE 7 pl7 c7 182 (fun t=>t.getD 2 uA):=fun args H=>dZ Tryz.func7 rfl rfl rfl args H (cC (by decide) args H)
def Me:Code:=aQ [true,true,false,true,false,false] (Tryz.f8.body.getD .skip)
def Sk:Code:=Code.loop Me
theorem Qm:XL plN Sk Me:=fun s=>bk _ _
def c8:Code:=Tryz.f8.body.getD .skip
theorem fe8:XR 8 plN c8 33 (fun t=>t.getD 2 uA):=fun args H=>bM Tryz.func8 rfl rfl rfl args H (cC (by decide) args H)
theorem fc8:XC 8:=fun C gl slot tm H o xs ats=>bL (by rw [Tryz.func8]; rfl) C slot _ H o xs ats rfl
def FI:Code:=aQ [true,true,true,false,true,false,false] (Tryz.f10.body.getD .skip)
def E0:Code:=Code.loop FI
theorem LO:XL lO E0 FI:=fun s=>bk _ _
def FH:Code:=aQ [true,true,true,true,false,true,false,false,true,true,false,false,true,true,false,true,false,false] (Tryz.f10.body.getD .skip)
def EZ:Code:=Code.loop FH
theorem LN:XL lO EZ FH:=fun s=>bk _ _
def FG:Code:=aQ [true,true,true,true,false,true,false,false] (Tryz.f10.body.getD .skip)
def EY:Code:=Code.loop FG
theorem LM:XL lO EY FG:=fun s=>bk _ _
def c10:Code:=Tryz.f10.body.getD .skip
theorem Zt:XE 10 lO c10 100 (fun t=>.tuple [t.getD 8 uA,t.getD 9 uA]):=fun args H=>dZ Tryz.func10 rfl rfl rfl args H (cC (by decide) args H)
theorem ZO:XC 10:=fun C gl slot tm H o xs ats=>bL (by rw [Tryz.func10]; rfl) C slot _ H o xs ats rfl
def c12:Code:=Tryz.f12.body.getD .skip
theorem Zs:XR 12 IW c12 33 (fun t=>.tuple [t.getD 2 uA,t.getD 3 uA]):=fun args H=>bM Tryz.func12 rfl rfl rfl args H (cC (by decide) args H)
theorem Pa:XC 12:=fun C gl slot tm H o xs ats=>bL (by rw [Tryz.func12]; rfl) C slot _ H o xs ats rfl
def c13:Code:=Tryz.f13.body.getD .skip
def FF:Code:=aQ [true,true,true,false,true,false,false] (Tryz.f14.body.getD .skip)
def EX:Code:=Code.loop FF
theorem LL:XL plN EX FF:=fun s=>bk _ _
def c14:Code:=Tryz.f14.body.getD .skip
theorem Zq:XE 14 plN c14 34 (fun t=>t.getD 2 uA):=fun args H=>dZ Tryz.func14 rfl rfl rfl args H (cC (by decide) args H)
theorem ZN:XC 14:=fun C gl slot tm H o xs ats=>bL (by rw [Tryz.func14]; rfl) C slot _ H o xs ats rfl
def Cy:Code:=aQ [true,false,true,false,false] (Tryz.f16.body.getD .skip)
def JN:Code:=Code.loop Cy
theorem LK:XL plN JN Cy:=fun s=>bk _ _
def FE:Code:=aQ [true,true,true,true,false,true,false,false] (Tryz.f16.body.getD .skip)
def EW:Code:=Code.loop FE
theorem LJ:XL plN EW FE:=fun s=>bk _ _
def Cx:Code:=aQ [true,true,true,true,true,true,false,true,false,false] (Tryz.f16.body.getD .skip)
def JM:Code:=Code.loop Cx
theorem LI:XL plN JM Cx:=fun s=>bk _ _
def Cw:Code:=aQ [true,true,true,true,true,true,true,false,true,false,false,true,false,false,true,false,false] (Tryz.f16.body.getD .skip)
def JL:Code:=Code.loop Cw
theorem LH:XL plN JL Cw:=fun s=>bk _ _
def Cv:Code:=aQ [true,true,true,true,true,true,true,false,true,false,false] (Tryz.f16.body.getD .skip)
def EV:Code:=Code.loop Cv
theorem LG:XL plN EV Cv:=fun s=>bk _ _
def c16:Code:=Tryz.f16.body.getD .skip
theorem Zp:XR 16 plN c16 103 (fun t=>t.getD 8 uA):=fun args H=>bM Tryz.func16 rfl rfl rfl args H (cC (by decide) args H)
theorem ZM:XC 16:=fun C gl slot tm H o xs ats=>bL (by rw [Tryz.func16]; rfl) C slot _ H o xs ats rfl
def FD:Code:=aQ [true,true,true,false,true,false,false] (Tryz.f17.body.getD .skip)
def EU:Code:=Code.loop FD
theorem SL:XL plN EU FD:=fun s=>bk _ _
def c17:Code:=Tryz.f17.body.getD .skip
theorem Zo:XE 17 plN c17 77 (fun t=>.tuple [t.getD 10 uA,t.getD 11 uA,t.getD 12 uA]):=fun args H=>dZ Tryz.func17 rfl rfl rfl args H (cC (by decide) args H)
theorem DL:XC 17:=fun C gl slot tm H o xs ats=>bL (by rw [Tryz.func17]; rfl) C slot _ H o xs ats rfl
def xW:Code:=aQ [true,true,true,false,true,false,false,true,true,false,false,true,true,false,false] (Tryz.f18.body.getD .skip)
def xr:Code:=Code.loop xW
theorem LF:XL plN xr xW:=fun s=>bk _ _
def zD:Code:=aQ [true,true,true,false,true,false,false] (Tryz.f18.body.getD .skip)
def Bu:Code:=Code.loop zD
theorem LD:XL plN Bu zD:=fun s=>bk _ _
def c18:Code:=Tryz.f18.body.getD .skip
theorem Zn:XR 18 plN c18 64 (fun t=>.tuple [t.getD 6 uA,t.getD 7 uA]):=fun args H=>bM Tryz.func18 rfl rfl rfl args H (cC (by decide) args H)
theorem We:XC 18:=fun C gl slot tm H o xs ats=>bL (by rw [Tryz.func18]; rfl) C slot _ H o xs ats rfl
def FC:Code:=aQ [true,true,true,false,true,false,false] (Tryz.f19.body.getD .skip)
def JK:Code:=Code.loop FC
theorem LC:XL iV JK FC:=fun s=>bk _ _
def FB:Code:=aQ [true,true,true,true,true,true,true,false,true,false,false,true,true,false,false,true,true,false,false] (Tryz.f19.body.getD .skip)
def JJ:Code:=Code.loop FB
theorem LB:XL iV JJ FB:=fun s=>bk _ _
def FA:Code:=aQ [true,true,true,true,true,true,true,false,true,false,false] (Tryz.f19.body.getD .skip)
def JI:Code:=Code.loop FA
theorem LA:XL iV JI FA:=fun s=>bk _ _
def Cu:Code:=aQ [true,true,true,true,true,true,true,true,true,false,true,false,false] (Tryz.f19.body.getD .skip)
def JH:Code:=Code.loop Cu
theorem Lz:XL iV JH Cu:=fun s=>bk _ _
def Ct:Code:=aQ [true,true,true,true,true,true,true,true,true,true,false,false,false,true,false,true,true,false,false] (Tryz.f19.body.getD .skip)
def JG:Code:=Code.loop Ct
theorem Ly:XL iV JG Ct:=fun s=>bk _ _
def Fz:Code:=aQ [true,true,true,true,true,true,true,true,true,true,false,false,false] (Tryz.f19.body.getD .skip)
def JF:Code:=Code.loop Fz
theorem SK:XL iV JF Fz:=fun s=>bk _ _
def c19:Code:=Tryz.f19.body.getD .skip
theorem Zm:XE 19 iV c19 158 (fun t=>.tuple [t.getD 6 uA,t.getD 7 uA]):=fun args H=>dZ Tryz.func19 rfl rfl rfl args H (cC (by decide) args H)
theorem ZL:XC 19:=fun C gl slot tm H o xs ats=>bL (by rw [Tryz.func19]; rfl) C slot _ H o xs ats rfl
def Fy:Code:=aQ [true,true,false,true,false,false,true,false,false,true,true,false,false] (Tryz.f25.body.getD .skip)
def JE:Code:=Code.loop Fy
theorem Lx:XL rN JE Fy:=fun s=>bk _ _
def Fx:Code:=aQ [true,true,false,true,false,false] (Tryz.f25.body.getD .skip)
def JD:Code:=Code.loop Fx
theorem Lw:XL rN JD Fx:=fun s=>bk _ _
def c25:Code:=Tryz.f25.body.getD .skip
theorem Zl:XR 25 rN c25 53 (fun t=>t.getD 4 uA):=fun args H=>bM Tryz.func25 rfl rfl rfl args H (cC (by decide) args H)
theorem Wc:XC 25:=fun C gl slot tm H o xs ats=>bL (by rw [Tryz.func25]; rfl) C slot _ H o xs ats rfl
def Fw:Code:=aQ [true,true,true,false,true,false,false] (Tryz.f26.body.getD .skip)
def ET:Code:=Code.loop Fw
theorem Lv:XL plN ET Fw:=fun s=>bk _ _
def Cs:Code:=aQ [true,true,true,true,true,true,false,true,false,false,true,true,false,false,true,true,false,false] (Tryz.f26.body.getD .skip)
def JC:Code:=Code.loop Cs
theorem Lu:XL plN JC Cs:=fun s=>bk _ _
def Cr:Code:=aQ [true,true,true,true,true,true,false,true,false,false] (Tryz.f26.body.getD .skip)
def ES:Code:=Code.loop Cr
theorem Lt:XL plN ES Cr:=fun s=>bk _ _
def c26:Code:=Tryz.f26.body.getD .skip
theorem Zk:XR 26 plN c26 81 (fun t=>t.getD 8 uA):=fun args H=>bM Tryz.func26 rfl rfl rfl args H (cC (by decide) args H)
theorem SC:XC 26:=fun C gl slot tm H o xs ats=>bL (by rw [Tryz.func26]; rfl) C slot _ H o xs ats rfl
def c27:Code:=Tryz.f27.body.getD .skip
theorem Vz:XE 27 plN c27 8 (fun t=>t.getD 2 uA):=fun args H=>dZ Tryz.func27 rfl rfl rfl args H (cC (by decide) args H)
theorem ZK:XC 27:=fun C gl slot tm H o xs ats=>bL (by rw [Tryz.func27]; rfl) C slot _ H o xs ats rfl
def Fv:Code:=aQ [true,true,false,true,false,false] (Tryz.f28.body.getD .skip)
def JB:Code:=Code.loop Fv
theorem Ls:XL plN JB Fv:=fun s=>bk _ _
def c28:Code:=Tryz.f28.body.getD .skip
theorem Zj:XE 28 plN c28 23 (fun t=>t.getD 2 uA):=fun args H=>dZ Tryz.func28 rfl rfl rfl args H (cC (by decide) args H)
theorem Wb:XC 28:=fun C gl slot tm H o xs ats=>bL (by rw [Tryz.func28]; rfl) C slot _ H o xs ats rfl
def c29:Code:=Tryz.f29.body.getD .skip
theorem Vy:XE 29 plN c29 8 (fun t=>t.getD 2 uA):=fun args H=>dZ Tryz.func29 rfl rfl rfl args H (cC (by decide) args H)
theorem ZJ:XC 29:=fun C gl slot tm H o xs ats=>bL (by rw [Tryz.func29]; rfl) C slot _ H o xs ats rfl
def c30:Code:=Tryz.f30.body.getD .skip
theorem Vx:XE 30 plN c30 8 (fun t=>t.getD 2 uA):=fun args H=>dZ Tryz.func30 rfl rfl rfl args H (cC (by decide) args H)
theorem ZI:XC 30:=fun C gl slot tm H o xs ats=>bL (by rw [Tryz.func30]; rfl) C slot _ H o xs ats rfl
def c31:Code:=Tryz.f31.body.getD .skip
theorem Vw:XE 31 plN c31 8 (fun t=>t.getD 2 uA):=fun args H=>dZ Tryz.func31 rfl rfl rfl args H (cC (by decide) args H)
theorem ZH:XC 31:=fun C gl slot tm H o xs ats=>bL (by rw [Tryz.func31]; rfl) C slot _ H o xs ats rfl
def c32:Code:=Tryz.f32.body.getD .skip
theorem Vv:XE 32 plN c32 8 (fun t=>t.getD 2 uA):=fun args H=>dZ Tryz.func32 rfl rfl rfl args H (cC (by decide) args H)
theorem SB:XC 32:=fun C gl slot tm H o xs ats=>bL (by rw [Tryz.func32]; rfl) C slot _ H o xs ats rfl
def Fu:Code:=aQ [true,true,true,false,true,false,false] (Tryz.f33.body.getD .skip)
def ER:Code:=Code.loop Fu
theorem Lr:XL vy ER Fu:=fun s=>bk _ _
def c33:Code:=Tryz.f33.body.getD .skip
theorem Zi:XE 33 vy c33 64 (fun t=>t.getD 2 uA):=fun args H=>dZ Tryz.func33 rfl rfl rfl args H (cC (by decide) args H)
theorem O9:XC 33:=fun C gl slot tm H o xs ats=>bL (by rw [Tryz.func33]; rfl) C slot _ H o xs ats rfl
def Ft:Code:=aQ [true,true,true,true,true,true,false,true,false,true,true,true,true,true,false,true,false,false] (Tryz.f34.body.getD .skip)
def EP:Code:=Code.loop Ft
theorem Lq:XL mu EP Ft:=fun s=>bk _ _
def c34:Code:=Tryz.f34.body.getD .skip
def r34 (s:St):Option (AV × AH):=nB aa Tryz.f34 s
theorem Zh (args:List AV) (H:AH):Ev aa C0 W0 34 args H=(EvC aa C0 W0 mu c34 (args++aA (163 - args.length) uA,H)).bind fun r=>match r with | (.normal,s)=>r34 s | (.ret,s)=>r34 s | _=>none:=dZ Tryz.func34 rfl rfl rfl args H (cC (by decide) args H)
theorem ZG:XC 34:=fun C gl slot tm H o xs ats=>bL (by rw [Tryz.func34]; rfl) C slot _ H o xs ats rfl
def Fs:Code:=aQ [true,true,false,true,false,false] (Tryz.f36.body.getD .skip)
def EO:Code:=Code.loop Fs
theorem Lp:XL plN EO Fs:=fun s=>bk _ _
def c36:Code:=Tryz.f36.body.getD .skip
theorem Zg:XR 36 plN c36 18 (fun t=>t.getD 2 uA):=fun args H=>bM Tryz.func36 rfl rfl rfl args H (cC (by decide) args H)
theorem SA:XC 36:=fun C gl slot tm H o xs ats=>bL (by rw [Tryz.func36]; rfl) C slot _ H o xs ats rfl
def Cq:Code:=aQ [true,true,true,false,true,false,false] (Tryz.f37.body.getD .skip)
def JA:Code:=Code.loop Cq
theorem Lo:XL zZ JA Cq:=fun s=>bk _ _
def c37:Code:=Tryz.f37.body.getD .skip
theorem Zf:XR 37 zZ c37 60 (fun t=>t.getD 2 uA):=fun args H=>bM Tryz.func37 rfl rfl rfl args H (cC (by decide) args H)
theorem Wa:XC 37:=fun C gl slot tm H o xs ats=>bL (by rw [Tryz.func37]; rfl) C slot _ H o xs ats rfl
def c38:Code:=Tryz.f38.body.getD .skip
theorem Ze:XR 38 plN c38 48 (fun t=>t.getD 2 uA):=fun args H=>bM Tryz.func38 rfl rfl rfl args H (cC (by decide) args H)
theorem V9:XC 38:=fun C gl slot tm H o xs ats=>bL (by rw [Tryz.func38]; rfl) C slot _ H o xs ats rfl
def c39:Code:=Tryz.f39.body.getD .skip
theorem GJ:XR 39 yr c39 162 (fun t=>t.getD 6 uA):=fun args H=>bM Tryz.func39 rfl rfl rfl args H (cC (by decide) args H)
theorem V8:XC 39:=fun C gl slot tm H o xs ats=>bL (by rw [Tryz.func39]; rfl) C slot _ H o xs ats rfl
def c40:Code:=Tryz.f40.body.getD .skip
theorem Zd:XE 40 plN c40 10 (fun t=>t.getD 2 uA):=fun args H=>dZ Tryz.func40 rfl rfl rfl args H (cC (by decide) args H)
theorem ZF:XC 40:=fun C gl slot tm H o xs ats=>bL (by rw [Tryz.func40]; rfl) C slot _ H o xs ats rfl
def c41:Code:=Tryz.f41.body.getD .skip
def r41 (s:St):Option (AV × AH):=nB aa Tryz.f41 s
theorem Yv (tm:List AV) (H:AH):r41 (tm,H)=match tm.getD 0 uA with | .ptr i k=>(ldA aa 27 H i k).map fun v=>(v,H) | _=>none:=oq (by rfl) tm H
theorem Zc (args:List AV) (H:AH):Ev aa C0 W0 41 args H=(EvC aa C0 W0 plN c41 (args++aA (2 - args.length) uA,H)).bind fun r=>match r with | (.normal,s)=>r41 s | (.ret,s)=>r41 s | _=>none:=dZ Tryz.func41 rfl rfl rfl args H (cC (by decide) args H)
theorem O8:XC 41:=fun C gl slot tm H o xs ats=>bL (by rw [Tryz.func41]; rfl) C slot _ H o xs ats rfl
def pT:Code:=aQ [true,true,true,false,true,false,false,true,true,false,false,true,true,false,false] (Tryz.f42.body.getD .skip)
def Bt:Code:=Code.loop pT
theorem Ln:XL iE Bt pT:=fun s=>bk _ _
def Cp:Code:=aQ [true,true,true,false,true,false,false] (Tryz.f42.body.getD .skip)
def EN:Code:=Code.loop Cp
theorem Lm:XL iE EN Cp:=fun s=>bk _ _
def xV:Code:=aQ [true,true,true,true,false,true,false,false] (Tryz.f42.body.getD .skip)
def Bs:Code:=Code.loop xV
theorem Ll:XL iE Bs xV:=fun s=>bk _ _
def c42:Code:=Tryz.f42.body.getD .skip
def r42 (s:St):Option (AV × AH):=nB aa Tryz.f42 s
theorem Yu (tm:List AV) (H:AH):r42 (tm,H)=match tm.getD 2 uA with | .ptr i k=>(ldA aa 93 H i k).map fun v=>(v,H) | _=>none:=oq (by rfl) tm H
theorem Zb (args:List AV) (H:AH):Ev aa C0 W0 42 args H=(EvC aa C0 W0 iE c42 (args++aA (111 - args.length) uA,H)).bind fun r=>match r with | (.normal,s)=>r42 s | (.ret,s)=>r42 s | _=>none:=dZ Tryz.func42 rfl rfl rfl args H (cC (by decide) args H)
theorem V7:XC 42:=fun C gl slot tm H o xs ats=>bL (by rw [Tryz.func42]; rfl) C slot _ H o xs ats rfl
def c43:Code:=Tryz.f43.body.getD .skip
theorem Za:XR 43 plN c43 34 (fun t=>t.getD 6 uA):=fun args H=>bM Tryz.func43 rfl rfl rfl args H (cC (by decide) args H)
theorem O7:XC 43:=fun C gl slot tm H o xs ats=>bL (by rw [Tryz.func43]; rfl) C slot _ H o xs ats rfl
def Co:Code:=aQ [true,true,false,true,false,false,true,false,true,true,true,false,false] (Tryz.f44.body.getD .skip)
def EM:Code:=Code.loop Co
theorem Lk:XL plN EM Co:=fun s=>bk _ _
def Fq:Code:=aQ [true,true,false,true,false,false] (Tryz.f44.body.getD .skip)
def Jz:Code:=Code.loop Fq
theorem SJ:XL plN Jz Fq:=fun s=>bk _ _
def c44:Code:=Tryz.f44.body.getD .skip
theorem Y9:XE 44 plN c44 43 (fun t=>t.getD 4 uA):=fun args H=>dZ Tryz.func44 rfl rfl rfl args H (cC (by decide) args H)
theorem O6:XC 44:=fun C gl slot tm H o xs ats=>bL (by rw [Tryz.func44]; rfl) C slot _ H o xs ats rfl
def Cn:Code:=aQ [true,true,true,false,true,false,false] (Tryz.f45.body.getD .skip)
def EL:Code:=Code.loop Cn
theorem Lj:XL plN EL Cn:=fun s=>bk _ _
def c45:Code:=Tryz.f45.body.getD .skip
theorem Y8:XE 45 plN c45 42 (fun t=>t.getD 4 uA):=fun args H=>dZ Tryz.func45 rfl rfl rfl args H (cC (by decide) args H)
theorem ZE:XC 45:=fun C gl slot tm H o xs ats=>bL (by rw [Tryz.func45]; rfl) C slot _ H o xs ats rfl
def c46:Code:=Tryz.f46.body.getD .skip
theorem Vq:XE 46 plN c46 8 (fun t=>t.getD 2 uA):=fun args H=>dZ Tryz.func46 rfl rfl rfl args H (cC (by decide) args H)
theorem ZD:XC 46:=fun C gl slot tm H o xs ats=>bL (by rw [Tryz.func46]; rfl) C slot _ H o xs ats rfl
def c47:Code:=Tryz.f47.body.getD .skip
theorem Y7:XE 47 plN c47 6 (fun t=>t.getD 2 uA):=fun args H=>dZ Tryz.func47 rfl rfl rfl args H (cC (by decide) args H)
def c48:Code:=Tryz.f48.body.getD .skip
theorem Y6:XE 48 plN c48 12 (fun t=>.tuple []):=fun args H=>dZ Tryz.func48 rfl rfl rfl args H (cC (by decide) args H)
theorem V6:XC 48:=fun C gl slot tm H o xs ats=>bL (by rw [Tryz.func48]; rfl) C slot _ H o xs ats rfl
def c49:Code:=Tryz.f49.body.getD .skip
theorem Y5:XR 49 plN c49 5 (fun t=>t.getD 2 uA):=fun args H=>bM Tryz.func49 rfl rfl rfl args H (cC (by decide) args H)
theorem V5:XC 49:=fun C gl slot tm H o xs ats=>bL (by rw [Tryz.func49]; rfl) C slot _ H o xs ats rfl
def c50:Code:=Tryz.f50.body.getD .skip
theorem Y1:XE 50 plN c50 15 (fun t=>t.getD 2 uA):=fun args H=>dZ Tryz.func50 rfl rfl rfl args H (cC (by decide) args H)
theorem ZC:XC 50:=fun C gl slot tm H o xs ats=>bL (by rw [Tryz.func50]; rfl) C slot _ H o xs ats rfl
def c56:Code:=Tryz.f56.body.getD .skip
theorem Y0:XR 56 plN c56 38 (fun t=>t.getD 2 uA):=fun args H=>bM Tryz.func56 rfl rfl rfl args H (cC (by decide) args H)
theorem Sz:XC 56:=fun C gl slot tm H o xs ats=>bL (by rw [Tryz.func56]; rfl) C slot _ H o xs ats rfl
def c57:Code:=Tryz.f57.body.getD .skip
theorem YZ:XR 57 plN c57 9 (fun t=>t.getD 4 uA):=fun args H=>bM Tryz.func57 rfl rfl rfl args H (cC (by decide) args H)
theorem V4:XC 57:=fun C gl slot tm H o xs ats=>bL (by rw [Tryz.func57]; rfl) C slot _ H o xs ats rfl
def c58:Code:=Tryz.f58.body.getD .skip
theorem YY:XR 58 plN c58 6 (fun t=>t.getD 2 uA):=fun args H=>bM Tryz.func58 rfl rfl rfl args H (cC (by decide) args H)
def Cm:Code:=aQ [true,true,true,true,true,false,true,false,false] (Tryz.f59.body.getD .skip)
def Jy:Code:=Code.loop Cm
theorem Li:XL plN Jy Cm:=fun s=>bk _ _
def c59:Code:=Tryz.f59.body.getD .skip
theorem YX:XR 59 plN c59 49 (fun t=>t.getD 2 uA):=fun args H=>bM Tryz.func59 rfl rfl rfl args H (cC (by decide) args H)
theorem ZB:XC 59:=fun C gl slot tm H o xs ats=>bL (by rw [Tryz.func59]; rfl) C slot _ H o xs ats rfl
def c60:Code:=Tryz.f60.body.getD .skip
theorem YW:XR 60 plN c60 9 (fun t=>t.getD 4 uA):=fun args H=>bM Tryz.func60 rfl rfl rfl args H (cC (by decide) args H)
theorem DK:XC 60:=fun C gl slot tm H o xs ats=>bL (by rw [Tryz.func60]; rfl) C slot _ H o xs ats rfl
def c61:Code:=Tryz.f61.body.getD .skip
theorem YV:XR 61 plN c61 6 (fun t=>t.getD 2 uA):=fun args H=>bM Tryz.func61 rfl rfl rfl args H (cC (by decide) args H)
def c62:Code:=Tryz.f62.body.getD .skip
theorem GH:XR 62 o4 c62 181 (fun t=>t.getD 6 uA):=fun args H=>bM Tryz.func62 rfl rfl rfl args H (cC (by decide) args H)
theorem V3:XC 62:=fun C gl slot tm H o xs ats=>bL (by rw [Tryz.func62]; rfl) C slot _ H o xs ats rfl
def c63:Code:=Tryz.f63.body.getD .skip
theorem YU:XR 63 plN c63 9 (fun t=>t.getD 4 uA):=fun args H=>bM Tryz.func63 rfl rfl rfl args H (cC (by decide) args H)
theorem V2:XC 63:=fun C gl slot tm H o xs ats=>bL (by rw [Tryz.func63]; rfl) C slot _ H o xs ats rfl
def c65:Code:=Tryz.f65.body.getD .skip
def r65 (s:St):Option (AV × AH):=nB aa Tryz.f65 s
theorem Yt (tm:List AV) (H:AH):r65 (tm,H)=match tm.getD 4 uA with | .ptr i k=>(ldA aa 126 H i k).map fun v=>(v,H) | _=>none:=oq (by rfl) tm H
theorem YT (args:List AV) (H:AH):Ev aa C0 W0 65 args H=(EvC aa C0 W0 plN c65 (args++aA (14 - args.length) uA,ro H)).bind fun r=>match r with | (.normal,s)=>(r65 s).bind (kj true H) | (.ret,s)=>(r65 s).bind (kj true H) | _=>none:=bM Tryz.func65 rfl rfl rfl args H (cC (by decide) args H)
theorem gV:XC 65:=fun C gl slot tm H o xs ats=>bL (by rw [Tryz.func65]; rfl) C slot _ H o xs ats rfl
theorem En:C0.reads 65=true:=rfl
def Fp:Code:=aQ [true,true,true,false,true,false,false] (Tryz.f66.body.getD .skip)
def EK:Code:=Code.loop Fp
theorem Lh:XL m8 EK Fp:=fun s=>bk _ _
def zC:Code:=aQ [true,true,true,true,false,true,false,false] (Tryz.f66.body.getD .skip)
def EJ:Code:=Code.loop zC
theorem Lg:XL m8 EJ zC:=fun s=>bk _ _
def Cl:Code:=aQ [true,true,true,true,true,false,true,false,false,true,false,false,true,true,false,false] (Tryz.f66.body.getD .skip)
def Jx:Code:=Code.loop Cl
theorem Lf:XL m8 Jx Cl:=fun s=>bk _ _
def zB:Code:=aQ [true,true,true,true,true,false,true,false,false] (Tryz.f66.body.getD .skip)
def EI:Code:=Code.loop zB
theorem Le:XL m8 EI zB:=fun s=>bk _ _
def c66:Code:=Tryz.f66.body.getD .skip
theorem YS:XR 66 m8 c66 98 (fun t=>t.getD 2 uA):=fun args H=>bM Tryz.func66 rfl rfl rfl args H (cC (by decide) args H)
theorem GQ:XC 66:=fun C gl slot tm H o xs ats=>bL (by rw [Tryz.func66]; rfl) C slot _ H o xs ats rfl
def c67:Code:=Tryz.f67.body.getD .skip
theorem YR:XR 67 plN c67 95 (fun t=>t.getD 4 uA):=fun args H=>bM Tryz.func67 rfl rfl rfl args H (cC (by decide) args H)
theorem V1:XC 67:=fun C gl slot tm H o xs ats=>bL (by rw [Tryz.func67]; rfl) C slot _ H o xs ats rfl
theorem PS:C0.reads 67=true:=rfl
def c68:Code:=Tryz.f68.body.getD .skip
theorem YQ:XR 68 plN c68 19 (fun t=>t.getD 4 uA):=fun args H=>bM Tryz.func68 rfl rfl rfl args H (cC (by decide) args H)
theorem ZA:XC 68:=fun C gl slot tm H o xs ats=>bL (by rw [Tryz.func68]; rfl) C slot _ H o xs ats rfl
def Ck:Code:=aQ [true,false,true,false,false] (Tryz.f69.body.getD .skip)
def Jw:Code:=Code.loop Ck
theorem Ld:XL plN Jw Ck:=fun s=>bk _ _
def c69:Code:=Tryz.f69.body.getD .skip
theorem YP:XR 69 plN c69 30 (fun t=>t.getD 6 uA):=fun args H=>bM Tryz.func69 rfl rfl rfl args H (cC (by decide) args H)
theorem V0:XC 69:=fun C gl slot tm H o xs ats=>bL (by rw [Tryz.func69]; rfl) C slot _ H o xs ats rfl
theorem PR:C0.reads 69=true:=rfl
def c70:Code:=Tryz.f70.body.getD .skip
def r70 (s:St):Option (AV × AH):=nB aa Tryz.f70 s
theorem Ys (tm:List AV) (H:AH):r70 (tm,H)=match tm.getD 4 uA with | .ptr i k=>(ldA aa 126 H i k).map fun v=>(v,H) | _=>none:=oq (by rfl) tm H
theorem YO (args:List AV) (H:AH):Ev aa C0 W0 70 args H=(EvC aa C0 W0 plN c70 (args++aA (14 - args.length) uA,ro H)).bind fun r=>match r with | (.normal,s)=>(r70 s).bind (kj true H) | (.ret,s)=>(r70 s).bind (kj true H) | _=>none:=bM Tryz.func70 rfl rfl rfl args H (cC (by decide) args H)
theorem VZ:XC 70:=fun C gl slot tm H o xs ats=>bL (by rw [Tryz.func70]; rfl) C slot _ H o xs ats rfl
theorem PQ:C0.reads 70=true:=rfl
def c71:Code:=Tryz.f71.body.getD .skip
theorem YN:XR 71 plN c71 22 (fun t=>t.getD 2 uA):=fun args H=>bM Tryz.func71 rfl rfl rfl args H (cC (by decide) args H)
theorem iR:XC 71:=fun C gl slot tm H o xs ats=>bL (by rw [Tryz.func71]; rfl) C slot _ H o xs ats rfl
theorem fF:C0.reads 71=true:=rfl
def c72:Code:=Tryz.f72.body.getD .skip
theorem YM:XE 72 plN c72 8 (fun t=>t.getD 4 uA):=fun args H=>dZ Tryz.func72 rfl rfl rfl args H (cC (by decide) args H)
def c73:Code:=Tryz.f73.body.getD .skip
theorem YL:XR 73 plN c73 9 (fun t=>t.getD 4 uA):=fun args H=>bM Tryz.func73 rfl rfl rfl args H (cC (by decide) args H)
theorem Zz:XC 73:=fun C gl slot tm H o xs ats=>bL (by rw [Tryz.func73]; rfl) C slot _ H o xs ats rfl
def c74:Code:=Tryz.f74.body.getD .skip
theorem YK:XR 74 plN c74 7 (fun t=>t.getD 3 uA):=fun args H=>bM Tryz.func74 rfl rfl rfl args H (cC (by decide) args H)
def Cj:Code:=aQ [true,false,true,false,true,false,false,true,false,false] (Tryz.f75.body.getD .skip)
def EH:Code:=Code.loop Cj
theorem Lc:XL wW EH Cj:=fun s=>bk _ _
def c75:Code:=Tryz.f75.body.getD .skip
theorem O5:XE 75 wW c75 56 (fun t=>.tuple [t.getD 4 uA,t.getD 5 uA]):=fun args H=>dZ Tryz.func75 rfl rfl rfl args H (cC (by decide) args H)
theorem VY:XC 75:=fun C gl slot tm H o xs ats=>bL (by rw [Tryz.func75]; rfl) C slot _ H o xs ats rfl
def Ci:Code:=aQ [true,false,true,false,false] (Tryz.f76.body.getD .skip)
def rj:Code:=Code.loop Ci
theorem DQ:XL plN rj Ci:=fun s=>bk _ _
def c76:Code:=Tryz.f76.body.getD .skip
theorem YJ:XE 76 plN c76 19 (fun t=>t.getD 4 uA):=fun args H=>dZ Tryz.func76 rfl rfl rfl args H (cC (by decide) args H)
theorem VX:XC 76:=fun C gl slot tm H o xs ats=>bL (by rw [Tryz.func76]; rfl) C slot _ H o xs ats rfl
def zA:Code:=aQ [false,false] (Tryz.f77.body.getD .skip)
def EG:Code:=Code.loop zA
theorem Lb:XL plN EG zA:=fun s=>bk _ _
def c77:Code:=Tryz.f77.body.getD .skip
theorem YI:XE 77 plN c77 23 (fun t=>.tuple []):=fun args H=>dZ Tryz.func77 rfl rfl rfl args H (cC (by decide) args H)
theorem Zy:XC 77:=fun C gl slot tm H o xs ats=>bL (by rw [Tryz.func77]; rfl) C slot _ H o xs ats rfl
def rC:Code:=aQ [true,true,false,false,false] (Tryz.f78.body.getD .skip)
def EF:Code:=Code.loop rC
theorem DP:XL plN EF rC:=fun s=>bk _ _
def c78:Code:=Tryz.f78.body.getD .skip
theorem YH:XE 78 plN c78 48 (fun t=>t.getD 6 uA):=fun args H=>dZ Tryz.func78 rfl rfl rfl args H (cC (by decide) args H)
theorem Zx:XC 78:=fun C gl slot tm H o xs ats=>bL (by rw [Tryz.func78]; rfl) C slot _ H o xs ats rfl
def c84:Code:=Tryz.f84.body.getD .skip
theorem YG:XR 84 plN c84 15 (fun t=>t.getD 6 uA):=fun args H=>bM Tryz.func84 rfl rfl rfl args H (cC (by decide) args H)
def Ch:Code:=aQ [true,false,true,false,false] (Tryz.f85.body.getD .skip)
def Jv:Code:=Code.loop Ch
theorem La:XL plN Jv Ch:=fun s=>bk _ _
def c85:Code:=Tryz.f85.body.getD .skip
theorem YF:XR 85 plN c85 19 (fun t=>t.getD 4 uA):=fun args H=>bM Tryz.func85 rfl rfl rfl args H (cC (by decide) args H)
theorem Zw:XC 85:=fun C gl slot tm H o xs ats=>bL (by rw [Tryz.func85]; rfl) C slot _ H o xs ats rfl
def zy:Code:=aQ [true,true,true,false,true,false,false] (Tryz.f86.body.getD .skip)
def Ju:Code:=Code.loop zy
theorem K9:XL plN Ju zy:=fun s=>bk _ _
def vj:Code:=aQ [true,true,true,true,false,true,false,false] (Tryz.f86.body.getD .skip)
def Jt:Code:=Code.loop vj
theorem KZ:XL plN Jt vj:=fun s=>bk _ _
def c86:Code:=Tryz.f86.body.getD .skip
theorem YE:XR 86 plN c86 87 (fun t=>t.getD 2 uA):=fun args H=>bM Tryz.func86 rfl rfl rfl args H (cC (by decide) args H)
theorem GP:XC 86:=fun C gl slot tm H o xs ats=>bL (by rw [Tryz.func86]; rfl) C slot _ H o xs ats rfl
theorem GO:XC 87:=fun C gl slot tm H o xs ats=>bL (by rw [Tryz.func87]; rfl) C slot _ H o xs ats rfl
def c88:Code:=Tryz.f88.body.getD .skip
theorem YD:XR 88 plN c88 93 (fun t=>t.getD 6 uA):=fun args H=>bM Tryz.func88 rfl rfl rfl args H (cC (by decide) args H)
theorem VW:XC 88:=fun C gl slot tm H o xs ats=>bL (by rw [Tryz.func88]; rfl) C slot _ H o xs ats rfl
def Cg:Code:=aQ [true,false,true,false,false] (Tryz.f89.body.getD .skip)
def Js:Code:=Code.loop Cg
theorem KY:XL plN Js Cg:=fun s=>bk _ _
def c89:Code:=Tryz.f89.body.getD .skip
theorem YC:XR 89 plN c89 19 (fun t=>t.getD 4 uA):=fun args H=>bM Tryz.func89 rfl rfl rfl args H (cC (by decide) args H)
theorem Zv:XC 89:=fun C gl slot tm H o xs ats=>bL (by rw [Tryz.func89]; rfl) C slot _ H o xs ats rfl
def c90:Code:=Tryz.f90.body.getD .skip
theorem YB:XR 90 plN c90 12 (fun t=>t.getD 3 uA):=fun args H=>bM Tryz.func90 rfl rfl rfl args H (cC (by decide) args H)
theorem Ba:C0.reads 90=true:=rfl
def Cf:Code:=aQ [true,true,false,true,false,false] (Tryz.f91.body.getD .skip)
def Jr:Code:=Code.loop Cf
theorem KX:XL plN Jr Cf:=fun s=>bk _ _
def zx:Code:=aQ [true,true,true,false,true,false,false] (Tryz.f91.body.getD .skip)
def Jq:Code:=Code.loop zx
theorem KW:XL plN Jq zx:=fun s=>bk _ _
def c91:Code:=Tryz.f91.body.getD .skip
theorem YA:XR 91 plN c91 52 (fun t=>t.getD 6 uA):=fun args H=>bM Tryz.func91 rfl rfl rfl args H (cC (by decide) args H)
theorem gU:XC 91:=fun C gl slot tm H o xs ats=>bL (by rw [Tryz.func91]; rfl) C slot _ H o xs ats rfl
theorem Em:C0.reads 91=true:=rfl
def Ce:Code:=aQ [true,false,true,false,false] (Tryz.f92.body.getD .skip)
def Jp:Code:=Code.loop Ce
theorem KV:XL plN Jp Ce:=fun s=>bk _ _
def c92:Code:=Tryz.f92.body.getD .skip
theorem Yz:XR 92 plN c92 19 (fun t=>t.getD 4 uA):=fun args H=>bM Tryz.func92 rfl rfl rfl args H (cC (by decide) args H)
theorem Zu:XC 92:=fun C gl slot tm H o xs ats=>bL (by rw [Tryz.func92]; rfl) C slot _ H o xs ats rfl
def c96:Code:=Tryz.f96.body.getD .skip
theorem Yy:XR 96 plN c96 16 (fun t=>t.getD 2 uA):=fun args H=>bM Tryz.func96 rfl rfl rfl args H (cC (by decide) args H)
theorem DJ:XC 96:=fun C gl slot tm H o xs ats=>bL (by rw [Tryz.func96]; rfl) C slot _ H o xs ats rfl
def c97:Code:=Tryz.f97.body.getD .skip
theorem qR:XR 97 plN c97 24 (fun t=>.tuple [t.getD 2 uA,t.getD 3 uA,t.getD 4 uA]):=fun args H=>bM Tryz.func97 rfl rfl rfl args H (cC (by decide) args H)
theorem GN:XC 97:=fun C gl slot tm H o xs ats=>bL (by rw [Tryz.func97]; rfl) C slot _ H o xs ats rfl
def c98:Code:=Tryz.f98.body.getD .skip
theorem Yx:XR 98 plN c98 15 (fun t=>t.getD 4 uA):=fun args H=>bM Tryz.func98 rfl rfl rfl args H (cC (by decide) args H)
theorem GM:XC 98:=fun C gl slot tm H o xs ats=>bL (by rw [Tryz.func98]; rfl) C slot _ H o xs ats rfl
def c99:Code:=Tryz.f99.body.getD .skip
theorem qQ:XR 99 plN c99 44 (fun t=>t.getD 2 uA):=fun args H=>bM Tryz.func99 rfl rfl rfl args H (cC (by decide) args H)
theorem GK:XC 99:=fun C gl slot tm H o xs ats=>bL (by rw [Tryz.func99]; rfl) C slot _ H o xs ats rfl
def oN:Code:=Tryz.f100.body.getD .skip
theorem lC:XR 100 plN oN 69 (fun t=>t.getD 4 uA):=fun args H=>bM Tryz.func100 rfl rfl rfl args H (cC (by decide) args H)
theorem zi:XC 100:=fun C gl slot tm H o xs ats=>bL (by rw [Tryz.func100]; rfl) C slot _ H o xs ats rfl
def r4:Code:=aQ [true,true,false,true,false,false] (Tryz.f101.body.getD .skip)
def DE:Code:=Code.loop r4
theorem Fc:XL plN DE r4:=fun s=>bk _ _
def B4:Code:=Tryz.f101.body.getD .skip
theorem VV:XR 101 plN B4 73 (fun t=>t.getD 6 uA):=fun args H=>bM Tryz.func101 rfl rfl rfl args H (cC (by decide) args H)
theorem Qi:XC 101:=fun C gl slot tm H o xs ats=>bL (by rw [Tryz.func101]; rfl) C slot _ H o xs ats rfl
def x7:Code:=aQ [true,false,true,false,false] (Tryz.f102.body.getD .skip)
def DD:Code:=Code.loop x7
theorem Fb:XL plN DD x7:=fun s=>bk _ _
def Xf:Code:=Tryz.f102.body.getD .skip
theorem VU:XR 102 plN Xf 19 (fun t=>t.getD 4 uA):=fun args H=>bM Tryz.func102 rfl rfl rfl args H (cC (by decide) args H)
theorem Wm:XC 102:=fun C gl slot tm H o xs ats=>bL (by rw [Tryz.func102]; rfl) C slot _ H o xs ats rfl
def xZ:Code:=aQ [true,true,false,true,false,false] (Tryz.f104.body.getD .skip)
def DC:Code:=Code.loop xZ
theorem Fa:XL plN DC xZ:=fun s=>bk _ _
def G9:Code:=Tryz.f104.body.getD .skip
theorem VT:XR 104 plN G9 33 (fun t=>t.getD 2 uA):=fun args H=>bM Tryz.func104 rfl rfl rfl args H (cC (by decide) args H)
theorem mU:XC 104:=fun C gl slot tm H o xs ats=>bL (by rw [Tryz.func104]; rfl) C slot _ H o xs ats rfl
def Xe:Code:=Tryz.f105.body.getD .skip
theorem VS:XR 105 plN Xe 11 (fun t=>t.getD 2 uA):=fun args H=>bM Tryz.func105 rfl rfl rfl args H (cC (by decide) args H)
theorem mT:XC 105:=fun C gl slot tm H o xs ats=>bL (by rw [Tryz.func105]; rfl) C slot _ H o xs ats rfl
def Xd:Code:=Tryz.f106.body.getD .skip
theorem VQ:XR 106 plN Xd 18 (fun t=>t.getD 6 uA):=fun args H=>bM Tryz.func106 rfl rfl rfl args H (cC (by decide) args H)
theorem mS:XC 106:=fun C gl slot tm H o xs ats=>bL (by rw [Tryz.func106]; rfl) C slot _ H o xs ats rfl
def AA:Code:=Tryz.f107.body.getD .skip
theorem VP:XR 107 plN AA 61 (fun t=>t.getD 6 uA):=fun args H=>bM Tryz.func107 rfl rfl rfl args H (cC (by decide) args H)
theorem mR:XC 107:=fun C gl slot tm H o xs ats=>bL (by rw [Tryz.func107]; rfl) C slot _ H o xs ats rfl
def rZ:Code:=aQ [true,true,false,true,false,false] (Tryz.f108.body.getD .skip)
def DB:Code:=Code.loop rZ
theorem E9:XL plN DB rZ:=fun s=>bk _ _
def B3:Code:=Tryz.f108.body.getD .skip
theorem VO:XR 108 plN B3 68 (fun t=>t.getD 4 uA):=fun args H=>bM Tryz.func108 rfl rfl rfl args H (cC (by decide) args H)
theorem J3:XC 108:=fun C gl slot tm H o xs ats=>bL (by rw [Tryz.func108]; rfl) C slot _ H o xs ats rfl
def xY:Code:=aQ [true,true,false,true,false,false] (Tryz.f119.body.getD .skip)
def DA:Code:=Code.loop xY
theorem E8:XL plN DA xY:=fun s=>bk _ _
def Py:Code:=Tryz.f119.body.getD .skip
theorem VN:XR 119 plN Py 23 (fun t=>t.getD 2 uA):=fun args H=>bM Tryz.func119 rfl rfl rfl args H (cC (by decide) args H)
theorem J2:XC 119:=fun C gl slot tm H o xs ats=>bL (by rw [Tryz.func119]; rfl) C slot _ H o xs ats rfl
def xX:Code:=aQ [true,false,true,false,false] (Tryz.f120.body.getD .skip)
def Dz:Code:=Code.loop xX
theorem E7:XL plN Dz xX:=fun s=>bk _ _
def Xc:Code:=Tryz.f120.body.getD .skip
theorem VM:XR 120 plN Xc 18 (fun t=>t.getD 4 uA):=fun args H=>bM Tryz.func120 rfl rfl rfl args H (cC (by decide) args H)
theorem Wl:XC 120:=fun C gl slot tm H o xs ats=>bL (by rw [Tryz.func120]; rfl) C slot _ H o xs ats rfl
def Xb:Code:=Tryz.f121.body.getD .skip
theorem VL:XE 121 plN Xb 2 (fun t=>t.getD 0 uA):=fun args H=>dZ Tryz.func121 rfl rfl rfl args H (cC (by decide) args H)
theorem Wk:XC 121:=fun C gl slot tm H o xs ats=>bL (by rw [Tryz.func121]; rfl) C slot _ H o xs ats rfl
def Xa:Code:=Tryz.f122.body.getD .skip
theorem VK:XR 122 plN Xa 11 (fun t=>t.getD 2 uA):=fun args H=>bM Tryz.func122 rfl rfl rfl args H (cC (by decide) args H)
theorem lD:XC 122:=fun C gl slot tm H o xs ats=>bL (by rw [Tryz.func122]; rfl) C slot _ H o xs ats rfl
def L8:Code:=Tryz.f123.body.getD .skip
theorem VJ:XR 123 plN L8 32 (fun t=>t.getD 4 uA):=fun args H=>bM Tryz.func123 rfl rfl rfl args H (cC (by decide) args H)
theorem km:XC 123:=fun C gl slot tm H o xs ats=>bL (by rw [Tryz.func123]; rfl) C slot _ H o xs ats rfl
def W9:Code:=Tryz.f129.body.getD .skip
theorem VI:XR 129 plN W9 17 (fun t=>t.getD 2 uA):=fun args H=>bM Tryz.func129 rfl rfl rfl args H (cC (by decide) args H)
theorem E4:XC 129:=fun C gl slot tm H o xs ats=>bL (by rw [Tryz.func129]; rfl) C slot _ H o xs ats rfl
theorem Qh:XC 130:=fun C gl slot tm H o xs ats=>bL (by rw [Tryz.func130]; rfl) C slot _ H o xs ats rfl
def W8:Code:=Tryz.f131.body.getD .skip
theorem VH:XR 131 plN W8 13 (fun t=>t.getD 2 uA):=fun args H=>bM Tryz.func131 rfl rfl rfl args H (cC (by decide) args H)
theorem Qg:XC 131:=fun C gl slot tm H o xs ats=>bL (by rw [Tryz.func131]; rfl) C slot _ H o xs ats rfl
def W7:Code:=Tryz.f132.body.getD .skip
theorem VG:XR 132 plN W7 15 (fun t=>.tuple [t.getD 2 uA,t.getD 3 uA]):=fun args H=>bM Tryz.func132 rfl rfl rfl args H (cC (by decide) args H)
theorem Wj:XC 132:=fun C gl slot tm H o xs ats=>bL (by rw [Tryz.func132]; rfl) C slot _ H o xs ats rfl
def L7:Code:=Tryz.f133.body.getD .skip
theorem VF:XR 133 plN L7 32 (fun t=>t.getD 4 uA):=fun args H=>bM Tryz.func133 rfl rfl rfl args H (cC (by decide) args H)
theorem Wi:XC 133:=fun C gl slot tm H o xs ats=>bL (by rw [Tryz.func133]; rfl) C slot _ H o xs ats rfl
def W6:Code:=Tryz.f149.body.getD .skip
theorem VE:XR 149 plN W6 17 (fun t=>t.getD 2 uA):=fun args H=>bM Tryz.func149 rfl rfl rfl args H (cC (by decide) args H)
theorem J1:XC 149:=fun C gl slot tm H o xs ats=>bL (by rw [Tryz.func149]; rfl) C slot _ H o xs ats rfl
def W5:Code:=Tryz.f150.body.getD .skip
theorem VD:XR 150 plN W5 13 (fun t=>t.getD 2 uA):=fun args H=>bM Tryz.func150 rfl rfl rfl args H (cC (by decide) args H)
theorem Qf:XC 150:=fun C gl slot tm H o xs ats=>bL (by rw [Tryz.func150]; rfl) C slot _ H o xs ats rfl
def W4:Code:=Tryz.f151.body.getD .skip
theorem VC:XR 151 plN W4 15 (fun t=>.tuple [t.getD 2 uA,t.getD 3 uA]):=fun args H=>bM Tryz.func151 rfl rfl rfl args H (cC (by decide) args H)
theorem Wh:XC 151:=fun C gl slot tm H o xs ats=>bL (by rw [Tryz.func151]; rfl) C slot _ H o xs ats rfl
def W3:Code:=Tryz.f165.body.getD .skip
theorem VB:XR 165 plN W3 9 (fun t=>t.getD 2 uA):=fun args H=>bM Tryz.func165 rfl rfl rfl args H (cC (by decide) args H)
theorem Wf:XC 165:=fun C gl slot tm H o xs ats=>bL (by rw [Tryz.func165]; rfl) C slot _ H o xs ats rfl
def W2:Code:=Tryz.f190.body.getD .skip
theorem VA:XR 190 plN W2 9 (fun t=>t.getD 2 uA):=fun args H=>bM Tryz.func190 rfl rfl rfl args H (cC (by decide) args H)
theorem Wd:XC 190:=fun C gl slot tm H o xs ats=>bL (by rw [Tryz.func190]; rfl) C slot _ H o xs ats rfl
def c9:Code:=Tryz.f9.body.getD .skip
theorem fe9:XR 9 plN c9 62 (fun t=>t.getD 0 uA):=fun args H=>bM Tryz.func9 rfl rfl rfl args H (cC (by decide) args H)
theorem fc9:XC 9:=fun C gl slot tm H o xs ats=>bL (by rw [Tryz.func9]; rfl) C slot _ H o xs ats rfl
def W1:Code:=Tryz.f350.body.getD .skip
theorem Vu:XR 350 yK W1 16 (fun t=>t.getD 6 uA):=fun args H=>bM Tryz.func350 rfl rfl rfl args H (cC (by decide) args H)
def WZ:Code:=Tryz.f351.body.getD .skip
theorem Vt:XE 351 wX WZ 27 (fun t=>t.getD 2 uA):=fun args H=>dZ Tryz.func351 rfl rfl rfl args H (cC (by decide) args H)
def WY:Code:=Tryz.f352.body.getD .skip
theorem Vs:XE 352 yJ WY 13 (fun t=>.tuple []):=fun args H=>dZ Tryz.func352 rfl rfl rfl args H (cC (by decide) args H)
def WX:Code:=Tryz.f353.body.getD .skip
theorem Vr:XE 353 yI WX 20 (fun t=>.tuple []):=fun args H=>dZ Tryz.func353 rfl rfl rfl args H (cC (by decide) args H)
end
end Go.Dv
