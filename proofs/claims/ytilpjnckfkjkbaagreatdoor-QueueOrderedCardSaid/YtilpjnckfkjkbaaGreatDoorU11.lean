/- Part 11 of the walks (own work). -/
import Derived.Test.YtilpjnckfkjkbaaGreatDoorU10
open List renaming replicate→au
open Go.Proofs.Tryz renaming prog→aa
set_option maxRecDepth 100000
set_option maxHeartbeats 4000000
set_option linter.unusedSimpArgs false
set_option linter.unusedVariables false
open Go.Proofs.Tryz (f10 f101 f102 f104 f108 f119 f12 f120 f13 f14 f16 f17 f18 f19 f20 f21 f22 f23 f24 f25 f26 f27 f28 f29 f3 f30 f31 f32 f33 f34 f36 f37 f38 f39 f4 f40 f41 f42 f43 f44 f45 f46 f47 f48 f49 f5 f50 f51 f52 f53 f54 f55 f56 f57 f58 f59 f6 f60 f61 f62 f63 f65 f66 f67 f68 f69 f70 f71 f72 f73 f74 f75 f76 f77 f78 f79 f8 f80 f82 f83 f84 f85 f86 f88 f89 f9 f90 f91 f92 f96 f97 f98 f99 func10 func100 func101 func102 func104 func105 func106 func107 func108 func119 func12 func120 func121 func122 func123 func129 func13 func131 func132 func133 func14 func149 func150 func151 func16 func165 func17 func18 func19 func190 func20 func21 func22 func23 func24 func25 func26 func27 func28 func29 func30 func31 func32 func33 func34 func36 func37 func38 func39 func40 func41 func42 func43 func44 func45 func46 func48 func49 func5 func50 func51 func52 func53 func54 func55 func56 func57 func59 func60 func62 func63 func65 func66 func67 func68 func69 func70 func71 func73 func75 func76 func77 func78 func79 func8 func80 func82 func83 func85 func86 func88 func89 func9 func91 func92 func96 func97 func98 func99)
namespace Go.Dv
open Go.Proofs
noncomputable section
abbrev XE (f:Nat) (pl:Nat->Option Way) (c:Code) (n:Nat) (r:List AV->AV):Prop:=∀ (args:List AV) (H:AH),Ev aa C0 W0 f args H=(EvC aa C0 W0 pl c (args++au (n - args.length) uA,H)).bind fun x=>match x with | (.normal,s)=>some (r s.1,s.2) | (.ret,s)=>some (r s.1,s.2) | _=>none
abbrev XR (f:Nat) (pl:Nat->Option Way) (c:Code) (n:Nat) (r:List AV->AV):Prop:=∀ (args:List AV) (H:AH),Ev aa C0 W0 f args H=(EvC aa C0 W0 pl c (args++au (n - args.length) uA,ro H)).bind fun x=>match x with | (.normal,s)=>kM true H (r s.1,s.2) | (.ret,s)=>kM true H (r s.1,s.2) | _=>none
abbrev XC (f:Nat):Prop:=∀ (C:Cfg aa) (gl:GL) (slot:Option Nat) (tm:List AV) (H:AH) (o:Oper) (xs:Array Operand) (ats:Array TypeId),gk aa C slot (cY gl tm) o ⟨.value (.func f),xs,ats⟩ H=(evL (cY gl tm) xs.toList).map fun vs=>(.enter f vs,H)
abbrev XL (pl:Nat->Option Way) (l b:Code):Prop:=∀ s:St,EvC aa C0 W0 pl l s=(EvC aa C0 W0 pl b s).bind fun r=>match r with | (.normal,s')=>EvC aa C0 W0 pl l s' | r=>some r
def c3:Code:=f3.body.getD .skip
def c4:Code:=f4.body.getD .skip
def c5:Code:=f5.body.getD .skip
theorem fe5:XE 5 plN c5 67 (fun t=>t.getD 2 uA):=fun args H=>dA func5 rfl rfl rfl args H (cL (by decide) args H)
def c6:Code:=f6.body.getD .skip
def Ox:Code:=aH [true,true,false,true,false,false] (f8.body.getD .skip)
def YO:Code:=Code.loop Ox
theorem TJ:XL plN YO Ox:=fun s=>aX _ _
def c8:Code:=f8.body.getD .skip
theorem fe8:XR 8 plN c8 33 (fun t=>t.getD 2 uA):=fun args H=>bT func8 rfl rfl rfl args H (cL (by decide) args H)
theorem fc8:XC 8:=fun C gl slot tm H o xs ats=>bM (by rw [func8]; rfl) C slot _ H o xs ats rfl
def Ho:Code:=aH [true,true,true,false,true,false,false] (f10.body.getD .skip)
def Ts:Code:=Code.loop Ho
theorem N9:XL pU Ts Ho:=fun s=>aX _ _
def Hn:Code:=aH [true,true,true,true,false,true,false,false,true,true,false,false,true,true,false,true,false,false] (f10.body.getD .skip)
def Tr:Code:=Code.loop Hn
theorem N8:XL pU Tr Hn:=fun s=>aX _ _
def Hm:Code:=aH [true,true,true,true,false,true,false,false] (f10.body.getD .skip)
def Tq:Code:=Code.loop Hm
theorem N7:XL pU Tq Hm:=fun s=>aX _ _
def c10:Code:=f10.body.getD .skip
theorem adB:XE 10 pU c10 100 (fun t=>.tuple [t.getD 8 uA,t.getD 9 uA]):=fun args H=>dA func10 rfl rfl rfl args H (cL (by decide) args H)
theorem ad5:XC 10:=fun C gl slot tm H o xs ats=>bM (by rw [func10]; rfl) C slot _ H o xs ats rfl
def c12:Code:=f12.body.getD .skip
theorem adA:XR 12 Lc c12 33 (fun t=>.tuple [t.getD 2 uA,t.getD 3 uA]):=fun args H=>bT func12 rfl rfl rfl args H (cL (by decide) args H)
theorem Rk:XC 12:=fun C gl slot tm H o xs ats=>bM (by rw [func12]; rfl) C slot _ H o xs ats rfl
def Hl:Code:=aH [true,true,false,true,false,false] (f13.body.getD .skip)
def Tp:Code:=Code.loop Hl
theorem N6:XL Bb Tp Hl:=fun s=>aX _ _
def c13:Code:=f13.body.getD .skip
theorem adz:XR 13 Bb c13 26 (fun t=>t.getD 4 uA):=fun args H=>bT func13 rfl rfl rfl args H (cL (by decide) args H)
theorem ad4:XC 13:=fun C gl slot tm H o xs ats=>bM (by rw [func13]; rfl) C slot _ H o xs ats rfl
def Hk:Code:=aH [true,true,true,false,true,false,false] (f14.body.getD .skip)
def To:Code:=Code.loop Hk
theorem N5:XL plN To Hk:=fun s=>aX _ _
def c14:Code:=f14.body.getD .skip
theorem ady:XE 14 plN c14 34 (fun t=>t.getD 2 uA):=fun args H=>dA func14 rfl rfl rfl args H (cL (by decide) args H)
theorem ad3:XC 14:=fun C gl slot tm H o xs ats=>bM (by rw [func14]; rfl) C slot _ H o xs ats rfl
def DN:Code:=aH [true,false,true,false,false] (f16.body.getD .skip)
def Tn:Code:=Code.loop DN
theorem N4:XL plN Tn DN:=fun s=>aX _ _
def Hj:Code:=aH [true,true,true,true,false,true,false,false] (f16.body.getD .skip)
def Tm:Code:=Code.loop Hj
theorem N3:XL plN Tm Hj:=fun s=>aX _ _
def DM:Code:=aH [true,true,true,true,true,true,false,true,false,false] (f16.body.getD .skip)
def Tl:Code:=Code.loop DM
theorem N2:XL plN Tl DM:=fun s=>aX _ _
def DL:Code:=aH [true,true,true,true,true,true,true,false,true,false,false,true,false,false,true,false,false] (f16.body.getD .skip)
def Tk:Code:=Code.loop DL
theorem N1:XL plN Tk DL:=fun s=>aX _ _
def DK:Code:=aH [true,true,true,true,true,true,true,false,true,false,false] (f16.body.getD .skip)
def Tj:Code:=Code.loop DK
theorem N0:XL plN Tj DK:=fun s=>aX _ _
def c16:Code:=f16.body.getD .skip
theorem adx:XR 16 plN c16 103 (fun t=>t.getD 8 uA):=fun args H=>bT func16 rfl rfl rfl args H (cL (by decide) args H)
theorem ad2:XC 16:=fun C gl slot tm H o xs ats=>bM (by rw [func16]; rfl) C slot _ H o xs ats rfl
def Hi:Code:=aH [true,true,true,false,true,false,false] (f17.body.getD .skip)
def Gj:Code:=Code.loop Hi
theorem V9:XL plN Gj Hi:=fun s=>aX _ _
def c17:Code:=f17.body.getD .skip
theorem adw:XE 17 plN c17 77 (fun t=>.tuple [t.getD 10 uA,t.getD 11 uA,t.getD 12 uA]):=fun args H=>dA func17 rfl rfl rfl args H (cL (by decide) args H)
theorem VX:XC 17:=fun C gl slot tm H o xs ats=>bM (by rw [func17]; rfl) C slot _ H o xs ats rfl
def y5:Code:=aH [true,true,true,false,true,false,false,true,true,false,false,true,true,false,false] (f18.body.getD .skip)
def yy:Code:=Code.loop y5
theorem NZ:XL plN yy y5:=fun s=>aX _ _
def AB:Code:=aH [true,true,true,false,true,false,false] (f18.body.getD .skip)
def CA:Code:=Code.loop AB
theorem NY:XL plN CA AB:=fun s=>aX _ _
def c18:Code:=f18.body.getD .skip
theorem adv:XR 18 plN c18 64 (fun t=>.tuple [t.getD 6 uA,t.getD 7 uA]):=fun args H=>bT func18 rfl rfl rfl args H (cL (by decide) args H)
theorem VW:XC 18:=fun C gl slot tm H o xs ats=>bM (by rw [func18]; rfl) C slot _ H o xs ats rfl
def Hh:Code:=aH [true,true,true,false,true,false,false] (f19.body.getD .skip)
def Ti:Code:=Code.loop Hh
theorem NX:XL kC Ti Hh:=fun s=>aX _ _
def Hg:Code:=aH [true,true,true,true,true,true,true,false,true,false,false,true,true,false,false,true,true,false,false] (f19.body.getD .skip)
def Th:Code:=Code.loop Hg
theorem NW:XL kC Th Hg:=fun s=>aX _ _
def Hf:Code:=aH [true,true,true,true,true,true,true,false,true,false,false] (f19.body.getD .skip)
def Tg:Code:=Code.loop Hf
theorem NV:XL kC Tg Hf:=fun s=>aX _ _
def DJ:Code:=aH [true,true,true,true,true,true,true,true,true,false,true,false,false] (f19.body.getD .skip)
def Tf:Code:=Code.loop DJ
theorem NU:XL kC Tf DJ:=fun s=>aX _ _
def DI:Code:=aH [true,true,true,true,true,true,true,true,true,true,false,false,false,true,false,true,true,false,false] (f19.body.getD .skip)
def Te:Code:=Code.loop DI
theorem NT:XL kC Te DI:=fun s=>aX _ _
def He:Code:=aH [true,true,true,true,true,true,true,true,true,true,false,false,false] (f19.body.getD .skip)
def LO:Code:=Code.loop He
theorem V8:XL kC LO He:=fun s=>aX _ _
def c19:Code:=f19.body.getD .skip
theorem adu:XE 19 kC c19 158 (fun t=>.tuple [t.getD 6 uA,t.getD 7 uA]):=fun args H=>dA func19 rfl rfl rfl args H (cL (by decide) args H)
theorem ZX:XC 19:=fun C gl slot tm H o xs ats=>bM (by rw [func19]; rfl) C slot _ H o xs ats rfl
def Hd:Code:=aH [true,true,false,true,false,false,true,false,false,true,false,false] (f20.body.getD .skip)
def Td:Code:=Code.loop Hd
theorem NS:XL uM Td Hd:=fun s=>aX _ _
def Hc:Code:=aH [true,true,false,true,false,false] (f20.body.getD .skip)
def Tc:Code:=Code.loop Hc
theorem NR:XL uM Tc Hc:=fun s=>aX _ _
def c20:Code:=f20.body.getD .skip
theorem adt:XR 20 uM c20 76 (fun t=>t.getD 4 uA):=fun args H=>bT func20 rfl rfl rfl args H (cL (by decide) args H)
theorem ZV:XC 20:=fun C gl slot tm H o xs ats=>bM (by rw [func20]; rfl) C slot _ H o xs ats rfl
def AA:Code:=aH [true,true,false,true,false,false,true,false,false,true,false,true,false,false] (f21.body.getD .skip)
def Tb:Code:=Code.loop AA
theorem NQ:XL plN Tb AA:=fun s=>aX _ _
def Hb:Code:=aH [true,true,false,true,false,false] (f21.body.getD .skip)
def Ta:Code:=Code.loop Hb
theorem NP:XL plN Ta Hb:=fun s=>aX _ _
def c21:Code:=f21.body.getD .skip
theorem ads:XR 21 plN c21 61 (fun t=>t.getD 2 uA):=fun args H=>bT func21 rfl rfl rfl args H (cL (by decide) args H)
theorem ZU:XC 21:=fun C gl slot tm H o xs ats=>bM (by rw [func21]; rfl) C slot _ H o xs ats rfl
def DH:Code:=aH [true,true,true,false,true,false,false,true,false,false,true,false,false,true,false,false,true,false,false] (f22.body.getD .skip)
def S9:Code:=Code.loop DH
theorem NO:XL rC S9 DH:=fun s=>aX _ _
def Ha:Code:=aH [true,true,true,false,true,false,false,true,false,false,true,false,false] (f22.body.getD .skip)
def S8:Code:=Code.loop Ha
theorem NN:XL rC S8 Ha:=fun s=>aX _ _
def G9:Code:=aH [true,true,true,false,true,false,false] (f22.body.getD .skip)
def S7:Code:=Code.loop G9
theorem NM:XL rC S7 G9:=fun s=>aX _ _
def c22:Code:=f22.body.getD .skip
theorem adr:XE 22 rC c22 52 (fun t=>t.getD 2 uA):=fun args H=>dA func22 rfl rfl rfl args H (cL (by decide) args H)
theorem ad1:XC 22:=fun C gl slot tm H o xs ats=>bM (by rw [func22]; rfl) C slot _ H o xs ats rfl
def G8:Code:=aH [true,true,true,false,true,false,false] (f23.body.getD .skip)
def S6:Code:=Code.loop G8
theorem NL:XL jc S6 G8:=fun s=>aX _ _
def G7:Code:=aH [true,true,true,true,true,false,true,false,false,true,false,false,true,true,true,false,false] (f23.body.getD .skip)
def S5:Code:=Code.loop G7
theorem NK:XL jc S5 G7:=fun s=>aX _ _
def G6:Code:=aH [true,true,true,true,true,false,true,false,false] (f23.body.getD .skip)
def S4:Code:=Code.loop G6
theorem NJ:XL jc S4 G6:=fun s=>aX _ _
def G5:Code:=aH [true,true,true,true,true,true,false,true,false,false,true,false,false,true,false,false,true,false,false,true,false,false] (f23.body.getD .skip)
def S3:Code:=Code.loop G5
theorem NI:XL jc S3 G5:=fun s=>aX _ _
def G4:Code:=aH [true,true,true,true,true,true,false,true,false,false,true,false,false,true,false,false] (f23.body.getD .skip)
def SZ:Code:=Code.loop G4
theorem NH:XL jc SZ G4:=fun s=>aX _ _
def GZ:Code:=aH [true,true,true,true,true,true,false,true,false,false] (f23.body.getD .skip)
def SY:Code:=Code.loop GZ
theorem NG:XL jc SY GZ:=fun s=>aX _ _
def c23:Code:=f23.body.getD .skip
theorem adq:XE 23 jc c23 203 (fun t=>t.getD 2 uA):=fun args H=>dA func23 rfl rfl rfl args H (cL (by decide) args H)
theorem ZT:XC 23:=fun C gl slot tm H o xs ats=>bM (by rw [func23]; rfl) C slot _ H o xs ats rfl
def wh:Code:=aH [true,true,true,false,true,false,false] (f24.body.getD .skip)
def Gi:Code:=Code.loop wh
theorem NF:XL plN Gi wh:=fun s=>aX _ _
def c24:Code:=f24.body.getD .skip
theorem adp:XR 24 plN c24 46 (fun t=>t.getD 6 uA):=fun args H=>bT func24 rfl rfl rfl args H (cL (by decide) args H)
theorem ad0:XC 24:=fun C gl slot tm H o xs ats=>bM (by rw [func24]; rfl) C slot _ H o xs ats rfl
theorem XX:C0.reads 24=true:=rfl
def GY:Code:=aH [true,true,false,true,false,false,true,false,false,true,true,false,false] (f25.body.getD .skip)
def SX:Code:=Code.loop GY
theorem ND:XL uL SX GY:=fun s=>aX _ _
def GX:Code:=aH [true,true,false,true,false,false] (f25.body.getD .skip)
def SW:Code:=Code.loop GX
theorem NC:XL uL SW GX:=fun s=>aX _ _
def c25:Code:=f25.body.getD .skip
theorem ado:XR 25 uL c25 53 (fun t=>t.getD 4 uA):=fun args H=>bT func25 rfl rfl rfl args H (cL (by decide) args H)
theorem adZ:XC 25:=fun C gl slot tm H o xs ats=>bM (by rw [func25]; rfl) C slot _ H o xs ats rfl
def GW:Code:=aH [true,true,true,false,true,false,false] (f26.body.getD .skip)
def SV:Code:=Code.loop GW
theorem NB:XL plN SV GW:=fun s=>aX _ _
def DG:Code:=aH [true,true,true,true,true,true,false,true,false,false,true,true,false,false,true,true,false,false] (f26.body.getD .skip)
def SU:Code:=Code.loop DG
theorem NA:XL plN SU DG:=fun s=>aX _ _
def DF:Code:=aH [true,true,true,true,true,true,false,true,false,false] (f26.body.getD .skip)
def SS:Code:=Code.loop DF
theorem Nz:XL plN SS DF:=fun s=>aX _ _
def c26:Code:=f26.body.getD .skip
theorem adn:XR 26 plN c26 81 (fun t=>t.getD 8 uA):=fun args H=>bT func26 rfl rfl rfl args H (cL (by decide) args H)
theorem VV:XC 26:=fun C gl slot tm H o xs ats=>bM (by rw [func26]; rfl) C slot _ H o xs ats rfl
def c27:Code:=f27.body.getD .skip
theorem Zf:XE 27 plN c27 8 (fun t=>t.getD 2 uA):=fun args H=>dA func27 rfl rfl rfl args H (cL (by decide) args H)
theorem adY:XC 27:=fun C gl slot tm H o xs ats=>bM (by rw [func27]; rfl) C slot _ H o xs ats rfl
def GV:Code:=aH [true,true,false,true,false,false] (f28.body.getD .skip)
def LN:Code:=Code.loop GV
theorem Ny:XL plN LN GV:=fun s=>aX _ _
def c28:Code:=f28.body.getD .skip
theorem adm:XE 28 plN c28 23 (fun t=>t.getD 2 uA):=fun args H=>dA func28 rfl rfl rfl args H (cL (by decide) args H)
theorem ZS:XC 28:=fun C gl slot tm H o xs ats=>bM (by rw [func28]; rfl) C slot _ H o xs ats rfl
def c29:Code:=f29.body.getD .skip
theorem Ze:XE 29 plN c29 8 (fun t=>t.getD 2 uA):=fun args H=>dA func29 rfl rfl rfl args H (cL (by decide) args H)
theorem adX:XC 29:=fun C gl slot tm H o xs ats=>bM (by rw [func29]; rfl) C slot _ H o xs ats rfl
def c30:Code:=f30.body.getD .skip
theorem Zd:XE 30 plN c30 8 (fun t=>t.getD 2 uA):=fun args H=>dA func30 rfl rfl rfl args H (cL (by decide) args H)
theorem adW:XC 30:=fun C gl slot tm H o xs ats=>bM (by rw [func30]; rfl) C slot _ H o xs ats rfl
def c31:Code:=f31.body.getD .skip
theorem Zc:XE 31 plN c31 8 (fun t=>t.getD 2 uA):=fun args H=>dA func31 rfl rfl rfl args H (cL (by decide) args H)
theorem adV:XC 31:=fun C gl slot tm H o xs ats=>bM (by rw [func31]; rfl) C slot _ H o xs ats rfl
def c32:Code:=f32.body.getD .skip
theorem Zb:XE 32 plN c32 8 (fun t=>t.getD 2 uA):=fun args H=>dA func32 rfl rfl rfl args H (cL (by decide) args H)
theorem VU:XC 32:=fun C gl slot tm H o xs ats=>bM (by rw [func32]; rfl) C slot _ H o xs ats rfl
def GU:Code:=aH [true,true,true,false,true,false,false] (f33.body.getD .skip)
def SQ:Code:=Code.loop GU
theorem Nx:XL Ba SQ GU:=fun s=>aX _ _
def c33:Code:=f33.body.getD .skip
theorem adl:XE 33 Ba c33 64 (fun t=>t.getD 2 uA):=fun args H=>dA func33 rfl rfl rfl args H (cL (by decide) args H)
theorem Rj:XC 33:=fun C gl slot tm H o xs ats=>bM (by rw [func33]; rfl) C slot _ H o xs ats rfl
def GS:Code:=aH [true,true,true,true,true,true,false,true,false,true,true,true,true,true,false,true,false,false] (f34.body.getD .skip)
def Gh:Code:=Code.loop GS
theorem Nw:XL m4 Gh GS:=fun s=>aX _ _
def c34:Code:=f34.body.getD .skip
def r34 (s:St):Option (AV × AH):=lz aa f34 s
theorem adk (args:List AV) (H:AH):Ev aa C0 W0 34 args H=(EvC aa C0 W0 m4 c34 (args++au (163 - args.length) uA,H)).bind fun r=>match r with | (.normal,s)=>r34 s | (.ret,s)=>r34 s | _=>none:=dA func34 rfl rfl rfl args H (cL (by decide) args H)
theorem adU:XC 34:=fun C gl slot tm H o xs ats=>bM (by rw [func34]; rfl) C slot _ H o xs ats rfl
def GR:Code:=aH [true,true,false,true,false,false] (f36.body.getD .skip)
def SP:Code:=Code.loop GR
theorem Nv:XL plN SP GR:=fun s=>aX _ _
def c36:Code:=f36.body.getD .skip
theorem adj:XR 36 plN c36 18 (fun t=>t.getD 2 uA):=fun args H=>bT func36 rfl rfl rfl args H (cL (by decide) args H)
theorem VT:XC 36:=fun C gl slot tm H o xs ats=>bM (by rw [func36]; rfl) C slot _ H o xs ats rfl
def DE:Code:=aH [true,true,true,false,true,false,false] (f37.body.getD .skip)
def SO:Code:=Code.loop DE
theorem Nu:XL Cn SO DE:=fun s=>aX _ _
def c37:Code:=f37.body.getD .skip
theorem adi:XR 37 Cn c37 60 (fun t=>t.getD 2 uA):=fun args H=>bT func37 rfl rfl rfl args H (cL (by decide) args H)
theorem ZR:XC 37:=fun C gl slot tm H o xs ats=>bM (by rw [func37]; rfl) C slot _ H o xs ats rfl
def c38:Code:=f38.body.getD .skip
theorem adh:XR 38 plN c38 48 (fun t=>t.getD 2 uA):=fun args H=>bT func38 rfl rfl rfl args H (cL (by decide) args H)
theorem ZQ:XC 38:=fun C gl slot tm H o xs ats=>bM (by rw [func38]; rfl) C slot _ H o xs ats rfl
def c39:Code:=f39.body.getD .skip
theorem ID:XR 39 A9 c39 162 (fun t=>t.getD 6 uA):=fun args H=>bT func39 rfl rfl rfl args H (cL (by decide) args H)
theorem ZP:XC 39:=fun C gl slot tm H o xs ats=>bM (by rw [func39]; rfl) C slot _ H o xs ats rfl
def c40:Code:=f40.body.getD .skip
theorem adg:XE 40 plN c40 10 (fun t=>t.getD 2 uA):=fun args H=>dA func40 rfl rfl rfl args H (cL (by decide) args H)
theorem adT:XC 40:=fun C gl slot tm H o xs ats=>bM (by rw [func40]; rfl) C slot _ H o xs ats rfl
def c41:Code:=f41.body.getD .skip
def r41 (s:St):Option (AV × AH):=lz aa f41 s
theorem acq (tm:List AV) (H:AH):r41 (tm,H)=match tm.getD 0 uA with | .ptr i k=>(ldA aa 27 H i k).map fun v=>(v,H) | _=>none:=oI (by rfl) tm H
theorem adf (args:List AV) (H:AH):Ev aa C0 W0 41 args H=(EvC aa C0 W0 plN c41 (args++au (2 - args.length) uA,H)).bind fun r=>match r with | (.normal,s)=>r41 s | (.ret,s)=>r41 s | _=>none:=dA func41 rfl rfl rfl args H (cL (by decide) args H)
theorem Ri:XC 41:=fun C gl slot tm H o xs ats=>bM (by rw [func41]; rfl) C slot _ H o xs ats rfl
def qn:Code:=aH [true,true,true,false,true,false,false,true,true,false,false,true,true,false,false] (f42.body.getD .skip)
def Cz:Code:=Code.loop qn
theorem Nt:XL jb Cz qn:=fun s=>aX _ _
def DD:Code:=aH [true,true,true,false,true,false,false] (f42.body.getD .skip)
def Gg:Code:=Code.loop DD
theorem Ns:XL jb Gg DD:=fun s=>aX _ _
def yZ:Code:=aH [true,true,true,true,false,true,false,false] (f42.body.getD .skip)
def Cy:Code:=Code.loop yZ
theorem Nr:XL jb Cy yZ:=fun s=>aX _ _
def c42:Code:=f42.body.getD .skip
def r42 (s:St):Option (AV × AH):=lz aa f42 s
theorem acp (tm:List AV) (H:AH):r42 (tm,H)=match tm.getD 2 uA with | .ptr i k=>(ldA aa 93 H i k).map fun v=>(v,H) | _=>none:=oI (by rfl) tm H
theorem ade (args:List AV) (H:AH):Ev aa C0 W0 42 args H=(EvC aa C0 W0 jb c42 (args++au (111 - args.length) uA,H)).bind fun r=>match r with | (.normal,s)=>r42 s | (.ret,s)=>r42 s | _=>none:=dA func42 rfl rfl rfl args H (cL (by decide) args H)
theorem ZO:XC 42:=fun C gl slot tm H o xs ats=>bM (by rw [func42]; rfl) C slot _ H o xs ats rfl
def c43:Code:=f43.body.getD .skip
theorem adb:XR 43 plN c43 34 (fun t=>t.getD 6 uA):=fun args H=>bT func43 rfl rfl rfl args H (cL (by decide) args H)
theorem Rh:XC 43:=fun C gl slot tm H o xs ats=>bM (by rw [func43]; rfl) C slot _ H o xs ats rfl
def DC:Code:=aH [true,true,false,true,false,false,true,false,true,true,true,false,false] (f44.body.getD .skip)
def SN:Code:=Code.loop DC
theorem Nq:XL plN SN DC:=fun s=>aX _ _
def GQ:Code:=aH [true,true,false,true,false,false] (f44.body.getD .skip)
def LM:Code:=Code.loop GQ
theorem V7:XL plN LM GQ:=fun s=>aX _ _
def c44:Code:=f44.body.getD .skip
theorem ada:XE 44 plN c44 43 (fun t=>t.getD 4 uA):=fun args H=>dA func44 rfl rfl rfl args H (cL (by decide) args H)
theorem Rg:XC 44:=fun C gl slot tm H o xs ats=>bM (by rw [func44]; rfl) C slot _ H o xs ats rfl
def DB:Code:=aH [true,true,true,false,true,false,false] (f45.body.getD .skip)
def SM:Code:=Code.loop DB
theorem Np:XL plN SM DB:=fun s=>aX _ _
def c45:Code:=f45.body.getD .skip
theorem ac9:XE 45 plN c45 42 (fun t=>t.getD 4 uA):=fun args H=>dA func45 rfl rfl rfl args H (cL (by decide) args H)
theorem adS:XC 45:=fun C gl slot tm H o xs ats=>bM (by rw [func45]; rfl) C slot _ H o xs ats rfl
def c46:Code:=f46.body.getD .skip
theorem Y6:XE 46 plN c46 8 (fun t=>t.getD 2 uA):=fun args H=>dA func46 rfl rfl rfl args H (cL (by decide) args H)
theorem adR:XC 46:=fun C gl slot tm H o xs ats=>bM (by rw [func46]; rfl) C slot _ H o xs ats rfl
def c47:Code:=f47.body.getD .skip
theorem ac8:XE 47 plN c47 6 (fun t=>t.getD 2 uA):=fun args H=>dA Tryz.func47 rfl rfl rfl args H (cL (by decide) args H)
def c48:Code:=f48.body.getD .skip
theorem ac7:XE 48 plN c48 12 (fun t=>.tuple []):=fun args H=>dA func48 rfl rfl rfl args H (cL (by decide) args H)
theorem ZN:XC 48:=fun C gl slot tm H o xs ats=>bM (by rw [func48]; rfl) C slot _ H o xs ats rfl
def c49:Code:=f49.body.getD .skip
theorem ac6:XR 49 plN c49 5 (fun t=>t.getD 2 uA):=fun args H=>bT func49 rfl rfl rfl args H (cL (by decide) args H)
theorem ZM:XC 49:=fun C gl slot tm H o xs ats=>bM (by rw [func49]; rfl) C slot _ H o xs ats rfl
def c50:Code:=f50.body.getD .skip
theorem ac5:XE 50 plN c50 15 (fun t=>t.getD 2 uA):=fun args H=>dA func50 rfl rfl rfl args H (cL (by decide) args H)
theorem adQ:XC 50:=fun C gl slot tm H o xs ats=>bM (by rw [func50]; rfl) C slot _ H o xs ats rfl
def GP:Code:=aH [true,true,false,true,false,false,true,false,false,true,false,false] (f51.body.getD .skip)
def SL:Code:=Code.loop GP
theorem No:XL plN SL GP:=fun s=>aX _ _
def DA:Code:=aH [true,true,false,true,false,false] (f51.body.getD .skip)
def SK:Code:=Code.loop DA
theorem Nn:XL plN SK DA:=fun s=>aX _ _
def c51:Code:=f51.body.getD .skip
theorem ac4:XE 51 plN c51 28 (fun t=>t.getD 2 uA):=fun args H=>dA func51 rfl rfl rfl args H (cL (by decide) args H)
theorem ZL:XC 51:=fun C gl slot tm H o xs ats=>bM (by rw [func51]; rfl) C slot _ H o xs ats rfl
def c52:Code:=f52.body.getD .skip
theorem ac3:XE 52 Ez c52 19 (fun t=>t.getD 8 uA):=fun args H=>dA func52 rfl rfl rfl args H (cL (by decide) args H)
theorem adP:XC 52:=fun C gl slot tm H o xs ats=>bM (by rw [func52]; rfl) C slot _ H o xs ats rfl
def GO:Code:=aH [true,false,false] (f53.body.getD .skip)
def Gf:Code:=Code.loop GO
theorem V6:XL plN Gf GO:=fun s=>aX _ _
def c53:Code:=f53.body.getD .skip
theorem ac2:XE 53 plN c53 39 (fun t=>.tuple []):=fun args H=>dA func53 rfl rfl rfl args H (cL (by decide) args H)
theorem adO:XC 53:=fun C gl slot tm H o xs ats=>bM (by rw [func53]; rfl) C slot _ H o xs ats rfl
def GN:Code:=aH [true,true,true,false,true,false,false] (f54.body.getD .skip)
def SJ:Code:=Code.loop GN
theorem Nm:XL Cm SJ GN:=fun s=>aX _ _
def c54:Code:=f54.body.getD .skip
theorem ac1:XR 54 Cm c54 39 (fun t=>.tuple [t.getD 2 uA,t.getD 3 uA]):=fun args H=>bT func54 rfl rfl rfl args H (cL (by decide) args H)
theorem Rf:XC 54:=fun C gl slot tm H o xs ats=>bM (by rw [func54]; rfl) C slot _ H o xs ats rfl
def Dz:Code:=aH [true,false,true,false,true,false,true,true,false,false] (f55.body.getD .skip)
def SI:Code:=Code.loop Dz
theorem Nl:XL pz SI Dz:=fun s=>aX _ _
def c55:Code:=f55.body.getD .skip
def r55 (s:St):Option (AV × AH):=lz aa f55 s
theorem Rd (args:List AV) (H:AH):Ev aa C0 W0 55 args H=(EvC aa C0 W0 pz c55 (args++au (63 - args.length) uA,H)).bind fun r=>match r with | (.normal,s)=>r55 s | (.ret,s)=>r55 s | _=>none:=dA func55 rfl rfl rfl args H (cL (by decide) args H)
theorem adN:XC 55:=fun C gl slot tm H o xs ats=>bM (by rw [func55]; rfl) C slot _ H o xs ats rfl
def c56:Code:=f56.body.getD .skip
theorem ac0:XR 56 plN c56 38 (fun t=>t.getD 2 uA):=fun args H=>bT func56 rfl rfl rfl args H (cL (by decide) args H)
theorem VS:XC 56:=fun C gl slot tm H o xs ats=>bM (by rw [func56]; rfl) C slot _ H o xs ats rfl
def c57:Code:=f57.body.getD .skip
theorem acZ:XR 57 plN c57 9 (fun t=>t.getD 4 uA):=fun args H=>bT func57 rfl rfl rfl args H (cL (by decide) args H)
theorem ZK:XC 57:=fun C gl slot tm H o xs ats=>bM (by rw [func57]; rfl) C slot _ H o xs ats rfl
def c58:Code:=f58.body.getD .skip
theorem acY:XR 58 plN c58 6 (fun t=>t.getD 2 uA):=fun args H=>bT Tryz.func58 rfl rfl rfl args H (cL (by decide) args H)
def Dy:Code:=aH [true,true,true,true,true,false,true,false,false] (f59.body.getD .skip)
def SH:Code:=Code.loop Dy
theorem Nk:XL plN SH Dy:=fun s=>aX _ _
def c59:Code:=f59.body.getD .skip
theorem acX:XR 59 plN c59 49 (fun t=>t.getD 2 uA):=fun args H=>bT func59 rfl rfl rfl args H (cL (by decide) args H)
theorem adM:XC 59:=fun C gl slot tm H o xs ats=>bM (by rw [func59]; rfl) C slot _ H o xs ats rfl
def c60:Code:=f60.body.getD .skip
theorem acW:XR 60 plN c60 9 (fun t=>t.getD 4 uA):=fun args H=>bT func60 rfl rfl rfl args H (cL (by decide) args H)
theorem E6:XC 60:=fun C gl slot tm H o xs ats=>bM (by rw [func60]; rfl) C slot _ H o xs ats rfl
def c61:Code:=f61.body.getD .skip
theorem acV:XR 61 plN c61 6 (fun t=>t.getD 2 uA):=fun args H=>bT Tryz.func61 rfl rfl rfl args H (cL (by decide) args H)
def c62:Code:=f62.body.getD .skip
theorem IC:XR 62 sg c62 181 (fun t=>t.getD 6 uA):=fun args H=>bT func62 rfl rfl rfl args H (cL (by decide) args H)
theorem ZJ:XC 62:=fun C gl slot tm H o xs ats=>bM (by rw [func62]; rfl) C slot _ H o xs ats rfl
def c63:Code:=f63.body.getD .skip
theorem acU:XR 63 plN c63 9 (fun t=>t.getD 4 uA):=fun args H=>bT func63 rfl rfl rfl args H (cL (by decide) args H)
theorem ZI:XC 63:=fun C gl slot tm H o xs ats=>bM (by rw [func63]; rfl) C slot _ H o xs ats rfl
def c65:Code:=f65.body.getD .skip
def r65 (s:St):Option (AV × AH):=lz aa f65 s
theorem acn (tm:List AV) (H:AH):r65 (tm,H)=match tm.getD 4 uA with | .ptr i k=>(ldA aa 126 H i k).map fun v=>(v,H) | _=>none:=oI (by rfl) tm H
theorem acT (args:List AV) (H:AH):Ev aa C0 W0 65 args H=(EvC aa C0 W0 plN c65 (args++au (14 - args.length) uA,ro H)).bind fun r=>match r with | (.normal,s)=>(r65 s).bind (kM true H) | (.ret,s)=>(r65 s).bind (kM true H) | _=>none:=bT func65 rfl rfl rfl args H (cL (by decide) args H)
theorem iq:XC 65:=fun C gl slot tm H o xs ats=>bM (by rw [func65]; rfl) C slot _ H o xs ats rfl
theorem FU:C0.reads 65=true:=rfl
def GM:Code:=aH [true,true,true,false,true,false,false] (f66.body.getD .skip)
def SG:Code:=Code.loop GM
theorem Nj:XL tg SG GM:=fun s=>aX _ _
def Az:Code:=aH [true,true,true,true,false,true,false,false] (f66.body.getD .skip)
def SF:Code:=Code.loop Az
theorem Ni:XL tg SF Az:=fun s=>aX _ _
def Dx:Code:=aH [true,true,true,true,true,false,true,false,false,true,false,false,true,true,false,false] (f66.body.getD .skip)
def SE:Code:=Code.loop Dx
theorem Nh:XL tg SE Dx:=fun s=>aX _ _
def Ay:Code:=aH [true,true,true,true,true,false,true,false,false] (f66.body.getD .skip)
def SD:Code:=Code.loop Ay
theorem Ng:XL tg SD Ay:=fun s=>aX _ _
def c66:Code:=f66.body.getD .skip
theorem acS:XR 66 tg c66 98 (fun t=>t.getD 2 uA):=fun args H=>bT func66 rfl rfl rfl args H (cL (by decide) args H)
theorem IJ:XC 66:=fun C gl slot tm H o xs ats=>bM (by rw [func66]; rfl) C slot _ H o xs ats rfl
def c67:Code:=f67.body.getD .skip
theorem acR:XR 67 plN c67 95 (fun t=>t.getD 4 uA):=fun args H=>bT func67 rfl rfl rfl args H (cL (by decide) args H)
theorem ZH:XC 67:=fun C gl slot tm H o xs ats=>bM (by rw [func67]; rfl) C slot _ H o xs ats rfl
theorem R9:C0.reads 67=true:=rfl
def c68:Code:=f68.body.getD .skip
theorem acQ:XR 68 plN c68 19 (fun t=>t.getD 4 uA):=fun args H=>bT func68 rfl rfl rfl args H (cL (by decide) args H)
theorem adL:XC 68:=fun C gl slot tm H o xs ats=>bM (by rw [func68]; rfl) C slot _ H o xs ats rfl
def Dw:Code:=aH [true,false,true,false,false] (f69.body.getD .skip)
def SC:Code:=Code.loop Dw
theorem Nf:XL plN SC Dw:=fun s=>aX _ _
def c69:Code:=f69.body.getD .skip
theorem acP:XR 69 plN c69 30 (fun t=>t.getD 6 uA):=fun args H=>bT func69 rfl rfl rfl args H (cL (by decide) args H)
theorem ZG:XC 69:=fun C gl slot tm H o xs ats=>bM (by rw [func69]; rfl) C slot _ H o xs ats rfl
theorem R8:C0.reads 69=true:=rfl
def c70:Code:=f70.body.getD .skip
def r70 (s:St):Option (AV × AH):=lz aa f70 s
theorem acm (tm:List AV) (H:AH):r70 (tm,H)=match tm.getD 4 uA with | .ptr i k=>(ldA aa 126 H i k).map fun v=>(v,H) | _=>none:=oI (by rfl) tm H
theorem acO (args:List AV) (H:AH):Ev aa C0 W0 70 args H=(EvC aa C0 W0 plN c70 (args++au (14 - args.length) uA,ro H)).bind fun r=>match r with | (.normal,s)=>(r70 s).bind (kM true H) | (.ret,s)=>(r70 s).bind (kM true H) | _=>none:=bT func70 rfl rfl rfl args H (cL (by decide) args H)
theorem ZF:XC 70:=fun C gl slot tm H o xs ats=>bM (by rw [func70]; rfl) C slot _ H o xs ats rfl
theorem R7:C0.reads 70=true:=rfl
def c71:Code:=f71.body.getD .skip
theorem acN:XR 71 plN c71 22 (fun t=>t.getD 2 uA):=fun args H=>bT func71 rfl rfl rfl args H (cL (by decide) args H)
theorem jq:XC 71:=fun C gl slot tm H o xs ats=>bM (by rw [func71]; rfl) C slot _ H o xs ats rfl
theorem fY:C0.reads 71=true:=rfl
def c72:Code:=f72.body.getD .skip
theorem acM:XE 72 plN c72 8 (fun t=>t.getD 4 uA):=fun args H=>dA Tryz.func72 rfl rfl rfl args H (cL (by decide) args H)
def c73:Code:=f73.body.getD .skip
theorem acL:XR 73 plN c73 9 (fun t=>t.getD 4 uA):=fun args H=>bT func73 rfl rfl rfl args H (cL (by decide) args H)
theorem adK:XC 73:=fun C gl slot tm H o xs ats=>bM (by rw [func73]; rfl) C slot _ H o xs ats rfl
def c74:Code:=f74.body.getD .skip
theorem acK:XR 74 plN c74 7 (fun t=>t.getD 3 uA):=fun args H=>bT Tryz.func74 rfl rfl rfl args H (cL (by decide) args H)
def Du:Code:=aH [true,false,true,false,true,false,false,true,false,false] (f75.body.getD .skip)
def SB:Code:=Code.loop Du
theorem Nd:XL A8 SB Du:=fun s=>aX _ _
def c75:Code:=f75.body.getD .skip
theorem Rc:XE 75 A8 c75 56 (fun t=>.tuple [t.getD 4 uA,t.getD 5 uA]):=fun args H=>dA func75 rfl rfl rfl args H (cL (by decide) args H)
theorem ZE:XC 75:=fun C gl slot tm H o xs ats=>bM (by rw [func75]; rfl) C slot _ H o xs ats rfl
def Dt:Code:=aH [true,false,true,false,false] (f76.body.getD .skip)
def rW:Code:=Code.loop Dt
theorem Fb:XL plN rW Dt:=fun s=>aX _ _
def c76:Code:=f76.body.getD .skip
theorem acJ:XE 76 plN c76 19 (fun t=>t.getD 4 uA):=fun args H=>dA func76 rfl rfl rfl args H (cL (by decide) args H)
theorem ZD:XC 76:=fun C gl slot tm H o xs ats=>bM (by rw [func76]; rfl) C slot _ H o xs ats rfl
def Ax:Code:=aH [false,false] (f77.body.getD .skip)
def Ge:Code:=Code.loop Ax
theorem Nc:XL plN Ge Ax:=fun s=>aX _ _
def c77:Code:=f77.body.getD .skip
theorem acI:XE 77 plN c77 23 (fun t=>.tuple []):=fun args H=>dA func77 rfl rfl rfl args H (cL (by decide) args H)
theorem adJ:XC 77:=fun C gl slot tm H o xs ats=>bM (by rw [func77]; rfl) C slot _ H o xs ats rfl
def r4:Code:=aH [true,true,false,false,false] (f78.body.getD .skip)
def Gd:Code:=Code.loop r4
theorem Fa:XL plN Gd r4:=fun s=>aX _ _
def c78:Code:=f78.body.getD .skip
theorem acH:XE 78 plN c78 48 (fun t=>t.getD 6 uA):=fun args H=>dA func78 rfl rfl rfl args H (cL (by decide) args H)
theorem adI:XC 78:=fun C gl slot tm H o xs ats=>bM (by rw [func78]; rfl) C slot _ H o xs ats rfl
def Oy:Code:=aH [true,true,false,true,false,false] (f79.body.getD .skip)
def SA:Code:=Code.loop Oy
theorem V5:XL plN SA Oy:=fun s=>aX _ _
def c79:Code:=f79.body.getD .skip
theorem acG:XE 79 plN c79 21 (fun t=>t.getD 2 uA):=fun args H=>dA func79 rfl rfl rfl args H (cL (by decide) args H)
theorem adH:XC 79:=fun C gl slot tm H o xs ats=>bM (by rw [func79]; rfl) C slot _ H o xs ats rfl
def Dr:Code:=aH [true,true,false,true,false,false] (f80.body.getD .skip)
def Sz:Code:=Code.loop Dr
theorem Nb:XL wo Sz Dr:=fun s=>aX _ _
def c80:Code:=f80.body.getD .skip
theorem acF:XE 80 wo c80 71 (fun t=>t.getD 2 uA):=fun args H=>dA func80 rfl rfl rfl args H (cL (by decide) args H)
theorem Re:XC 80:=fun C gl slot tm H o xs ats=>bM (by rw [func80]; rfl) C slot _ H o xs ats rfl
def Dq:Code:=aH [true,true,true,true,false,true,false,false] (f82.body.getD .skip)
def Gc:Code:=Code.loop Dq
theorem Na:XL uK Gc Dq:=fun s=>aX _ _
def c82:Code:=f82.body.getD .skip
def r82 (s:St):Option (AV × AH):=lz aa f82 s
theorem acE (args:List AV) (H:AH):Ev aa C0 W0 82 args H=(EvC aa C0 W0 uK c82 (args++au (165 - args.length) uA,H)).bind fun r=>match r with | (.normal,s)=>r82 s | (.ret,s)=>r82 s | _=>none:=dA func82 rfl rfl rfl args H (cL (by decide) args H)
theorem adG:XC 82:=fun C gl slot tm H o xs ats=>bM (by rw [func82]; rfl) C slot _ H o xs ats rfl
def GK:Code:=aH [true,true,false,true,false,false] (f83.body.getD .skip)
def Sy:Code:=Code.loop GK
theorem M9:XL zx Sy GK:=fun s=>aX _ _
def c83:Code:=f83.body.getD .skip
theorem acD:XE 83 zx c83 34 (fun t=>t.getD 2 uA):=fun args H=>dA func83 rfl rfl rfl args H (cL (by decide) args H)
theorem adF:XC 83:=fun C gl slot tm H o xs ats=>bM (by rw [func83]; rfl) C slot _ H o xs ats rfl
def c84:Code:=f84.body.getD .skip
theorem acC:XR 84 plN c84 15 (fun t=>t.getD 6 uA):=fun args H=>bT Tryz.func84 rfl rfl rfl args H (cL (by decide) args H)
def Dp:Code:=aH [true,false,true,false,false] (f85.body.getD .skip)
def Sx:Code:=Code.loop Dp
theorem M8:XL plN Sx Dp:=fun s=>aX _ _
def c85:Code:=f85.body.getD .skip
theorem acB:XR 85 plN c85 19 (fun t=>t.getD 4 uA):=fun args H=>bT func85 rfl rfl rfl args H (cL (by decide) args H)
theorem adE:XC 85:=fun C gl slot tm H o xs ats=>bM (by rw [func85]; rfl) C slot _ H o xs ats rfl
def Aw:Code:=aH [true,true,true,false,true,false,false] (f86.body.getD .skip)
def Sw:Code:=Code.loop Aw
theorem M7:XL plN Sw Aw:=fun s=>aX _ _
def wg:Code:=aH [true,true,true,true,false,true,false,false] (f86.body.getD .skip)
def Sv:Code:=Code.loop wg
theorem M6:XL plN Sv wg:=fun s=>aX _ _
def c86:Code:=f86.body.getD .skip
theorem acA:XR 86 plN c86 87 (fun t=>t.getD 2 uA):=fun args H=>bT func86 rfl rfl rfl args H (cL (by decide) args H)
theorem II:XC 86:=fun C gl slot tm H o xs ats=>bM (by rw [func86]; rfl) C slot _ H o xs ats rfl
theorem IH:XC 87:=fun C gl slot tm H o xs ats=>bM (by rw [Tryz.func87]; rfl) C slot _ H o xs ats rfl
def c88:Code:=f88.body.getD .skip
theorem acz:XR 88 plN c88 93 (fun t=>t.getD 6 uA):=fun args H=>bT func88 rfl rfl rfl args H (cL (by decide) args H)
theorem ZC:XC 88:=fun C gl slot tm H o xs ats=>bM (by rw [func88]; rfl) C slot _ H o xs ats rfl
def Dn:Code:=aH [true,false,true,false,false] (f89.body.getD .skip)
def Su:Code:=Code.loop Dn
theorem M5:XL plN Su Dn:=fun s=>aX _ _
def c89:Code:=f89.body.getD .skip
theorem acy:XR 89 plN c89 19 (fun t=>t.getD 4 uA):=fun args H=>bT func89 rfl rfl rfl args H (cL (by decide) args H)
theorem adD:XC 89:=fun C gl slot tm H o xs ats=>bM (by rw [func89]; rfl) C slot _ H o xs ats rfl
def c90:Code:=f90.body.getD .skip
theorem acx:XR 90 plN c90 12 (fun t=>t.getD 3 uA):=fun args H=>bT Tryz.func90 rfl rfl rfl args H (cL (by decide) args H)
theorem Cd:C0.reads 90=true:=rfl
def Dm:Code:=aH [true,true,false,true,false,false] (f91.body.getD .skip)
def Ss:Code:=Code.loop Dm
theorem M4:XL plN Ss Dm:=fun s=>aX _ _
def Av:Code:=aH [true,true,true,false,true,false,false] (f91.body.getD .skip)
def Sr:Code:=Code.loop Av
theorem M3:XL plN Sr Av:=fun s=>aX _ _
def c91:Code:=f91.body.getD .skip
theorem acw:XR 91 plN c91 52 (fun t=>t.getD 6 uA):=fun args H=>bT func91 rfl rfl rfl args H (cL (by decide) args H)
theorem il:XC 91:=fun C gl slot tm H o xs ats=>bM (by rw [func91]; rfl) C slot _ H o xs ats rfl
theorem FT:C0.reads 91=true:=rfl
def Dl:Code:=aH [true,false,true,false,false] (f92.body.getD .skip)
def Sq:Code:=Code.loop Dl
theorem M1:XL plN Sq Dl:=fun s=>aX _ _
def c92:Code:=f92.body.getD .skip
theorem acv:XR 92 plN c92 19 (fun t=>t.getD 4 uA):=fun args H=>bT func92 rfl rfl rfl args H (cL (by decide) args H)
theorem adC:XC 92:=fun C gl slot tm H o xs ats=>bM (by rw [func92]; rfl) C slot _ H o xs ats rfl
def c96:Code:=f96.body.getD .skip
theorem acu:XR 96 plN c96 16 (fun t=>t.getD 2 uA):=fun args H=>bT func96 rfl rfl rfl args H (cL (by decide) args H)
theorem E5:XC 96:=fun C gl slot tm H o xs ats=>bM (by rw [func96]; rfl) C slot _ H o xs ats rfl
def c97:Code:=f97.body.getD .skip
theorem rG:XR 97 plN c97 24 (fun t=>.tuple [t.getD 2 uA,t.getD 3 uA,t.getD 4 uA]):=fun args H=>bT func97 rfl rfl rfl args H (cL (by decide) args H)
theorem IG:XC 97:=fun C gl slot tm H o xs ats=>bM (by rw [func97]; rfl) C slot _ H o xs ats rfl
def c98:Code:=f98.body.getD .skip
theorem acs:XR 98 plN c98 15 (fun t=>t.getD 4 uA):=fun args H=>bT func98 rfl rfl rfl args H (cL (by decide) args H)
theorem IF:XC 98:=fun C gl slot tm H o xs ats=>bM (by rw [func98]; rfl) C slot _ H o xs ats rfl
def c99:Code:=f99.body.getD .skip
theorem rE:XR 99 plN c99 44 (fun t=>t.getD 2 uA):=fun args H=>bT func99 rfl rfl rfl args H (cL (by decide) args H)
theorem IE:XC 99:=fun C gl slot tm H o xs ats=>bM (by rw [func99]; rfl) C slot _ H o xs ats rfl
def pa:Code:=Tryz.f100.body.getD .skip
theorem lT:XR 100 plN pa 69 (fun t=>t.getD 4 uA):=fun args H=>bT func100 rfl rfl rfl args H (cL (by decide) args H)
theorem An:XC 100:=fun C gl slot tm H o xs ats=>bM (by rw [func100]; rfl) C slot _ H o xs ats rfl
def sE:Code:=aH [true,true,false,true,false,false] (f101.body.getD .skip)
def LV:Code:=Code.loop sE
theorem Gz:XL plN LV sE:=fun s=>aX _ _
def Db:Code:=f101.body.getD .skip
theorem ZB:XR 101 plN Db 73 (fun t=>t.getD 6 uA):=fun args H=>bT func101 rfl rfl rfl args H (cL (by decide) args H)
theorem TE:XC 101:=fun C gl slot tm H o xs ats=>bM (by rw [func101]; rfl) C slot _ H o xs ats rfl
def zc:Code:=aH [true,false,true,false,false] (f102.body.getD .skip)
def LU:Code:=Code.loop zc
theorem Gy:XL plN LU zc:=fun s=>aX _ _
def aaW:Code:=f102.body.getD .skip
theorem ZA:XR 102 plN aaW 19 (fun t=>t.getD 4 uA):=fun args H=>bT func102 rfl rfl rfl args H (cL (by decide) args H)
theorem Z6:XC 102:=fun C gl slot tm H o xs ats=>bM (by rw [func102]; rfl) C slot _ H o xs ats rfl
def zb:Code:=aH [true,true,false,true,false,false] (f104.body.getD .skip)
def LS:Code:=Code.loop zb
theorem Gx:XL plN LS zb:=fun s=>aX _ _
def I1:Code:=f104.body.getD .skip
theorem Zz:XR 104 plN I1 33 (fun t=>t.getD 2 uA):=fun args H=>bT func104 rfl rfl rfl args H (cL (by decide) args H)
theorem nC:XC 104:=fun C gl slot tm H o xs ats=>bM (by rw [func104]; rfl) C slot _ H o xs ats rfl
def aaV:Code:=Tryz.f105.body.getD .skip
theorem Zy:XR 105 plN aaV 11 (fun t=>t.getD 2 uA):=fun args H=>bT func105 rfl rfl rfl args H (cL (by decide) args H)
theorem nB:XC 105:=fun C gl slot tm H o xs ats=>bM (by rw [func105]; rfl) C slot _ H o xs ats rfl
def aaU:Code:=Tryz.f106.body.getD .skip
theorem Zx:XR 106 plN aaU 18 (fun t=>t.getD 6 uA):=fun args H=>bT func106 rfl rfl rfl args H (cL (by decide) args H)
theorem nA:XC 106:=fun C gl slot tm H o xs ats=>bM (by rw [func106]; rfl) C slot _ H o xs ats rfl
def BH:Code:=Tryz.f107.body.getD .skip
theorem Zw:XR 107 plN BH 61 (fun t=>t.getD 6 uA):=fun args H=>bT func107 rfl rfl rfl args H (cL (by decide) args H)
theorem nz:XC 107:=fun C gl slot tm H o xs ats=>bM (by rw [func107]; rfl) C slot _ H o xs ats rfl
def sD:Code:=aH [true,true,false,true,false,false] (f108.body.getD .skip)
def LR:Code:=Code.loop sD
theorem Gw:XL plN LR sD:=fun s=>aX _ _
def Da:Code:=f108.body.getD .skip
theorem Zv:XR 108 plN Da 68 (fun t=>t.getD 4 uA):=fun args H=>bT func108 rfl rfl rfl args H (cL (by decide) args H)
theorem Md:XC 108:=fun C gl slot tm H o xs ats=>bM (by rw [func108]; rfl) C slot _ H o xs ats rfl
def za:Code:=aH [true,true,false,true,false,false] (f119.body.getD .skip)
def LQ:Code:=Code.loop za
theorem Gv:XL plN LQ za:=fun s=>aX _ _
def RF:Code:=f119.body.getD .skip
theorem Zu:XR 119 plN RF 23 (fun t=>t.getD 2 uA):=fun args H=>bT func119 rfl rfl rfl args H (cL (by decide) args H)
theorem Mc:XC 119:=fun C gl slot tm H o xs ats=>bM (by rw [func119]; rfl) C slot _ H o xs ats rfl
def y9:Code:=aH [true,false,true,false,false] (f120.body.getD .skip)
def LP:Code:=Code.loop y9
theorem Gu:XL plN LP y9:=fun s=>aX _ _
def aaT:Code:=f120.body.getD .skip
theorem Zt:XR 120 plN aaT 18 (fun t=>t.getD 4 uA):=fun args H=>bT func120 rfl rfl rfl args H (cL (by decide) args H)
theorem Z5:XC 120:=fun C gl slot tm H o xs ats=>bM (by rw [func120]; rfl) C slot _ H o xs ats rfl
def aaS:Code:=Tryz.f121.body.getD .skip
theorem Zs:XE 121 plN aaS 2 (fun t=>t.getD 0 uA):=fun args H=>dA func121 rfl rfl rfl args H (cL (by decide) args H)
theorem Z4:XC 121:=fun C gl slot tm H o xs ats=>bM (by rw [func121]; rfl) C slot _ H o xs ats rfl
def aaR:Code:=Tryz.f122.body.getD .skip
theorem Zq:XR 122 plN aaR 11 (fun t=>t.getD 2 uA):=fun args H=>bT func122 rfl rfl rfl args H (cL (by decide) args H)
theorem lU:XC 122:=fun C gl slot tm H o xs ats=>bM (by rw [func122]; rfl) C slot _ H o xs ats rfl
def Oj:Code:=Tryz.f123.body.getD .skip
theorem Zp:XR 123 plN Oj 32 (fun t=>t.getD 4 uA):=fun args H=>bT func123 rfl rfl rfl args H (cL (by decide) args H)
theorem kO:XC 123:=fun C gl slot tm H o xs ats=>bM (by rw [func123]; rfl) C slot _ H o xs ats rfl
def aaQ:Code:=Tryz.f129.body.getD .skip
theorem Zo:XR 129 plN aaQ 17 (fun t=>t.getD 2 uA):=fun args H=>bT func129 rfl rfl rfl args H (cL (by decide) args H)
theorem Gq:XC 129:=fun C gl slot tm H o xs ats=>bM (by rw [func129]; rfl) C slot _ H o xs ats rfl
theorem TD:XC 130:=fun C gl slot tm H o xs ats=>bM (by rw [Tryz.func130]; rfl) C slot _ H o xs ats rfl
def aaP:Code:=Tryz.f131.body.getD .skip
theorem Zn:XR 131 plN aaP 13 (fun t=>t.getD 2 uA):=fun args H=>bT func131 rfl rfl rfl args H (cL (by decide) args H)
theorem TC:XC 131:=fun C gl slot tm H o xs ats=>bM (by rw [func131]; rfl) C slot _ H o xs ats rfl
def aaO:Code:=Tryz.f132.body.getD .skip
theorem Zm:XR 132 plN aaO 15 (fun t=>.tuple [t.getD 2 uA,t.getD 3 uA]):=fun args H=>bT func132 rfl rfl rfl args H (cL (by decide) args H)
theorem Z3:XC 132:=fun C gl slot tm H o xs ats=>bM (by rw [func132]; rfl) C slot _ H o xs ats rfl
def Oi:Code:=Tryz.f133.body.getD .skip
theorem Zl:XR 133 plN Oi 32 (fun t=>t.getD 4 uA):=fun args H=>bT func133 rfl rfl rfl args H (cL (by decide) args H)
theorem Z1:XC 133:=fun C gl slot tm H o xs ats=>bM (by rw [func133]; rfl) C slot _ H o xs ats rfl
def aaN:Code:=Tryz.f149.body.getD .skip
theorem Zk:XR 149 plN aaN 17 (fun t=>t.getD 2 uA):=fun args H=>bT func149 rfl rfl rfl args H (cL (by decide) args H)
theorem Ma:XC 149:=fun C gl slot tm H o xs ats=>bM (by rw [func149]; rfl) C slot _ H o xs ats rfl
def aaM:Code:=Tryz.f150.body.getD .skip
theorem Zj:XR 150 plN aaM 13 (fun t=>t.getD 2 uA):=fun args H=>bT func150 rfl rfl rfl args H (cL (by decide) args H)
theorem TB:XC 150:=fun C gl slot tm H o xs ats=>bM (by rw [func150]; rfl) C slot _ H o xs ats rfl
def aaL:Code:=Tryz.f151.body.getD .skip
theorem Zi:XR 151 plN aaL 15 (fun t=>.tuple [t.getD 2 uA,t.getD 3 uA]):=fun args H=>bT func151 rfl rfl rfl args H (cL (by decide) args H)
theorem Z0:XC 151:=fun C gl slot tm H o xs ats=>bM (by rw [func151]; rfl) C slot _ H o xs ats rfl
def aaK:Code:=Tryz.f165.body.getD .skip
theorem Zh:XR 165 plN aaK 9 (fun t=>t.getD 2 uA):=fun args H=>bT func165 rfl rfl rfl args H (cL (by decide) args H)
theorem ZY:XC 165:=fun C gl slot tm H o xs ats=>bM (by rw [func165]; rfl) C slot _ H o xs ats rfl
def aaJ:Code:=Tryz.f190.body.getD .skip
theorem Zg:XR 190 plN aaJ 9 (fun t=>t.getD 2 uA):=fun args H=>bT func190 rfl rfl rfl args H (cL (by decide) args H)
theorem ZW:XC 190:=fun C gl slot tm H o xs ats=>bM (by rw [func190]; rfl) C slot _ H o xs ats rfl
def c9:Code:=f9.body.getD .skip
theorem fe9:XR 9 plN c9 62 (fun t=>t.getD 0 uA):=fun args H=>bT func9 rfl rfl rfl args H (cL (by decide) args H)
theorem fc9:XC 9:=fun C gl slot tm H o xs ats=>bM (by rw [func9]; rfl) C slot _ H o xs ats rfl
def aaI:Code:=Tryz.f350.body.getD .skip
theorem Za:XR 350 zT aaI 16 (fun t=>t.getD 6 uA):=fun args H=>bT Tryz.func350 rfl rfl rfl args H (cL (by decide) args H)
def aaH:Code:=Tryz.f351.body.getD .skip
theorem Y9:XE 351 ya aaH 27 (fun t=>t.getD 2 uA):=fun args H=>dA Tryz.func351 rfl rfl rfl args H (cL (by decide) args H)
def aaG:Code:=Tryz.f352.body.getD .skip
theorem Y8:XE 352 zS aaG 13 (fun t=>.tuple []):=fun args H=>dA Tryz.func352 rfl rfl rfl args H (cL (by decide) args H)
def aaF:Code:=Tryz.f353.body.getD .skip
theorem Y7:XE 353 zR aaF 20 (fun t=>.tuple []):=fun args H=>dA Tryz.func353 rfl rfl rfl args H (cL (by decide) args H)
end
end Go.Dv
