/- Part 11 of the walks (own work). -/
import Derived.Test.YtilpjnckfkjkbaaGreatDoorT10
open List renaming replicate→ay
open Go.Proofs.Tryz renaming prog→aa
set_option maxRecDepth 100000
set_option maxHeartbeats 4000000
set_option linter.unusedSimpArgs false
set_option linter.unusedVariables false
namespace Go.Dv
open Go.Proofs
noncomputable section
abbrev XE (f:Nat) (pl:Nat->Option Way) (c:Code) (n:Nat) (r:List AV->AV):Prop:=∀ (args:List AV) (H:AH),Ev aa C0 W0 f args H=(EvC aa C0 W0 pl c (args++ay (n - args.length) uA,H)).bind fun x=>match x with | (.normal,s)=>some (r s.1,s.2) | (.ret,s)=>some (r s.1,s.2) | _=>none
abbrev XR (f:Nat) (pl:Nat->Option Way) (c:Code) (n:Nat) (r:List AV->AV):Prop:=∀ (args:List AV) (H:AH),Ev aa C0 W0 f args H=(EvC aa C0 W0 pl c (args++ay (n - args.length) uA,ro H)).bind fun x=>match x with | (.normal,s)=>kF true H (r s.1,s.2) | (.ret,s)=>kF true H (r s.1,s.2) | _=>none
abbrev XC (f:Nat):Prop:=∀ (C:Cfg aa) (gl:GL) (slot:Option Nat) (tm:List AV) (H:AH) (o:Oper) (xs:Array Operand) (ats:Array TypeId),fZ aa C slot (cP gl tm) o ⟨.value (.func f),xs,ats⟩ H=(evL (cP gl tm) xs.toList).map fun vs=>(.enter f vs,H)
abbrev XL (pl:Nat->Option Way) (l b:Code):Prop:=∀ s:St,EvC aa C0 W0 pl l s=(EvC aa C0 W0 pl b s).bind fun r=>match r with | (.normal,s')=>EvC aa C0 W0 pl l s' | r=>some r
def c3:Code:=Tryz.f3.body.getD .skip
def c4:Code:=Tryz.f4.body.getD .skip
def c5:Code:=Tryz.f5.body.getD .skip
def QF:Code:=aI [true,true,true,true,true,true,false,true,false,false] (Tryz.f6.body.getD .skip)
def Xv:Code:=Code.loop QF
theorem Sp:XL pl6 Xv QF:=fun s=>bf _ _
def QE:Code:=aI [true,true,true,true,true,true,true,true,true,false,true,false,false,true,false,false,true,false,false] (Tryz.f6.body.getD .skip)
def Xu:Code:=Code.loop QE
theorem So:XL pl6 Xu QE:=fun s=>bf _ _
def QD:Code:=aI [true,true,true,true,true,true,true,true,true,false,true,false,false] (Tryz.f6.body.getD .skip)
def Xt:Code:=Code.loop QD
theorem Sn:XL pl6 Xt QD:=fun s=>bf _ _
def c6:Code:=Tryz.f6.body.getD .skip
theorem fe6:XE 6 pl6 c6 136 (fun t=>t.getD 2 uA):=fun args H=>d3 Tryz.func6 rfl rfl rfl args H (cM (by decide) args H)
def Nf:Code:=aI [true,true,false,true,false,false] (Tryz.f8.body.getD .skip)
def Xs:Code:=Code.loop Nf
theorem Sm:XL plN Xs Nf:=fun s=>bf _ _
def c8:Code:=Tryz.f8.body.getD .skip
theorem fe8:XR 8 plN c8 33 (fun t=>t.getD 2 uA):=fun args H=>bR Tryz.func8 rfl rfl rfl args H (cM (by decide) args H)
theorem fc8:XC 8:=fun C gl slot tm H o xs ats=>bP (by rw [Tryz.func8]; rfl) C slot _ H o xs ats rfl
def GC:Code:=aI [true,true,true,false,true,false,false] (Tryz.f10.body.getD .skip)
def R7:Code:=Code.loop GC
theorem MU:XL pf R7 GC:=fun s=>bf _ _
def GB:Code:=aI [true,true,true,true,false,true,false,false,true,true,false,false,true,true,false,true,false,false] (Tryz.f10.body.getD .skip)
def R6:Code:=Code.loop GB
theorem MT:XL pf R6 GB:=fun s=>bf _ _
def GA:Code:=aI [true,true,true,true,false,true,false,false] (Tryz.f10.body.getD .skip)
def R5:Code:=Code.loop GA
theorem MS:XL pf R5 GA:=fun s=>bf _ _
def c10:Code:=Tryz.f10.body.getD .skip
theorem ab0:XE 10 pf c10 100 (fun t=>.tuple [t.getD 8 uA,t.getD 9 uA]):=fun args H=>d3 Tryz.func10 rfl rfl rfl args H (cM (by decide) args H)
theorem acq:XC 10:=fun C gl slot tm H o xs ats=>bP (by rw [Tryz.func10]; rfl) C slot _ H o xs ats rfl
def c12:Code:=Tryz.f12.body.getD .skip
theorem abZ:XR 12 J4 c12 33 (fun t=>.tuple [t.getD 2 uA,t.getD 3 uA]):=fun args H=>bR Tryz.func12 rfl rfl rfl args H (cM (by decide) args H)
theorem P9:XC 12:=fun C gl slot tm H o xs ats=>bP (by rw [Tryz.func12]; rfl) C slot _ H o xs ats rfl
def Gz:Code:=aI [true,true,true,false,true,false,false] (Tryz.f14.body.getD .skip)
def R4:Code:=Code.loop Gz
theorem MQ:XL plN R4 Gz:=fun s=>bf _ _
def c14:Code:=Tryz.f14.body.getD .skip
theorem abY:XE 14 plN c14 34 (fun t=>t.getD 2 uA):=fun args H=>d3 Tryz.func14 rfl rfl rfl args H (cM (by decide) args H)
theorem acp:XC 14:=fun C gl slot tm H o xs ats=>bP (by rw [Tryz.func14]; rfl) C slot _ H o xs ats rfl
def Dk:Code:=aI [true,false,true,false,false] (Tryz.f16.body.getD .skip)
def R3:Code:=Code.loop Dk
theorem MP:XL plN R3 Dk:=fun s=>bf _ _
def Gy:Code:=aI [true,true,true,true,false,true,false,false] (Tryz.f16.body.getD .skip)
def R0:Code:=Code.loop Gy
theorem MO:XL plN R0 Gy:=fun s=>bf _ _
def Dj:Code:=aI [true,true,true,true,true,true,false,true,false,false] (Tryz.f16.body.getD .skip)
def RZ:Code:=Code.loop Dj
theorem MN:XL plN RZ Dj:=fun s=>bf _ _
def Di:Code:=aI [true,true,true,true,true,true,true,false,true,false,false,true,false,false,true,false,false] (Tryz.f16.body.getD .skip)
def RY:Code:=Code.loop Di
theorem MM:XL plN RY Di:=fun s=>bf _ _
def Dh:Code:=aI [true,true,true,true,true,true,true,false,true,false,false] (Tryz.f16.body.getD .skip)
def RX:Code:=Code.loop Dh
theorem ML:XL plN RX Dh:=fun s=>bf _ _
def c16:Code:=Tryz.f16.body.getD .skip
theorem abX:XR 16 plN c16 103 (fun t=>t.getD 8 uA):=fun args H=>bR Tryz.func16 rfl rfl rfl args H (cM (by decide) args H)
theorem aco:XC 16:=fun C gl slot tm H o xs ats=>bP (by rw [Tryz.func16]; rfl) C slot _ H o xs ats rfl
def Gx:Code:=aI [true,true,true,false,true,false,false] (Tryz.f17.body.getD .skip)
def FM:Code:=Code.loop Gx
theorem UU:XL plN FM Gx:=fun s=>bf _ _
def c17:Code:=Tryz.f17.body.getD .skip
theorem abW:XE 17 plN c17 77 (fun t=>.tuple [t.getD 10 uA,t.getD 11 uA,t.getD 12 uA]):=fun args H=>d3 Tryz.func17 rfl rfl rfl args H (cM (by decide) args H)
theorem UM:XC 17:=fun C gl slot tm H o xs ats=>bP (by rw [Tryz.func17]; rfl) C slot _ H o xs ats rfl
def yL:Code:=aI [true,true,true,false,true,false,false,true,true,false,false,true,true,false,false] (Tryz.f18.body.getD .skip)
def yf:Code:=Code.loop yL
theorem MK:XL plN yf yL:=fun s=>bf _ _
def Aq:Code:=aI [true,true,true,false,true,false,false] (Tryz.f18.body.getD .skip)
def Cd:Code:=Code.loop Aq
theorem MJ:XL plN Cd Aq:=fun s=>bf _ _
def c18:Code:=Tryz.f18.body.getD .skip
theorem abV:XR 18 plN c18 64 (fun t=>.tuple [t.getD 6 uA,t.getD 7 uA]):=fun args H=>bR Tryz.func18 rfl rfl rfl args H (cM (by decide) args H)
theorem UL:XC 18:=fun C gl slot tm H o xs ats=>bP (by rw [Tryz.func18]; rfl) C slot _ H o xs ats rfl
def Gw:Code:=aI [true,true,true,false,true,false,false] (Tryz.f19.body.getD .skip)
def RV:Code:=Code.loop Gw
theorem MI:XL kn RV Gw:=fun s=>bf _ _
def Gv:Code:=aI [true,true,true,true,true,true,true,false,true,false,false,true,true,false,false,true,true,false,false] (Tryz.f19.body.getD .skip)
def RU:Code:=Code.loop Gv
theorem MH:XL kn RU Gv:=fun s=>bf _ _
def Gu:Code:=aI [true,true,true,true,true,true,true,false,true,false,false] (Tryz.f19.body.getD .skip)
def RS:Code:=Code.loop Gu
theorem MG:XL kn RS Gu:=fun s=>bf _ _
def Dg:Code:=aI [true,true,true,true,true,true,true,true,true,false,true,false,false] (Tryz.f19.body.getD .skip)
def RR:Code:=Code.loop Dg
theorem MF:XL kn RR Dg:=fun s=>bf _ _
def Df:Code:=aI [true,true,true,true,true,true,true,true,true,true,false,false,false,true,false,true,true,false,false] (Tryz.f19.body.getD .skip)
def RQ:Code:=Code.loop Df
theorem ME:XL kn RQ Df:=fun s=>bf _ _
def Gt:Code:=aI [true,true,true,true,true,true,true,true,true,true,false,false,false] (Tryz.f19.body.getD .skip)
def KC:Code:=Code.loop Gt
theorem UT:XL kn KC Gt:=fun s=>bf _ _
def c19:Code:=Tryz.f19.body.getD .skip
theorem abU:XE 19 kn c19 158 (fun t=>.tuple [t.getD 6 uA,t.getD 7 uA]):=fun args H=>d3 Tryz.func19 rfl rfl rfl args H (cM (by decide) args H)
theorem YD:XC 19:=fun C gl slot tm H o xs ats=>bP (by rw [Tryz.func19]; rfl) C slot _ H o xs ats rfl
def Gs:Code:=aI [true,true,true,false,true,false,false] (Tryz.f23.body.getD .skip)
def RP:Code:=Code.loop Gs
theorem MD:XL iH RP Gs:=fun s=>bf _ _
def Gr:Code:=aI [true,true,true,true,true,false,true,false,false,true,false,false,true,true,true,false,false] (Tryz.f23.body.getD .skip)
def RN:Code:=Code.loop Gr
theorem MC:XL iH RN Gr:=fun s=>bf _ _
def Gq:Code:=aI [true,true,true,true,true,false,true,false,false] (Tryz.f23.body.getD .skip)
def RM:Code:=Code.loop Gq
theorem MB:XL iH RM Gq:=fun s=>bf _ _
def Gp:Code:=aI [true,true,true,true,true,true,false,true,false,false,true,false,false,true,false,false,true,false,false,true,false,false] (Tryz.f23.body.getD .skip)
def RL:Code:=Code.loop Gp
theorem MA:XL iH RL Gp:=fun s=>bf _ _
def Gn:Code:=aI [true,true,true,true,true,true,false,true,false,false,true,false,false,true,false,false] (Tryz.f23.body.getD .skip)
def RK:Code:=Code.loop Gn
theorem Mz:XL iH RK Gn:=fun s=>bf _ _
def Gm:Code:=aI [true,true,true,true,true,true,false,true,false,false] (Tryz.f23.body.getD .skip)
def RJ:Code:=Code.loop Gm
theorem My:XL iH RJ Gm:=fun s=>bf _ _
def c23:Code:=Tryz.f23.body.getD .skip
theorem abT:XE 23 iH c23 203 (fun t=>t.getD 2 uA):=fun args H=>d3 Tryz.func23 rfl rfl rfl args H (cM (by decide) args H)
theorem acn:XC 23:=fun C gl slot tm H o xs ats=>bP (by rw [Tryz.func23]; rfl) C slot _ H o xs ats rfl
def vL:Code:=aI [true,true,true,false,true,false,false] (Tryz.f24.body.getD .skip)
def FL:Code:=Code.loop vL
theorem Mx:XL plN FL vL:=fun s=>bf _ _
def c24:Code:=Tryz.f24.body.getD .skip
theorem abS:XR 24 plN c24 46 (fun t=>t.getD 6 uA):=fun args H=>bR Tryz.func24 rfl rfl rfl args H (cM (by decide) args H)
theorem Cz:XC 24:=fun C gl slot tm H o xs ats=>bP (by rw [Tryz.func24]; rfl) C slot _ H o xs ats rfl
theorem vy:C0.reads 24=true:=rfl
def Gl:Code:=aI [true,true,false,true,false,false,true,false,false,true,true,false,false] (Tryz.f25.body.getD .skip)
def RH:Code:=Code.loop Gl
theorem Mw:XL uw RH Gl:=fun s=>bf _ _
def Gk:Code:=aI [true,true,false,true,false,false] (Tryz.f25.body.getD .skip)
def RG:Code:=Code.loop Gk
theorem Mv:XL uw RG Gk:=fun s=>bf _ _
def c25:Code:=Tryz.f25.body.getD .skip
theorem abR:XR 25 uw c25 53 (fun t=>t.getD 4 uA):=fun args H=>bR Tryz.func25 rfl rfl rfl args H (cM (by decide) args H)
theorem acm:XC 25:=fun C gl slot tm H o xs ats=>bP (by rw [Tryz.func25]; rfl) C slot _ H o xs ats rfl
def Gj:Code:=aI [true,true,true,false,true,false,false] (Tryz.f26.body.getD .skip)
def RF:Code:=Code.loop Gj
theorem Mu:XL plN RF Gj:=fun s=>bf _ _
def De:Code:=aI [true,true,true,true,true,true,false,true,false,false,true,true,false,false,true,true,false,false] (Tryz.f26.body.getD .skip)
def RE:Code:=Code.loop De
theorem Mt:XL plN RE De:=fun s=>bf _ _
def Dd:Code:=aI [true,true,true,true,true,true,false,true,false,false] (Tryz.f26.body.getD .skip)
def RD:Code:=Code.loop Dd
theorem Ms:XL plN RD Dd:=fun s=>bf _ _
def c26:Code:=Tryz.f26.body.getD .skip
theorem abQ:XR 26 plN c26 81 (fun t=>t.getD 8 uA):=fun args H=>bR Tryz.func26 rfl rfl rfl args H (cM (by decide) args H)
theorem UK:XC 26:=fun C gl slot tm H o xs ats=>bP (by rw [Tryz.func26]; rfl) C slot _ H o xs ats rfl
def c27:Code:=Tryz.f27.body.getD .skip
theorem XW:XE 27 plN c27 8 (fun t=>t.getD 2 uA):=fun args H=>d3 Tryz.func27 rfl rfl rfl args H (cM (by decide) args H)
theorem ack:XC 27:=fun C gl slot tm H o xs ats=>bP (by rw [Tryz.func27]; rfl) C slot _ H o xs ats rfl
def Gi:Code:=aI [true,true,false,true,false,false] (Tryz.f28.body.getD .skip)
def KB:Code:=Code.loop Gi
theorem Mr:XL plN KB Gi:=fun s=>bf _ _
def c28:Code:=Tryz.f28.body.getD .skip
theorem abP:XE 28 plN c28 23 (fun t=>t.getD 2 uA):=fun args H=>d3 Tryz.func28 rfl rfl rfl args H (cM (by decide) args H)
theorem YB:XC 28:=fun C gl slot tm H o xs ats=>bP (by rw [Tryz.func28]; rfl) C slot _ H o xs ats rfl
def c29:Code:=Tryz.f29.body.getD .skip
theorem XV:XE 29 plN c29 8 (fun t=>t.getD 2 uA):=fun args H=>d3 Tryz.func29 rfl rfl rfl args H (cM (by decide) args H)
theorem acj:XC 29:=fun C gl slot tm H o xs ats=>bP (by rw [Tryz.func29]; rfl) C slot _ H o xs ats rfl
def c30:Code:=Tryz.f30.body.getD .skip
theorem XU:XE 30 plN c30 8 (fun t=>t.getD 2 uA):=fun args H=>d3 Tryz.func30 rfl rfl rfl args H (cM (by decide) args H)
theorem aci:XC 30:=fun C gl slot tm H o xs ats=>bP (by rw [Tryz.func30]; rfl) C slot _ H o xs ats rfl
def c31:Code:=Tryz.f31.body.getD .skip
theorem XT:XE 31 plN c31 8 (fun t=>t.getD 2 uA):=fun args H=>d3 Tryz.func31 rfl rfl rfl args H (cM (by decide) args H)
theorem ach:XC 31:=fun C gl slot tm H o xs ats=>bP (by rw [Tryz.func31]; rfl) C slot _ H o xs ats rfl
def c32:Code:=Tryz.f32.body.getD .skip
theorem XS:XE 32 plN c32 8 (fun t=>t.getD 2 uA):=fun args H=>d3 Tryz.func32 rfl rfl rfl args H (cM (by decide) args H)
theorem UJ:XC 32:=fun C gl slot tm H o xs ats=>bP (by rw [Tryz.func32]; rfl) C slot _ H o xs ats rfl
def Gh:Code:=aI [true,true,true,false,true,false,false] (Tryz.f33.body.getD .skip)
def RC:Code:=Code.loop Gh
theorem Mq:XL zh RC Gh:=fun s=>bf _ _
def c33:Code:=Tryz.f33.body.getD .skip
theorem abO:XE 33 zh c33 64 (fun t=>t.getD 2 uA):=fun args H=>d3 Tryz.func33 rfl rfl rfl args H (cM (by decide) args H)
theorem P8:XC 33:=fun C gl slot tm H o xs ats=>bP (by rw [Tryz.func33]; rfl) C slot _ H o xs ats rfl
def Gg:Code:=aI [true,true,true,true,true,true,false,true,false,true,true,true,true,true,false,true,false,false] (Tryz.f34.body.getD .skip)
def FK:Code:=Code.loop Gg
theorem Mo:XL mQ FK Gg:=fun s=>bf _ _
def c34:Code:=Tryz.f34.body.getD .skip
def r34 (s:St):Option (AV × AH):=mr aa Tryz.f34 s
theorem abN (args:List AV) (H:AH):Ev aa C0 W0 34 args H=(EvC aa C0 W0 mQ c34 (args++ay (163 - args.length) uA,H)).bind fun r=>match r with | (.normal,s)=>r34 s | (.ret,s)=>r34 s | _=>none:=d3 Tryz.func34 rfl rfl rfl args H (cM (by decide) args H)
theorem acg:XC 34:=fun C gl slot tm H o xs ats=>bP (by rw [Tryz.func34]; rfl) C slot _ H o xs ats rfl
def Gf:Code:=aI [true,true,false,true,false,false] (Tryz.f36.body.getD .skip)
def RB:Code:=Code.loop Gf
theorem Mn:XL plN RB Gf:=fun s=>bf _ _
def c36:Code:=Tryz.f36.body.getD .skip
theorem abM:XR 36 plN c36 18 (fun t=>t.getD 2 uA):=fun args H=>bR Tryz.func36 rfl rfl rfl args H (cM (by decide) args H)
theorem UI:XC 36:=fun C gl slot tm H o xs ats=>bP (by rw [Tryz.func36]; rfl) C slot _ H o xs ats rfl
def Dc:Code:=aI [true,true,true,false,true,false,false] (Tryz.f37.body.getD .skip)
def RA:Code:=Code.loop Dc
theorem Mm:XL BZ RA Dc:=fun s=>bf _ _
def c37:Code:=Tryz.f37.body.getD .skip
theorem abL:XR 37 BZ c37 60 (fun t=>t.getD 2 uA):=fun args H=>bR Tryz.func37 rfl rfl rfl args H (cM (by decide) args H)
theorem YA:XC 37:=fun C gl slot tm H o xs ats=>bP (by rw [Tryz.func37]; rfl) C slot _ H o xs ats rfl
def c38:Code:=Tryz.f38.body.getD .skip
theorem abK:XR 38 plN c38 48 (fun t=>t.getD 2 uA):=fun args H=>bR Tryz.func38 rfl rfl rfl args H (cM (by decide) args H)
theorem Yz:XC 38:=fun C gl slot tm H o xs ats=>bP (by rw [Tryz.func38]; rfl) C slot _ H o xs ats rfl
def c39:Code:=Tryz.f39.body.getD .skip
theorem HN:XR 39 zg c39 162 (fun t=>t.getD 6 uA):=fun args H=>bR Tryz.func39 rfl rfl rfl args H (cM (by decide) args H)
theorem Yy:XC 39:=fun C gl slot tm H o xs ats=>bP (by rw [Tryz.func39]; rfl) C slot _ H o xs ats rfl
def c40:Code:=Tryz.f40.body.getD .skip
theorem abJ:XE 40 plN c40 10 (fun t=>t.getD 2 uA):=fun args H=>d3 Tryz.func40 rfl rfl rfl args H (cM (by decide) args H)
theorem acf:XC 40:=fun C gl slot tm H o xs ats=>bP (by rw [Tryz.func40]; rfl) C slot _ H o xs ats rfl
def c41:Code:=Tryz.f41.body.getD .skip
def r41 (s:St):Option (AV × AH):=mr aa Tryz.f41 s
theorem aa2 (tm:List AV) (H:AH):r41 (tm,H)=match tm.getD 0 uA with | .ptr i k=>(ldA aa 27 H i k).map fun v=>(v,H) | _=>none:=oA (by rfl) tm H
theorem abI (args:List AV) (H:AH):Ev aa C0 W0 41 args H=(EvC aa C0 W0 plN c41 (args++ay (2 - args.length) uA,H)).bind fun r=>match r with | (.normal,s)=>r41 s | (.ret,s)=>r41 s | _=>none:=d3 Tryz.func41 rfl rfl rfl args H (cM (by decide) args H)
theorem P7:XC 41:=fun C gl slot tm H o xs ats=>bP (by rw [Tryz.func41]; rfl) C slot _ H o xs ats rfl
def qe:Code:=aI [true,true,true,false,true,false,false,true,true,false,false,true,true,false,false] (Tryz.f42.body.getD .skip)
def Cc:Code:=Code.loop qe
theorem Ml:XL iR Cc qe:=fun s=>bf _ _
def Db:Code:=aI [true,true,true,false,true,false,false] (Tryz.f42.body.getD .skip)
def FJ:Code:=Code.loop Db
theorem Mk:XL iR FJ Db:=fun s=>bf _ _
def yK:Code:=aI [true,true,true,true,false,true,false,false] (Tryz.f42.body.getD .skip)
def Cb:Code:=Code.loop yK
theorem Mj:XL iR Cb yK:=fun s=>bf _ _
def c42:Code:=Tryz.f42.body.getD .skip
def r42 (s:St):Option (AV × AH):=mr aa Tryz.f42 s
theorem aa1 (tm:List AV) (H:AH):r42 (tm,H)=match tm.getD 2 uA with | .ptr i k=>(ldA aa 93 H i k).map fun v=>(v,H) | _=>none:=oA (by rfl) tm H
theorem abH (args:List AV) (H:AH):Ev aa C0 W0 42 args H=(EvC aa C0 W0 iR c42 (args++ay (111 - args.length) uA,H)).bind fun r=>match r with | (.normal,s)=>r42 s | (.ret,s)=>r42 s | _=>none:=d3 Tryz.func42 rfl rfl rfl args H (cM (by decide) args H)
theorem Yx:XC 42:=fun C gl slot tm H o xs ats=>bP (by rw [Tryz.func42]; rfl) C slot _ H o xs ats rfl
def c43:Code:=Tryz.f43.body.getD .skip
theorem abG:XR 43 plN c43 34 (fun t=>t.getD 6 uA):=fun args H=>bR Tryz.func43 rfl rfl rfl args H (cM (by decide) args H)
theorem P6:XC 43:=fun C gl slot tm H o xs ats=>bP (by rw [Tryz.func43]; rfl) C slot _ H o xs ats rfl
def Da:Code:=aI [true,true,false,true,false,false,true,false,true,true,true,false,false] (Tryz.f44.body.getD .skip)
def Rz:Code:=Code.loop Da
theorem Mi:XL plN Rz Da:=fun s=>bf _ _
def Ge:Code:=aI [true,true,false,true,false,false] (Tryz.f44.body.getD .skip)
def KA:Code:=Code.loop Ge
theorem US:XL plN KA Ge:=fun s=>bf _ _
def c44:Code:=Tryz.f44.body.getD .skip
theorem abF:XE 44 plN c44 43 (fun t=>t.getD 4 uA):=fun args H=>d3 Tryz.func44 rfl rfl rfl args H (cM (by decide) args H)
theorem P5:XC 44:=fun C gl slot tm H o xs ats=>bP (by rw [Tryz.func44]; rfl) C slot _ H o xs ats rfl
def C9:Code:=aI [true,true,true,false,true,false,false] (Tryz.f45.body.getD .skip)
def Ry:Code:=Code.loop C9
theorem Mh:XL plN Ry C9:=fun s=>bf _ _
def c45:Code:=Tryz.f45.body.getD .skip
theorem abE:XE 45 plN c45 42 (fun t=>t.getD 4 uA):=fun args H=>d3 Tryz.func45 rfl rfl rfl args H (cM (by decide) args H)
theorem ace:XC 45:=fun C gl slot tm H o xs ats=>bP (by rw [Tryz.func45]; rfl) C slot _ H o xs ats rfl
def c46:Code:=Tryz.f46.body.getD .skip
theorem XM:XE 46 plN c46 8 (fun t=>t.getD 2 uA):=fun args H=>d3 Tryz.func46 rfl rfl rfl args H (cM (by decide) args H)
theorem acd:XC 46:=fun C gl slot tm H o xs ats=>bP (by rw [Tryz.func46]; rfl) C slot _ H o xs ats rfl
def c47:Code:=Tryz.f47.body.getD .skip
theorem abD:XE 47 plN c47 6 (fun t=>t.getD 2 uA):=fun args H=>d3 Tryz.func47 rfl rfl rfl args H (cM (by decide) args H)
def c48:Code:=Tryz.f48.body.getD .skip
theorem abC:XE 48 plN c48 12 (fun t=>.tuple []):=fun args H=>d3 Tryz.func48 rfl rfl rfl args H (cM (by decide) args H)
theorem Yw:XC 48:=fun C gl slot tm H o xs ats=>bP (by rw [Tryz.func48]; rfl) C slot _ H o xs ats rfl
def c49:Code:=Tryz.f49.body.getD .skip
theorem abB:XR 49 plN c49 5 (fun t=>t.getD 2 uA):=fun args H=>bR Tryz.func49 rfl rfl rfl args H (cM (by decide) args H)
theorem Yv:XC 49:=fun C gl slot tm H o xs ats=>bP (by rw [Tryz.func49]; rfl) C slot _ H o xs ats rfl
def c50:Code:=Tryz.f50.body.getD .skip
theorem abA:XE 50 plN c50 15 (fun t=>t.getD 2 uA):=fun args H=>d3 Tryz.func50 rfl rfl rfl args H (cM (by decide) args H)
theorem acb:XC 50:=fun C gl slot tm H o xs ats=>bP (by rw [Tryz.func50]; rfl) C slot _ H o xs ats rfl
def Gd:Code:=aI [true,true,false,true,false,false,true,false,false,true,false,false] (Tryz.f51.body.getD .skip)
def Rx:Code:=Code.loop Gd
theorem Mg:XL plN Rx Gd:=fun s=>bf _ _
def C8:Code:=aI [true,true,false,true,false,false] (Tryz.f51.body.getD .skip)
def Rw:Code:=Code.loop C8
theorem Mf:XL plN Rw C8:=fun s=>bf _ _
def c51:Code:=Tryz.f51.body.getD .skip
theorem abz:XE 51 plN c51 28 (fun t=>t.getD 2 uA):=fun args H=>d3 Tryz.func51 rfl rfl rfl args H (cM (by decide) args H)
theorem aca:XC 51:=fun C gl slot tm H o xs ats=>bP (by rw [Tryz.func51]; rfl) C slot _ H o xs ats rfl
def C7:Code:=aI [true,false,true,false,true,false,true,true,false,false] (Tryz.f55.body.getD .skip)
def Rv:Code:=Code.loop C7
theorem Me:XL nD Rv C7:=fun s=>bf _ _
def c55:Code:=Tryz.f55.body.getD .skip
def r55 (s:St):Option (AV × AH):=mr aa Tryz.f55 s
theorem P4 (args:List AV) (H:AH):Ev aa C0 W0 55 args H=(EvC aa C0 W0 nD c55 (args++ay (63 - args.length) uA,H)).bind fun r=>match r with | (.normal,s)=>r55 s | (.ret,s)=>r55 s | _=>none:=d3 Tryz.func55 rfl rfl rfl args H (cM (by decide) args H)
theorem ab9:XC 55:=fun C gl slot tm H o xs ats=>bP (by rw [Tryz.func55]; rfl) C slot _ H o xs ats rfl
def c56:Code:=Tryz.f56.body.getD .skip
theorem aby:XR 56 plN c56 38 (fun t=>t.getD 2 uA):=fun args H=>bR Tryz.func56 rfl rfl rfl args H (cM (by decide) args H)
theorem UH:XC 56:=fun C gl slot tm H o xs ats=>bP (by rw [Tryz.func56]; rfl) C slot _ H o xs ats rfl
def c57:Code:=Tryz.f57.body.getD .skip
theorem abx:XR 57 plN c57 9 (fun t=>t.getD 4 uA):=fun args H=>bR Tryz.func57 rfl rfl rfl args H (cM (by decide) args H)
theorem Yu:XC 57:=fun C gl slot tm H o xs ats=>bP (by rw [Tryz.func57]; rfl) C slot _ H o xs ats rfl
def c58:Code:=Tryz.f58.body.getD .skip
theorem abw:XR 58 plN c58 6 (fun t=>t.getD 2 uA):=fun args H=>bR Tryz.func58 rfl rfl rfl args H (cM (by decide) args H)
def C6:Code:=aI [true,true,true,true,true,false,true,false,false] (Tryz.f59.body.getD .skip)
def Ru:Code:=Code.loop C6
theorem Md:XL plN Ru C6:=fun s=>bf _ _
def c59:Code:=Tryz.f59.body.getD .skip
theorem abv:XR 59 plN c59 49 (fun t=>t.getD 2 uA):=fun args H=>bR Tryz.func59 rfl rfl rfl args H (cM (by decide) args H)
theorem ab8:XC 59:=fun C gl slot tm H o xs ats=>bP (by rw [Tryz.func59]; rfl) C slot _ H o xs ats rfl
def c60:Code:=Tryz.f60.body.getD .skip
theorem abu:XR 60 plN c60 9 (fun t=>t.getD 4 uA):=fun args H=>bR Tryz.func60 rfl rfl rfl args H (cM (by decide) args H)
theorem EB:XC 60:=fun C gl slot tm H o xs ats=>bP (by rw [Tryz.func60]; rfl) C slot _ H o xs ats rfl
def c61:Code:=Tryz.f61.body.getD .skip
theorem abt:XR 61 plN c61 6 (fun t=>t.getD 2 uA):=fun args H=>bR Tryz.func61 rfl rfl rfl args H (cM (by decide) args H)
def c62:Code:=Tryz.f62.body.getD .skip
theorem HM:XR 62 pe c62 181 (fun t=>t.getD 6 uA):=fun args H=>bR Tryz.func62 rfl rfl rfl args H (cM (by decide) args H)
theorem Yt:XC 62:=fun C gl slot tm H o xs ats=>bP (by rw [Tryz.func62]; rfl) C slot _ H o xs ats rfl
def c63:Code:=Tryz.f63.body.getD .skip
theorem abr:XR 63 plN c63 9 (fun t=>t.getD 4 uA):=fun args H=>bR Tryz.func63 rfl rfl rfl args H (cM (by decide) args H)
theorem Ys:XC 63:=fun C gl slot tm H o xs ats=>bP (by rw [Tryz.func63]; rfl) C slot _ H o xs ats rfl
def c65:Code:=Tryz.f65.body.getD .skip
def r65 (s:St):Option (AV × AH):=mr aa Tryz.f65 s
theorem aaZ (tm:List AV) (H:AH):r65 (tm,H)=match tm.getD 4 uA with | .ptr i k=>(ldA aa 126 H i k).map fun v=>(v,H) | _=>none:=oA (by rfl) tm H
theorem abq (args:List AV) (H:AH):Ev aa C0 W0 65 args H=(EvC aa C0 W0 plN c65 (args++ay (14 - args.length) uA,ro H)).bind fun r=>match r with | (.normal,s)=>(r65 s).bind (kF true H) | (.ret,s)=>(r65 s).bind (kF true H) | _=>none:=bR Tryz.func65 rfl rfl rfl args H (cM (by decide) args H)
theorem hU:XC 65:=fun C gl slot tm H o xs ats=>bP (by rw [Tryz.func65]; rfl) C slot _ H o xs ats rfl
theorem Fo:C0.reads 65=true:=rfl
def Gc:Code:=aI [true,true,true,false,true,false,false] (Tryz.f66.body.getD .skip)
def Rt:Code:=Code.loop Gc
theorem Mc:XL s8 Rt Gc:=fun s=>bf _ _
def Ap:Code:=aI [true,true,true,true,false,true,false,false] (Tryz.f66.body.getD .skip)
def Rs:Code:=Code.loop Ap
theorem Ma:XL s8 Rs Ap:=fun s=>bf _ _
def C5:Code:=aI [true,true,true,true,true,false,true,false,false,true,false,false,true,true,false,false] (Tryz.f66.body.getD .skip)
def Rr:Code:=Code.loop C5
theorem L9:XL s8 Rr C5:=fun s=>bf _ _
def Ao:Code:=aI [true,true,true,true,true,false,true,false,false] (Tryz.f66.body.getD .skip)
def Rq:Code:=Code.loop Ao
theorem L8:XL s8 Rq Ao:=fun s=>bf _ _
def c66:Code:=Tryz.f66.body.getD .skip
theorem abp:XR 66 s8 c66 98 (fun t=>t.getD 2 uA):=fun args H=>bR Tryz.func66 rfl rfl rfl args H (cM (by decide) args H)
theorem HT:XC 66:=fun C gl slot tm H o xs ats=>bP (by rw [Tryz.func66]; rfl) C slot _ H o xs ats rfl
def c67:Code:=Tryz.f67.body.getD .skip
theorem abo:XR 67 plN c67 95 (fun t=>t.getD 4 uA):=fun args H=>bR Tryz.func67 rfl rfl rfl args H (cM (by decide) args H)
theorem Yr:XC 67:=fun C gl slot tm H o xs ats=>bP (by rw [Tryz.func67]; rfl) C slot _ H o xs ats rfl
theorem QY:C0.reads 67=true:=rfl
def c68:Code:=Tryz.f68.body.getD .skip
theorem abn:XR 68 plN c68 19 (fun t=>t.getD 4 uA):=fun args H=>bR Tryz.func68 rfl rfl rfl args H (cM (by decide) args H)
theorem ab7:XC 68:=fun C gl slot tm H o xs ats=>bP (by rw [Tryz.func68]; rfl) C slot _ H o xs ats rfl
def C4:Code:=aI [true,false,true,false,false] (Tryz.f69.body.getD .skip)
def Rp:Code:=Code.loop C4
theorem L7:XL plN Rp C4:=fun s=>bf _ _
def c69:Code:=Tryz.f69.body.getD .skip
theorem abm:XR 69 plN c69 30 (fun t=>t.getD 6 uA):=fun args H=>bR Tryz.func69 rfl rfl rfl args H (cM (by decide) args H)
theorem Yq:XC 69:=fun C gl slot tm H o xs ats=>bP (by rw [Tryz.func69]; rfl) C slot _ H o xs ats rfl
theorem QX:C0.reads 69=true:=rfl
def c70:Code:=Tryz.f70.body.getD .skip
def r70 (s:St):Option (AV × AH):=mr aa Tryz.f70 s
theorem aaY (tm:List AV) (H:AH):r70 (tm,H)=match tm.getD 4 uA with | .ptr i k=>(ldA aa 126 H i k).map fun v=>(v,H) | _=>none:=oA (by rfl) tm H
theorem abl (args:List AV) (H:AH):Ev aa C0 W0 70 args H=(EvC aa C0 W0 plN c70 (args++ay (14 - args.length) uA,ro H)).bind fun r=>match r with | (.normal,s)=>(r70 s).bind (kF true H) | (.ret,s)=>(r70 s).bind (kF true H) | _=>none:=bR Tryz.func70 rfl rfl rfl args H (cM (by decide) args H)
theorem Yp:XC 70:=fun C gl slot tm H o xs ats=>bP (by rw [Tryz.func70]; rfl) C slot _ H o xs ats rfl
theorem QW:C0.reads 70=true:=rfl
def c71:Code:=Tryz.f71.body.getD .skip
theorem abk:XR 71 plN c71 22 (fun t=>t.getD 2 uA):=fun args H=>bR Tryz.func71 rfl rfl rfl args H (cM (by decide) args H)
theorem je:XC 71:=fun C gl slot tm H o xs ats=>bP (by rw [Tryz.func71]; rfl) C slot _ H o xs ats rfl
theorem fP:C0.reads 71=true:=rfl
def c72:Code:=Tryz.f72.body.getD .skip
theorem abj:XE 72 plN c72 8 (fun t=>t.getD 4 uA):=fun args H=>d3 Tryz.func72 rfl rfl rfl args H (cM (by decide) args H)
def c73:Code:=Tryz.f73.body.getD .skip
theorem abi:XR 73 plN c73 9 (fun t=>t.getD 4 uA):=fun args H=>bR Tryz.func73 rfl rfl rfl args H (cM (by decide) args H)
theorem ab6:XC 73:=fun C gl slot tm H o xs ats=>bP (by rw [Tryz.func73]; rfl) C slot _ H o xs ats rfl
def c74:Code:=Tryz.f74.body.getD .skip
theorem abh:XR 74 plN c74 7 (fun t=>t.getD 3 uA):=fun args H=>bR Tryz.func74 rfl rfl rfl args H (cM (by decide) args H)
def C3:Code:=aI [true,false,true,false,true,false,false,true,false,false] (Tryz.f75.body.getD .skip)
def Ro:Code:=Code.loop C3
theorem L6:XL AP Ro C3:=fun s=>bf _ _
def c75:Code:=Tryz.f75.body.getD .skip
theorem P0:XE 75 AP c75 56 (fun t=>.tuple [t.getD 4 uA,t.getD 5 uA]):=fun args H=>d3 Tryz.func75 rfl rfl rfl args H (cM (by decide) args H)
theorem Yo:XC 75:=fun C gl slot tm H o xs ats=>bP (by rw [Tryz.func75]; rfl) C slot _ H o xs ats rfl
def C2:Code:=aI [true,false,true,false,false] (Tryz.f76.body.getD .skip)
def rM:Code:=Code.loop C2
theorem EG:XL plN rM C2:=fun s=>bf _ _
def c76:Code:=Tryz.f76.body.getD .skip
theorem abg:XE 76 plN c76 19 (fun t=>t.getD 4 uA):=fun args H=>d3 Tryz.func76 rfl rfl rfl args H (cM (by decide) args H)
theorem Yn:XC 76:=fun C gl slot tm H o xs ats=>bP (by rw [Tryz.func76]; rfl) C slot _ H o xs ats rfl
def An:Code:=aI [false,false] (Tryz.f77.body.getD .skip)
def FI:Code:=Code.loop An
theorem L5:XL plN FI An:=fun s=>bf _ _
def c77:Code:=Tryz.f77.body.getD .skip
theorem abf:XE 77 plN c77 23 (fun t=>.tuple []):=fun args H=>d3 Tryz.func77 rfl rfl rfl args H (cM (by decide) args H)
theorem ab5:XC 77:=fun C gl slot tm H o xs ats=>bP (by rw [Tryz.func77]; rfl) C slot _ H o xs ats rfl
def rU:Code:=aI [true,true,false,false,false] (Tryz.f78.body.getD .skip)
def FH:Code:=Code.loop rU
theorem EF:XL plN FH rU:=fun s=>bf _ _
def c78:Code:=Tryz.f78.body.getD .skip
theorem abe:XE 78 plN c78 48 (fun t=>t.getD 6 uA):=fun args H=>d3 Tryz.func78 rfl rfl rfl args H (cM (by decide) args H)
theorem ab4:XC 78:=fun C gl slot tm H o xs ats=>bP (by rw [Tryz.func78]; rfl) C slot _ H o xs ats rfl
def c84:Code:=Tryz.f84.body.getD .skip
theorem abd:XR 84 plN c84 15 (fun t=>t.getD 6 uA):=fun args H=>bR Tryz.func84 rfl rfl rfl args H (cM (by decide) args H)
def C1:Code:=aI [true,false,true,false,false] (Tryz.f85.body.getD .skip)
def Rn:Code:=Code.loop C1
theorem L0:XL plN Rn C1:=fun s=>bf _ _
def c85:Code:=Tryz.f85.body.getD .skip
theorem abc:XR 85 plN c85 19 (fun t=>t.getD 4 uA):=fun args H=>bR Tryz.func85 rfl rfl rfl args H (cM (by decide) args H)
theorem ab3:XC 85:=fun C gl slot tm H o xs ats=>bP (by rw [Tryz.func85]; rfl) C slot _ H o xs ats rfl
def Am:Code:=aI [true,true,true,false,true,false,false] (Tryz.f86.body.getD .skip)
def Rm:Code:=Code.loop Am
theorem LZ:XL plN Rm Am:=fun s=>bf _ _
def vK:Code:=aI [true,true,true,true,false,true,false,false] (Tryz.f86.body.getD .skip)
def Rl:Code:=Code.loop vK
theorem LY:XL plN Rl vK:=fun s=>bf _ _
def c86:Code:=Tryz.f86.body.getD .skip
theorem abb:XR 86 plN c86 87 (fun t=>t.getD 2 uA):=fun args H=>bR Tryz.func86 rfl rfl rfl args H (cM (by decide) args H)
theorem HS:XC 86:=fun C gl slot tm H o xs ats=>bP (by rw [Tryz.func86]; rfl) C slot _ H o xs ats rfl
theorem HR:XC 87:=fun C gl slot tm H o xs ats=>bP (by rw [Tryz.func87]; rfl) C slot _ H o xs ats rfl
def c88:Code:=Tryz.f88.body.getD .skip
theorem aba:XR 88 plN c88 93 (fun t=>t.getD 6 uA):=fun args H=>bR Tryz.func88 rfl rfl rfl args H (cM (by decide) args H)
theorem Ym:XC 88:=fun C gl slot tm H o xs ats=>bP (by rw [Tryz.func88]; rfl) C slot _ H o xs ats rfl
def CZ:Code:=aI [true,false,true,false,false] (Tryz.f89.body.getD .skip)
def Rk:Code:=Code.loop CZ
theorem LX:XL plN Rk CZ:=fun s=>bf _ _
def c89:Code:=Tryz.f89.body.getD .skip
theorem aa9:XR 89 plN c89 19 (fun t=>t.getD 4 uA):=fun args H=>bR Tryz.func89 rfl rfl rfl args H (cM (by decide) args H)
theorem ab2:XC 89:=fun C gl slot tm H o xs ats=>bP (by rw [Tryz.func89]; rfl) C slot _ H o xs ats rfl
def c90:Code:=Tryz.f90.body.getD .skip
theorem aa8:XR 90 plN c90 12 (fun t=>t.getD 3 uA):=fun args H=>bR Tryz.func90 rfl rfl rfl args H (cM (by decide) args H)
theorem BR:C0.reads 90=true:=rfl
def CY:Code:=aI [true,true,false,true,false,false] (Tryz.f91.body.getD .skip)
def Rj:Code:=Code.loop CY
theorem LW:XL plN Rj CY:=fun s=>bf _ _
def Al:Code:=aI [true,true,true,false,true,false,false] (Tryz.f91.body.getD .skip)
def Ri:Code:=Code.loop Al
theorem LV:XL plN Ri Al:=fun s=>bf _ _
def c91:Code:=Tryz.f91.body.getD .skip
theorem aa7:XR 91 plN c91 52 (fun t=>t.getD 6 uA):=fun args H=>bR Tryz.func91 rfl rfl rfl args H (cM (by decide) args H)
theorem g9:XC 91:=fun C gl slot tm H o xs ats=>bP (by rw [Tryz.func91]; rfl) C slot _ H o xs ats rfl
theorem Fm:C0.reads 91=true:=rfl
def CX:Code:=aI [true,false,true,false,false] (Tryz.f92.body.getD .skip)
def Rh:Code:=Code.loop CX
theorem LU:XL plN Rh CX:=fun s=>bf _ _
def c92:Code:=Tryz.f92.body.getD .skip
theorem aa6:XR 92 plN c92 19 (fun t=>t.getD 4 uA):=fun args H=>bR Tryz.func92 rfl rfl rfl args H (cM (by decide) args H)
theorem ab1:XC 92:=fun C gl slot tm H o xs ats=>bP (by rw [Tryz.func92]; rfl) C slot _ H o xs ats rfl
def c96:Code:=Tryz.f96.body.getD .skip
theorem aa5:XR 96 plN c96 16 (fun t=>t.getD 2 uA):=fun args H=>bR Tryz.func96 rfl rfl rfl args H (cM (by decide) args H)
theorem Ez:XC 96:=fun C gl slot tm H o xs ats=>bP (by rw [Tryz.func96]; rfl) C slot _ H o xs ats rfl
def c97:Code:=Tryz.f97.body.getD .skip
theorem rr:XR 97 plN c97 24 (fun t=>.tuple [t.getD 2 uA,t.getD 3 uA,t.getD 4 uA]):=fun args H=>bR Tryz.func97 rfl rfl rfl args H (cM (by decide) args H)
theorem HQ:XC 97:=fun C gl slot tm H o xs ats=>bP (by rw [Tryz.func97]; rfl) C slot _ H o xs ats rfl
def c98:Code:=Tryz.f98.body.getD .skip
theorem aa4:XR 98 plN c98 15 (fun t=>t.getD 4 uA):=fun args H=>bR Tryz.func98 rfl rfl rfl args H (cM (by decide) args H)
theorem HP:XC 98:=fun C gl slot tm H o xs ats=>bP (by rw [Tryz.func98]; rfl) C slot _ H o xs ats rfl
def c99:Code:=Tryz.f99.body.getD .skip
theorem rq:XR 99 plN c99 44 (fun t=>t.getD 2 uA):=fun args H=>bR Tryz.func99 rfl rfl rfl args H (cM (by decide) args H)
theorem HO:XC 99:=fun C gl slot tm H o xs ats=>bP (by rw [Tryz.func99]; rfl) C slot _ H o xs ats rfl
def oW:Code:=Tryz.f100.body.getD .skip
theorem lM:XR 100 plN oW 69 (fun t=>t.getD 4 uA):=fun args H=>bR Tryz.func100 rfl rfl rfl args H (cM (by decide) args H)
theorem Ab:XC 100:=fun C gl slot tm H o xs ats=>bP (by rw [Tryz.func100]; rfl) C slot _ H o xs ats rfl
def su:Code:=aI [true,true,false,true,false,false] (Tryz.f101.body.getD .skip)
def KJ:Code:=Code.loop su
theorem F3:XL plN KJ su:=fun s=>bf _ _
def CN:Code:=Tryz.f101.body.getD .skip
theorem Yl:XR 101 plN CN 73 (fun t=>t.getD 6 uA):=fun args H=>bR Tryz.func101 rfl rfl rfl args H (cM (by decide) args H)
theorem Si:XC 101:=fun C gl slot tm H o xs ats=>bP (by rw [Tryz.func101]; rfl) C slot _ H o xs ats rfl
def yQ:Code:=aI [true,false,true,false,false] (Tryz.f102.body.getD .skip)
def KH:Code:=Code.loop yQ
theorem F2:XL plN KH yQ:=fun s=>bf _ _
def ZD:Code:=Tryz.f102.body.getD .skip
theorem Yk:XR 102 plN ZD 19 (fun t=>t.getD 4 uA):=fun args H=>bR Tryz.func102 rfl rfl rfl args H (cM (by decide) args H)
theorem YL:XC 102:=fun C gl slot tm H o xs ats=>bP (by rw [Tryz.func102]; rfl) C slot _ H o xs ats rfl
def yP:Code:=aI [true,true,false,true,false,false] (Tryz.f104.body.getD .skip)
def KG:Code:=Code.loop yP
theorem F1:XL plN KG yP:=fun s=>bf _ _
def Ic:Code:=Tryz.f104.body.getD .skip
theorem Yj:XR 104 plN Ic 33 (fun t=>t.getD 2 uA):=fun args H=>bR Tryz.func104 rfl rfl rfl args H (cM (by decide) args H)
theorem nq:XC 104:=fun C gl slot tm H o xs ats=>bP (by rw [Tryz.func104]; rfl) C slot _ H o xs ats rfl
def ZC:Code:=Tryz.f105.body.getD .skip
theorem Yi:XR 105 plN ZC 11 (fun t=>t.getD 2 uA):=fun args H=>bR Tryz.func105 rfl rfl rfl args H (cM (by decide) args H)
theorem nk:XC 105:=fun C gl slot tm H o xs ats=>bP (by rw [Tryz.func105]; rfl) C slot _ H o xs ats rfl
def ZB:Code:=Tryz.f106.body.getD .skip
theorem Yh:XR 106 plN ZB 18 (fun t=>t.getD 6 uA):=fun args H=>bR Tryz.func106 rfl rfl rfl args H (cM (by decide) args H)
theorem nj:XC 106:=fun C gl slot tm H o xs ats=>bP (by rw [Tryz.func106]; rfl) C slot _ H o xs ats rfl
def Bo:Code:=Tryz.f107.body.getD .skip
theorem Yg:XR 107 plN Bo 61 (fun t=>t.getD 6 uA):=fun args H=>bR Tryz.func107 rfl rfl rfl args H (cM (by decide) args H)
theorem nh:XC 107:=fun C gl slot tm H o xs ats=>bP (by rw [Tryz.func107]; rfl) C slot _ H o xs ats rfl
def sr:Code:=aI [true,true,false,true,false,false] (Tryz.f108.body.getD .skip)
def KF:Code:=Code.loop sr
theorem F0:XL plN KF sr:=fun s=>bf _ _
def CM:Code:=Tryz.f108.body.getD .skip
theorem Yf:XR 108 plN CM 68 (fun t=>t.getD 4 uA):=fun args H=>bR Tryz.func108 rfl rfl rfl args H (cM (by decide) args H)
theorem KX:XC 108:=fun C gl slot tm H o xs ats=>bP (by rw [Tryz.func108]; rfl) C slot _ H o xs ats rfl
def yO:Code:=aI [true,true,false,true,false,false] (Tryz.f119.body.getD .skip)
def KE:Code:=Code.loop yO
theorem FZ:XL plN KE yO:=fun s=>bf _ _
def Qv:Code:=Tryz.f119.body.getD .skip
theorem Ye:XR 119 plN Qv 23 (fun t=>t.getD 2 uA):=fun args H=>bR Tryz.func119 rfl rfl rfl args H (cM (by decide) args H)
theorem KW:XC 119:=fun C gl slot tm H o xs ats=>bP (by rw [Tryz.func119]; rfl) C slot _ H o xs ats rfl
def yN:Code:=aI [true,false,true,false,false] (Tryz.f120.body.getD .skip)
def KD:Code:=Code.loop yN
theorem FY:XL plN KD yN:=fun s=>bf _ _
def ZA:Code:=Tryz.f120.body.getD .skip
theorem Yd:XR 120 plN ZA 18 (fun t=>t.getD 4 uA):=fun args H=>bR Tryz.func120 rfl rfl rfl args H (cM (by decide) args H)
theorem YK:XC 120:=fun C gl slot tm H o xs ats=>bP (by rw [Tryz.func120]; rfl) C slot _ H o xs ats rfl
def Zz:Code:=Tryz.f121.body.getD .skip
theorem Yc:XE 121 plN Zz 2 (fun t=>t.getD 0 uA):=fun args H=>d3 Tryz.func121 rfl rfl rfl args H (cM (by decide) args H)
theorem YJ:XC 121:=fun C gl slot tm H o xs ats=>bP (by rw [Tryz.func121]; rfl) C slot _ H o xs ats rfl
def Zy:Code:=Tryz.f122.body.getD .skip
theorem Yb:XR 122 plN Zy 11 (fun t=>t.getD 2 uA):=fun args H=>bR Tryz.func122 rfl rfl rfl args H (cM (by decide) args H)
theorem lN:XC 122:=fun C gl slot tm H o xs ats=>bP (by rw [Tryz.func122]; rfl) C slot _ H o xs ats rfl
def M5:Code:=Tryz.f123.body.getD .skip
theorem Ya:XR 123 plN M5 32 (fun t=>t.getD 4 uA):=fun args H=>bR Tryz.func123 rfl rfl rfl args H (cM (by decide) args H)
theorem kG:XC 123:=fun C gl slot tm H o xs ats=>bP (by rw [Tryz.func123]; rfl) C slot _ H o xs ats rfl
def Zx:Code:=Tryz.f129.body.getD .skip
theorem X9:XR 129 plN Zx 17 (fun t=>t.getD 2 uA):=fun args H=>bR Tryz.func129 rfl rfl rfl args H (cM (by decide) args H)
theorem FV:XC 129:=fun C gl slot tm H o xs ats=>bP (by rw [Tryz.func129]; rfl) C slot _ H o xs ats rfl
theorem Sh:XC 130:=fun C gl slot tm H o xs ats=>bP (by rw [Tryz.func130]; rfl) C slot _ H o xs ats rfl
def Zw:Code:=Tryz.f131.body.getD .skip
theorem X8:XR 131 plN Zw 13 (fun t=>t.getD 2 uA):=fun args H=>bR Tryz.func131 rfl rfl rfl args H (cM (by decide) args H)
theorem Sg:XC 131:=fun C gl slot tm H o xs ats=>bP (by rw [Tryz.func131]; rfl) C slot _ H o xs ats rfl
def Zv:Code:=Tryz.f132.body.getD .skip
theorem X7:XR 132 plN Zv 15 (fun t=>.tuple [t.getD 2 uA,t.getD 3 uA]):=fun args H=>bR Tryz.func132 rfl rfl rfl args H (cM (by decide) args H)
theorem YI:XC 132:=fun C gl slot tm H o xs ats=>bP (by rw [Tryz.func132]; rfl) C slot _ H o xs ats rfl
def M4:Code:=Tryz.f133.body.getD .skip
theorem X5:XR 133 plN M4 32 (fun t=>t.getD 4 uA):=fun args H=>bR Tryz.func133 rfl rfl rfl args H (cM (by decide) args H)
theorem YH:XC 133:=fun C gl slot tm H o xs ats=>bP (by rw [Tryz.func133]; rfl) C slot _ H o xs ats rfl
def Zu:Code:=Tryz.f149.body.getD .skip
theorem X1:XR 149 plN Zu 17 (fun t=>t.getD 2 uA):=fun args H=>bR Tryz.func149 rfl rfl rfl args H (cM (by decide) args H)
theorem KV:XC 149:=fun C gl slot tm H o xs ats=>bP (by rw [Tryz.func149]; rfl) C slot _ H o xs ats rfl
def Zt:Code:=Tryz.f150.body.getD .skip
theorem X0:XR 150 plN Zt 13 (fun t=>t.getD 2 uA):=fun args H=>bR Tryz.func150 rfl rfl rfl args H (cM (by decide) args H)
theorem Sf:XC 150:=fun C gl slot tm H o xs ats=>bP (by rw [Tryz.func150]; rfl) C slot _ H o xs ats rfl
def Zs:Code:=Tryz.f151.body.getD .skip
theorem XZ:XR 151 plN Zs 15 (fun t=>.tuple [t.getD 2 uA,t.getD 3 uA]):=fun args H=>bR Tryz.func151 rfl rfl rfl args H (cM (by decide) args H)
theorem YG:XC 151:=fun C gl slot tm H o xs ats=>bP (by rw [Tryz.func151]; rfl) C slot _ H o xs ats rfl
def Zq:Code:=Tryz.f165.body.getD .skip
theorem XY:XR 165 plN Zq 9 (fun t=>t.getD 2 uA):=fun args H=>bR Tryz.func165 rfl rfl rfl args H (cM (by decide) args H)
theorem YE:XC 165:=fun C gl slot tm H o xs ats=>bP (by rw [Tryz.func165]; rfl) C slot _ H o xs ats rfl
def Zp:Code:=Tryz.f190.body.getD .skip
theorem XX:XR 190 plN Zp 9 (fun t=>t.getD 2 uA):=fun args H=>bR Tryz.func190 rfl rfl rfl args H (cM (by decide) args H)
theorem YC:XC 190:=fun C gl slot tm H o xs ats=>bP (by rw [Tryz.func190]; rfl) C slot _ H o xs ats rfl
def c9:Code:=Tryz.f9.body.getD .skip
theorem fe9:XR 9 plN c9 62 (fun t=>t.getD 0 uA):=fun args H=>bR Tryz.func9 rfl rfl rfl args H (cM (by decide) args H)
theorem fc9:XC 9:=fun C gl slot tm H o xs ats=>bP (by rw [Tryz.func9]; rfl) C slot _ H o xs ats rfl
def Zo:Code:=Tryz.f350.body.getD .skip
theorem XQ:XR 350 zG Zo 16 (fun t=>t.getD 6 uA):=fun args H=>bR Tryz.func350 rfl rfl rfl args H (cM (by decide) args H)
def Zn:Code:=Tryz.f351.body.getD .skip
theorem XP:XE 351 xL Zn 27 (fun t=>t.getD 2 uA):=fun args H=>d3 Tryz.func351 rfl rfl rfl args H (cM (by decide) args H)
def Zm:Code:=Tryz.f352.body.getD .skip
theorem XO:XE 352 zF Zm 13 (fun t=>.tuple []):=fun args H=>d3 Tryz.func352 rfl rfl rfl args H (cM (by decide) args H)
def Zl:Code:=Tryz.f353.body.getD .skip
theorem XN:XE 353 zE Zl 20 (fun t=>.tuple []):=fun args H=>d3 Tryz.func353 rfl rfl rfl args H (cM (by decide) args H)
end
end Go.Dv
