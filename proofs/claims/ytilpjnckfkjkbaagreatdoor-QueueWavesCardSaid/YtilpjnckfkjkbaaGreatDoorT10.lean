/- Part 10 of the walks (own work). -/
import Derived.Test.YtilpjnckfkjkbaaGreatDoorT09
open Bool renaming and_false→gk,and_self→ot,and_true→fx,false_and→bc,false_eq_true→bE,false_or→lI,not_false→gj,not_not→Dy,not_true→tZ,or_false→lS,or_true→qp,true_and→bd,true_or→qo
open ByteArray renaming empty→VC
open Int renaming toNat_natCast→cw
open List renaming all_cons→gF,all_nil→pk,append_assoc→aG,cons_append→iF,drop_succ_cons→sC,drop_zero→gA,getElem?_cons_succ→o0,getElem?_cons_zero→iq,getElem?_toArray→qm,head?_cons→ql,length_cons→cF,length_nil→gC,length_set→aq,nil_append→g6,range→bn,replicate→ay,set_cons_succ→tX,set_cons_zero→kz,take_succ_cons→jJ,take_zero→nz
open Nat renaming add_zero→oq,reduceAdd→aZ,reduceEqDiff→aO,reduceLT→aQ,reduceLeDiff→aK
open Option renaming bind_some→aA,getD_some→fq,map_eq_some_iff→ah,map_some→cE
open Option.some renaming inj→aE
open Go.Proofs.Tryz renaming prog→aa
set_option maxRecDepth 100000
set_option maxHeartbeats 4000000
set_option linter.unusedSimpArgs false
set_option linter.unusedVariables false
namespace Go.Dv
open Go.Proofs
def sW:ByteArray:=⟨#[102,117,110,99,32,107,101,114,110,101,108,32,98,117,102,102,101,114,32,105,110,116,32,115,104,97,114,101,100,32,108,101,116,32,105,102,32,101,108,115,101,32,119,104,105,108,101,32,98,114,101,97,107,32,99,111,110,116,105,110,117,101,32,114,101,116,117,114,110,32,98,97,114,114,105,101,114,32,97,116,111,109,105,99,32,99,111,108,108,101,99,116,32,116,105,100,32,98,105,100,32,100,105,109,32,103,114,105,100,32,109,105,110,32,109,97,120,32,97,100,100,32,97,110,100,32,111,114,32,120,111,114]⟩
def eS0:ByteArray:=VC
def mkT (n:Nat) (l:List (Nat × AV)):List AV:=l.foldl (fun tm p=>tm.set p.1 p.2) (ay n uA)
def wH (k:Nat):AH:=[.arg eA,.map [] 0,.cells ((bn 25).map fun j=>if j < k then .str (dr.getD j eS0) else .str eS0) 9]
noncomputable def vP:Code:=Tryz.f130.body.getD .skip
noncomputable def IC:Code:=aI [true,true,false,true,false,false] vP
noncomputable def so:Code:=Tryz.f164.body.getD .skip
noncomputable def sf (k:Nat) (c:Code):Code:=aI (ay k true) c
section
variable {P:Program} {C:Cfg P} {W:ph P} {pl:Nat->Option Way}
def pA (P:Program) (C:Cfg P) (W:ph P) (pl:Nat->Option Way) (n:Nat):Nat->Code->St->Option St
 | 0,_,s=>some s
 | k+1,.seq a b,s=>match evC P C (cO P C W n) pl n a s with
   | some (.normal,s')=>pA P C W pl n k b s'
   | _=>none
 | _+1,_,_=>none
theorem og {n:Nat}:∀ (k:Nat) {c:Code} {s s':St},pA P C W pl n k c s=some s'->EvC P C W pl c s=EvC P C W pl (sf k c) s'
 | 0,c,s,s',h=>by cases h; rfl
 | k+1,c,s,s',h=>by
   cases c with
   | seq a b =>
     simp only [pA] at h
     split at h
     · rename_i s1 h1
       rw [qW,sA h1]
       exact og k h
     · cases h
   | _=>simp [pA] at h
theorem tU {a b:Code} {s s':St} (h:EvC P C W pl a s=some (.normal,s')):EvC P C W pl (.seq a b) s=EvC P C W pl b s':=by rw [qW,h]; rfl
theorem sB {id:Nat} {b:Code} {s s':St} (h:EvC P C W pl b s=some (.exit id,s')):EvC P C W pl (.block id b) s=some (.normal,s'):=by rw [oh,h]; simp
end
noncomputable def wb0:Code:=aI [true,true,true,true,false,true,false,false] so
noncomputable def wb3:Code:=aI [true,true,true,true,true,true,true,true,true,true,true,true,false,false,false] so
def zw0:List AV:=mkT 106 [(0,(.str sW)),(2,.nilSlice),(3,I 0),(4,I 1),(5,.int .u8 0),(6,I 0)]
def yw0 (a0 a1 a2 a3 a4 a5 a6 a7 a8 a9:AV):List AV:=mkT 106 [(0,(.str sW)),(2,.nilSlice),(3,a0),(4,a1),(5,.int .u8 127),(6,a2),(7,a3),(8,a1),(13,a4),(14,(.str sW)),(15,I 132),(16,a5),(17,a6),(18,a2),(19,(.str sW)),(20,a6),(21,a3),(22,.int .u8 127),(23,a3),(24,.int .u8 127),(25,a3),(26,a7),(27,a8),(28,a1),(29,a0),(30,I 0),(31,a1),(32,a9),(33,I 0),(34,a0),(35,a1)]
def zw1:List AV:=yw0 (I 4) (I 0) (I 22) (.int .u8 116) (I 21) (.bool true) (I 21) (.ptr 0 116) (.int .u8 0) (I (-1))
theorem aag:lL aa K1 W0 plN 9 wb0 22 (zw0,[.arg eA,.map [] 0])=some (zw1,[.arg eA,.map [] 0]):=by kernel_rfl
def zw2:List AV:=yw0 (I 9) (I 0) (I 44) (.int .u8 104) (I 43) (.bool true) (I 43) (.ptr 0 104) (.int .u8 0) (I (-1))
theorem Wh:lL aa K1 W0 plN 9 wb0 22 (zw1,[.arg eA,.map [] 0])=some (zw2,[.arg eA,.map [] 0]):=by kernel_rfl
def zw3:List AV:=yw0 (I 12) (I 0) (I 66) (.int .u8 116) (I 65) (.bool true) (I 65) (.ptr 0 116) (.int .u8 0) (I (-1))
theorem Wg:lL aa K1 W0 plN 9 wb0 22 (zw2,[.arg eA,.map [] 0])=some (zw3,[.arg eA,.map [] 0]):=by kernel_rfl
def zw4:List AV:=yw0 (I 15) (I 0) (I 88) (.int .u8 108) (I 87) (.bool true) (I 87) (.ptr 0 108) (.int .u8 0) (I (-1))
theorem Wf:lL aa K1 W0 plN 9 wb0 22 (zw3,[.arg eA,.map [] 0])=some (zw4,[.arg eA,.map [] 0]):=by kernel_rfl
def zw5:List AV:=yw0 (I 19) (I 1) (I 110) (.int .u8 32) (I 109) (.bool true) (I 109) (.ptr 0 32) (.int .u8 1) (I (-2))
theorem We:lL aa K1 W0 plN 9 wb0 22 (zw4,[.arg eA,.map [] 0])=some (zw5,[.arg eA,.map [] 0]):=by kernel_rfl
def zw6:List AV:=yw0 (I 25) (I 0) (I 132) (.int .u8 114) (I 131) (.bool true) (I 131) (.ptr 0 114) (.int .u8 0) (I (-1))
theorem S6:lL aa K1 W0 plN 9 wb0 22 (zw5,[.arg eA,.map [] 0])=some (zw6,[.arg eA,.map [] 0]):=by kernel_rfl
def zw7:List AV:=yw0 (I 25) (I 0) (I 132) (.int .u8 114) (I 132) (.bool false) (I 131) (.ptr 0 114) (.int .u8 0) (I (-1))
theorem S5:evC aa K1 (cO aa K1 W0 9) plN 9 (.loop wb0) (zw6,[.arg eA,.map [] 0])=some (.exit 0,(zw7,[.arg eA,.map [] 0])):=by kernel_rfl
def zw8:List AV:=mkT 106 [(0,(.str sW)),(2,.nilSlice),(3,I 25),(4,I 0),(5,.int .u8 127),(6,I 132),(7,.int .u8 114),(8,I 0),(9,.slice 2 0 1 25 25 true),(10,I 0),(11,I 0),(12,I 0),(13,I 132),(14,(.str sW)),(15,I 132),(16,.bool false),(17,I 131),(18,I 132),(19,(.str sW)),(20,I 131),(21,.int .u8 114),(22,.int .u8 127),(23,.int .u8 114),(24,.int .u8 127),(25,.int .u8 114),(26,.ptr 0 114),(27,.int .u8 0),(28,I 0),(29,I 25),(30,I 0),(31,I 0),(32,I (-1)),(33,I 0),(34,I 25),(35,I 0),(36,.int .u8 127),(37,.bool false),(40,I 25),(41,.slice 2 0 1 25 25 true),(42,I 0),(43,(.str sW)),(44,I 132),(45,.bool true),(46,.bool true),(47,(.str sW)),(48,I 0),(49,.int .u8 102),(50,.ptr 0 102),(51,.int .u8 0),(52,.bool false),(53,.bool false),(56,I 0)]
def yw1 (a0 a1 a2 a3 a4 a5 a6 a7 a8 a9 a10 a11 a12 a13 a14 a15 a16 a17 a18:AV):List AV:=mkT 106 [(0,(.str sW)),(2,.nilSlice),(3,I 25),(4,I 0),(5,.int .u8 127),(6,I 132),(7,.int .u8 114),(8,I 0),(9,.slice 2 0 1 25 25 true),(10,a0),(11,a1),(12,a2),(13,I 132),(14,(.str sW)),(15,I 132),(16,.bool false),(17,I 131),(18,I 132),(19,(.str sW)),(20,I 131),(21,.int .u8 114),(22,.int .u8 127),(23,.int .u8 114),(24,.int .u8 127),(25,.int .u8 114),(26,.ptr 0 114),(27,.int .u8 0),(28,I 0),(29,I 25),(30,I 0),(31,I 0),(32,I (-1)),(33,I 0),(34,I 25),(35,I 0),(36,.int .u8 127),(37,.bool false),(40,I 25),(41,.slice 2 0 1 25 25 true),(42,I 0),(43,(.str sW)),(44,I 132),(45,.bool true),(46,.bool true),(47,(.str sW)),(48,I 0),(49,.int .u8 102),(50,.ptr 0 102),(51,.int .u8 0),(52,.bool false),(53,.bool false),(56,I 0),(57,a3),(58,(.str sW)),(59,I 132),(60,a4),(61,(.str sW)),(62,a5),(63,a6),(64,a7),(65,a8),(66,a9),(67,a10),(68,a11),(69,.slice 2 0 1 25 25 true),(70,a12),(71,(.str sW)),(72,a13),(73,a14),(74,a15),(75,a16),(76,a12),(77,a0),(78,a14),(79,a1),(80,a1),(81,(.str sW)),(82,I 132),(83,.bool true),(84,.bool true),(85,(.str sW)),(86,a1),(87,a17),(88,a18),(89,.int .u8 0),(90,.bool false),(91,.bool false),(94,a1)]
def zw9:List AV:=yw1 (I 3) (I 19) (I 22) (I 21) (.bool true) (I 21) (.int .u8 116) (.ptr 0 116) (.int .u8 0) (.bool true) (I 21) (I 22) (I 2) (I 12) (I 18) (.str (dr.getD 2 eS0)) (.ptr 2 2) (.int .u8 105) (.ptr 0 105)
theorem aaf:lL aa K1 W0 plN 9 wb3 22 (zw8,wH 0)=some (zw9,wH 3):=by kernel_rfl
def VJ:List AV:=yw1 (I 8) (I 42) (I 44) (I 43) (.bool true) (I 43) (.int .u8 104) (.ptr 0 104) (.int .u8 0) (.bool true) (I 43) (I 44) (I 7) (I 37) (I 41) (.str (dr.getD 7 eS0)) (.ptr 2 7) (.int .u8 119) (.ptr 0 119)
theorem Wd:lL aa K1 W0 plN 9 wb3 22 (zw9,wH 3)=some (VJ,wH 8):=by kernel_rfl
def VI:List AV:=yw1 (I 11) (I 63) (I 66) (I 65) (.bool true) (I 65) (.int .u8 116) (.ptr 0 116) (.int .u8 0) (.bool true) (I 65) (I 66) (I 10) (I 54) (I 62) (.str (dr.getD 10 eS0)) (.ptr 2 10) (.int .u8 114) (.ptr 0 114)
theorem Wc:lL aa K1 W0 plN 9 wb3 22 (VJ,wH 8)=some (VI,wH 11):=by kernel_rfl
def VH:List AV:=yw1 (I 14) (I 85) (I 88) (I 87) (.bool true) (I 87) (.int .u8 108) (.ptr 0 108) (.int .u8 0) (.bool true) (I 87) (I 88) (I 13) (I 78) (I 84) (.str (dr.getD 13 eS0)) (.ptr 2 13) (.int .u8 99) (.ptr 0 99)
theorem Wb:lL aa K1 W0 plN 9 wb3 22 (VI,wH 11)=some (VH,wH 14):=by kernel_rfl
def VG:List AV:=yw1 (I 19) (I 110) (I 110) (I 109) (.bool true) (I 109) (.int .u8 32) (.ptr 0 32) (.int .u8 1) (.bool false) (I 108) (I 109) (I 18) (I 105) (I 109) (.str (dr.getD 18 eS0)) (.ptr 2 18) (.int .u8 109) (.ptr 0 109)
theorem Wa:lL aa K1 W0 plN 9 wb3 22 (VH,wH 14)=some (VG,wH 19):=by kernel_rfl
def VF:List AV:=yw1 (I 24) (I 129) (I 132) (I 131) (.bool true) (I 131) (.int .u8 114) (.ptr 0 114) (.int .u8 0) (.bool true) (I 131) (I 132) (I 23) (I 126) (I 128) (.str (dr.getD 23 eS0)) (.ptr 2 23) (.int .u8 120) (.ptr 0 120)
theorem S3:lL aa K1 W0 plN 9 wb3 22 (VG,wH 19)=some (VF,wH 24):=by kernel_rfl
def SM:List AV:=yw1 (I 24) (I 129) (I 132) (I 132) (.bool false) (I 131) (.int .u8 114) (.ptr 0 114) (.int .u8 0) (.bool true) (I 131) (I 132) (I 23) (I 126) (I 128) (.str (dr.getD 23 eS0)) (.ptr 2 23) (.int .u8 120) (.ptr 0 120)
theorem SZ:evC aa K1 (cO aa K1 W0 9) plN 9 (.loop wb3) (VF,wH 24)=some (.exit 4,(SM,wH 24)):=by kernel_rfl
def SL:List AV:=mkT 106 [(0,(.str sW))]
def SK:List AV:=mkT 106 [(0,(.str sW)),(2,.nilSlice),(3,I 0),(4,I 1),(5,.int .u8 0)]
theorem w_a:pA aa K1 W0 plN 9 4 so (SL,[.arg eA,.map [] 0])=some (SK,[.arg eA,.map [] 0]):=by kernel_rfl
theorem w_b:pA aa K1 W0 plN 9 1 (aI [true,true,true,true,false] so) (SK,[.arg eA,.map [] 0])=some (zw0,[.arg eA,.map [] 0]):=by kernel_rfl
theorem w_c:pA aa K1 W0 plN 9 7 (sf 5 so) (zw7,[.arg eA,.map [] 0])=some (zw8,wH 0):=by kernel_rfl
def VE:List AV:=mkT 106 [(0,(.str sW)),(2,.slice 2 0 1 25 25 true),(3,I 25),(4,I 0),(5,.int .u8 127),(6,I 132),(7,.int .u8 114),(8,I 0),(9,.slice 2 0 1 25 25 true),(10,I 24),(11,I 129),(12,I 132),(13,I 132),(14,(.str sW)),(15,I 132),(16,.bool false),(17,I 131),(18,I 132),(19,(.str sW)),(20,I 131),(21,.int .u8 114),(22,.int .u8 127),(23,.int .u8 114),(24,.int .u8 127),(25,.int .u8 114),(26,.ptr 0 114),(27,.int .u8 0),(28,I 0),(29,I 25),(30,I 0),(31,I 0),(32,I (-1)),(33,I 0),(34,I 25),(35,I 0),(36,.int .u8 127),(37,.bool false),(40,I 25),(41,.slice 2 0 1 25 25 true),(42,I 0),(43,(.str sW)),(44,I 132),(45,.bool true),(46,.bool true),(47,(.str sW)),(48,I 0),(49,.int .u8 102),(50,.ptr 0 102),(51,.int .u8 0),(52,.bool false),(53,.bool false),(56,I 0),(57,I 132),(58,(.str sW)),(59,I 132),(60,.bool false),(61,(.str sW)),(62,I 131),(63,.int .u8 114),(64,.ptr 0 114),(65,.int .u8 0),(66,.bool true),(67,I 131),(68,I 132),(69,.slice 2 0 1 25 25 true),(70,I 23),(71,(.str sW)),(72,I 126),(73,I 128),(74,.str (dr.getD 23 eS0)),(75,.ptr 2 23),(76,I 23),(77,I 24),(78,I 128),(79,I 129),(80,I 129),(81,(.str sW)),(82,I 132),(83,.bool true),(84,.bool true),(85,(.str sW)),(86,I 129),(87,.int .u8 120),(88,.ptr 0 120),(89,.int .u8 0),(90,.bool false),(91,.bool false),(94,I 129),(95,I 129),(96,(.str sW)),(97,I 132),(98,.bool true),(99,.slice 2 0 1 25 25 true),(100,I 24),(101,(.str sW)),(102,I 129),(103,.str (dr.getD 24 eS0)),(104,.ptr 2 24),(105,.slice 2 0 1 25 25 true)]
theorem w_d:evC aa K1 (cO aa K1 W0 9) plN 9 (sf 13 so) (SM,wH 24)=some (.ret,(VE,wH 25)):=by kernel_rfl
theorem NV:EvC aa K1 W0 plN (.loop wb0) (zw0,[.arg eA,.map [] 0])=some (.exit 0,(zw7,[.arg eA,.map [] 0])):=
 (gV _ aag).trans <| (gV _ Wh).trans <| (gV _ Wg).trans <| (gV _ Wf).trans <| (gV _ We).trans <| (gV _ S6).trans <| sA S5
theorem NU:EvC aa K1 W0 plN (.loop wb3) (zw8,wH 0)=some (.exit 4,(SM,wH 24)):=
 (gV _ aaf).trans <| (gV _ Wd).trans <| (gV _ Wc).trans <| (gV _ Wb).trans <| (gV _ Wa).trans <| (gV _ S3).trans <| sA SZ
theorem SY:EvC aa K1 W0 plN so (SL,[.arg eA,.map [] 0])=some (.ret,(VE,wH 25)):=by
 rw [og _ w_a]
 rw [show sf 4 so=.seq (aI [true,true,true,true,false] so) (sf 5 so) by kernel_rfl]
 have h1:EvC aa K1 W0 plN (aI [true,true,true,true,false] so) (SK,[.arg eA,.map [] 0])=some (.normal,(zw7,[.arg eA,.map [] 0])):=by
   rw [og _ w_b,show sf 1 (aI [true,true,true,true,false] so)=.block 0 (.loop wb0) by kernel_rfl]
   exact sB NV
 rw [tU h1,og _ w_c,show sf 7 (sf 5 so)=.seq (.block 4 (.loop wb3)) (sf 13 so) by kernel_rfl,tU (sB NU)]
 exact sA w_d
theorem UF (args:List AV) (H:AH):Ev aa K1 W0 164 args H=(EvC aa K1 W0 plN so (args++ay (106 - args.length) uA,H)).bind fun r=>match r with | (.normal,s)=>some ((s.1.getD 2 uA),s.2) | (.ret,s)=>some ((s.1.getD 2 uA),s.2) | _=>none:=d3 Tryz.func164 rfl rfl rfl args H rfl
theorem IE:Ev aa K1 W0 164 [.str sW] [.arg eA,.map [] 0]=some (.slice 2 0 1 25 25 true,wH 25):=by
 rw [UF]
 have h0:([.str sW]:List AV)++ay (106 - ([.str sW]:List AV).length) uA=SL:=by kernel_rfl
 rw [h0,SY]
 first | rfl | (show _=_; kernel_rfl)
def mH (k:Nat):AH:=[.arg eA,.map (ue.take k) k,.cells ((bn 25).map fun j=>.str (dr.getD j eS0)) 9]
theorem m_a:pA aa K1 W0 plN 9 2 vP (mkT 15 [],[.arg eA])=some (mkT 15 [(0,.nilMap),(1,.map 1),(4,.map 1)],[.arg eA,.map [] 0]):=by kernel_rfl
theorem m_l:lL aa K1 W0 plN 9 IC 25 (mkT 15 [(0,.nilMap),(1,.map 1),(4,.map 1),(5,.slice 2 0 1 25 25 true),(6,I 25),(7,I 0)],mH 0)=some (mkT 15 [(0,.nilMap),(1,.map 1),(3,.str (dr.getD 24 eS0)),(4,.map 1),(5,.slice 2 0 1 25 25 true),(6,I 25),(7,I 25),(8,.bool true),(9,.ptr 2 24),(10,.str (dr.getD 24 eS0)),(11,.map 1),(12,.str (dr.getD 24 eS0)),(13,I 25)],mH 25):=by kernel_rfl
theorem WO:evC aa K1 (cO aa K1 W0 9) plN 9 (.loop IC) (mkT 15 [(0,.nilMap),(1,.map 1),(3,.str (dr.getD 24 eS0)),(4,.map 1),(5,.slice 2 0 1 25 25 true),(6,I 25),(7,I 25),(8,.bool true),(9,.ptr 2 24),(10,.str (dr.getD 24 eS0)),(11,.map 1),(12,.str (dr.getD 24 eS0)),(13,I 25)],mH 25)=some (.exit 0,(mkT 15 [(0,.nilMap),(1,.map 1),(3,.str (dr.getD 24 eS0)),(4,.map 1),(5,.slice 2 0 1 25 25 true),(6,I 25),(7,I 25),(8,.bool false),(9,.ptr 2 24),(10,.str (dr.getD 24 eS0)),(11,.map 1),(12,.str (dr.getD 24 eS0)),(13,I 25)],mH 25)):=by kernel_rfl
theorem m_d:evC aa K1 (cO aa K1 W0 9) plN 9 (sf 3 vP) (mkT 15 [(0,.nilMap),(1,.map 1),(3,.str (dr.getD 24 eS0)),(4,.map 1),(5,.slice 2 0 1 25 25 true),(6,I 25),(7,I 25),(8,.bool false),(9,.ptr 2 24),(10,.str (dr.getD 24 eS0)),(11,.map 1),(12,.str (dr.getD 24 eS0)),(13,I 25)],mH 25)=some (.ret,(mkT 15 [(0,.map 1),(1,.map 1),(3,.str (dr.getD 24 eS0)),(4,.map 1),(5,.slice 2 0 1 25 25 true),(6,I 25),(7,I 25),(8,.bool false),(9,.ptr 2 24),(10,.str (dr.getD 24 eS0)),(11,.map 1),(12,.str (dr.getD 24 eS0)),(13,I 25),(14,.map 1)],mH 25)):=by kernel_rfl
theorem aaE:dQ aa 164 (wH 25) (.slice 2 0 1 25 25 true)=some (I 25):=by kernel_rfl
theorem YF (C:Cfg aa) (gl:GL) (slot:Option Nat) (tm:List AV) (H:AH) (o:Oper) (xs:Array Operand) (ats:Array TypeId):fZ aa C slot (cP gl tm) o ⟨.value (.func 164),xs,ats⟩ H=(evL (cP gl tm) xs.toList).map fun vs=>(.enter 164 vs,H):=bP (by rw [Tryz.func164]; rfl) C slot _ H o xs ats rfl
theorem WN:EvC aa K1 W0 plN (aI [true,true,false,false] vP) (mkT 15 [(0,.nilMap),(1,.map 1),(4,.map 1)],[.arg eA,.map [] 0])=some (.normal,(mkT 15 [(0,.nilMap),(1,.map 1),(4,.map 1),(5,.slice 2 0 1 25 25 true),(6,I 25),(7,I 0)],mH 0)):=by
 have h:=IE
 have hw:wH 25=mH 0:=by kernel_rfl
 have hl:=aaE
 rw [hw] at h hl
 obtain ⟨tm,htm⟩:∃ tm,tm=mkT 15 [(0,.nilMap),(1,.map 1),(4,.map 1)]:=⟨_,rfl⟩
 have hlen:tm.length=15:=by rw [htm]; kernel_rfl
 rw [<-htm]
 generalize [bl.arg eA,bl.map [] 0]=H0 at h
 generalize mH 0=H1 at h hl
 simp -implicitDefEqProofs only [vP,Tryz.f130,aI,fq,hlen,↓YF,↓qW,↓tT,↓tV,↓wT,↓oh,↓qY,↓jf,↓qJ,↓qX,↓fX,↓cK,↓tW,↓oV,↓nv,↓kX,↓wJ,↓qL,↓tH,↓oU,↓wI,↓qM,↓tI,↓tK,↓wG,↓oT,↓tJ,↓l8,↓l7,↓nu,↓oS,↓wK,↓qy,↓sS,↓oB,↓mX,↓kT,↓Cr,↓Cs,↓ng,↓dO,↓ct,F8,dO,ct,Bq,wP,wO,Br,wN,wM,g8,wE,tE,tD,Bh,Cr,Cs,ng,jf,↓ox,↓lV,↓tP,↓oZ,↓tQ,↓qP,↓qV,↓wS,↓qU,↓mc,↓k5,↓qT,↓kZ,↓qR,↓ny,↓oY,↓kY,↓lA,↓me,↓ku,↓qQ,↓wR,↓tR,↓fY,↓ck,↓wo,↓qB,↓sV,↓ki,↓wm,↓qC,↓sX,↓sZ,↓wj,↓oD,↓sY,↓lZ,↓lY,↓mZ,↓oC, Bi,tG,m5,pL,wD,l3,oH,qD,qE,dv,zX,aq,aA,cE,A7,A8,A9,Ba,Bb,A6,Bc,A5,evL,evO,evP,ne_eq,not_false_eq_true,if_true,if_false,reduceCtorEq,ite_true,ite_false,reduceIte,wA,AV.cells,and_true,true_and,and_self,decide_true,decide_false,↓ov,v5,nw,l9,qm,iq,o0,aQ,aO,beq_self_eq_true,w4,wc,jN,gu,s4,s0,sG,sF,spl,gF,pk,AV.one,ot,bd,fx,bc,gk,qo,qp,lI,lS,tZ,gj,Dy,gA,jJ,nz,sC,ql,aZ,aK,cF,gC,g6,iF,aG,kz,tX,cw,oq,QC,QB,bE]
 generalize hE:Ev aa K1 W0 164 _ H0=E
 have hE2:E=some (.slice 2 0 1 25 25 true,H1):=hE.symm.trans h
 rw [hE2]
 simp -implicitDefEqProofs only [hlen,hl,↓qW,↓tT,↓tV,↓wT,↓oh,↓qY,↓jf,↓qJ,↓qX,↓fX,↓cK,↓tW,↓oV,↓nv,↓kX,↓wJ,↓qL,↓tH,↓oU,↓wI,↓qM,↓tI,↓tK,↓wG,↓oT,↓tJ,↓l8,↓l7,↓nu,↓oS,↓wK,↓qy,↓sS,↓oB,↓mX,↓kT,↓Cr,↓Cs,↓ng,↓dO,↓ct,F8,dO,ct,Bq,wP,wO,Br,wN,wM,g8,wE,tE,tD,Bh,Cr,Cs,ng,jf,↓ox,↓lV,↓tP,↓oZ,↓tQ,↓qP,↓qV,↓wS,↓qU,↓mc,↓k5,↓qT,↓kZ,↓qR,↓ny,↓oY,↓kY,↓lA,↓me,↓ku,↓qQ,↓wR,↓tR,↓fY,↓ck,↓wo,↓qB,↓sV,↓ki,↓wm,↓qC,↓sX,↓sZ,↓wj,↓oD,↓sY,↓lZ,↓lY,↓mZ,↓oC, Bi,tG,m5,pL,wD,l3,oH,qD,qE,dv,zX,aq,aA,cE,A7,A8,A9,Ba,Bb,A6,Bc,A5,evL,evO,evP,ne_eq,not_false_eq_true,if_true,if_false,reduceCtorEq,ite_true,ite_false,reduceIte,wA,AV.cells,and_true,true_and,and_self,decide_true,decide_false,↓ov,v5,nw,l9,qm,iq,o0,aQ,aO,beq_self_eq_true,w4,wc,jN,gu,s4,s0,sG,sF,spl,gF,pk,AV.one,ot,bd,fx,bc,gk,qo,qp,lI,lS,tZ,gj,Dy,gA,jJ,nz,sC,ql,aZ,aK,cF,gC,g6,iF,aG,kz,tX,cw,oq,QC,QB,bE]
 rw [htm]
 first | (show _=_; kernel_rfl) | rfl
theorem UG (args:List AV) (H:AH):Ev aa K1 W0 130 args H=(EvC aa K1 W0 plN vP (args++ay (15 - args.length) uA,H)).bind fun r=>match r with | (.normal,s)=>some ((s.1.getD 0 uA),s.2) | (.ret,s)=>some ((s.1.getD 0 uA),s.2) | _=>none:=d3 Tryz.func130 rfl rfl rfl args H rfl
theorem WQ:Ev aa K1 W0 130 [] [.arg eA]=some (.map 1,mH 25):=by
 rw [UG]
 have h0:([]:List AV)++ay (15 - ([]:List AV).length) uA=mkT 15 []:=by kernel_rfl
 rw [h0,og _ m_a,show sf 2 vP=.seq (aI [true,true,false] vP) (sf 3 vP) by kernel_rfl]
 have h1:EvC aa K1 W0 plN (aI [true,true,false] vP) (mkT 15 [(0,.nilMap),(1,.map 1),(4,.map 1)],[.arg eA,.map [] 0])=some (.normal,(mkT 15 [(0,.nilMap),(1,.map 1),(3,.str (dr.getD 24 eS0)),(4,.map 1),(5,.slice 2 0 1 25 25 true),(6,I 25),(7,I 25),(8,.bool false),(9,.ptr 2 24),(10,.str (dr.getD 24 eS0)),(11,.map 1),(12,.str (dr.getD 24 eS0)),(13,I 25)],mH 25)):=by
   rw [show aI [true,true,false] vP=.seq (aI [true,true,false,false] vP) (.block 0 (.loop IC)) by kernel_rfl,tU WN]
   exact sB ((gV _ m_l).trans (sA WO))
 rw [tU h1,sA m_d]
 first | (show _=_; kernel_rfl) | rfl
theorem BB (gl:GL) (w0:World) (Pr:Nat->Prop) (hpin:oe 0 eA w0 Pr):iE aa gl w0 Pr wg:=Ct (C:=K1) (f:=130) (i:=1) (n:=25) (es:=ue) Ff WQ (by kernel_rfl) (by kernel_rfl) gl w0 Pr hpin
#print axioms BB
end Go.Dv
namespace Go.Dv
open Go.Proofs
theorem DJ (gl:GL) (w0:World) (Pr:Nat->Prop) (hpin:oe 0 eA w0 Pr):iE aa gl w0 Pr wg:=BB gl w0 Pr hpin
def Xw:List (List Nat × Int):=[([0,8],0),([0,1],0),([0,1],3),([0,1,2],20),([0],4),([0,7],0),([0,1,3],0),([1,2,3],0),([1,2,3,4],0),([5],0),([0,1,5,4],0),([0,6],0),([1,6],0),([9],0),([1,9,10],0),([],0)]
def AU (k:Nat):List AV:=match Xw[k]? with
 | some p=>((bn 11).map fun i=>AV.bool (p.1.contains i))++[.int .i64 p.2]
 | none=>[]
def gG:List AV:=(bn 16).flatMap AU
theorem HC:[((87:FuncId),([]:List AV),AV.agg gG)].all (sk aa K1 W0 [.arg eA] 20)=true:=by kernel_rfl
def AW:bY:=qN [(87,[],.agg gG)]
theorem Es (gl:GL) (w0:World) (Pr:Nat->Prop) (hpin:oe 0 eA w0 Pr):iE aa gl w0 Pr AW:=Bk (C:=K1) Ff HC gl w0 Pr hpin
def Ju:List Nat:=[9,350,8,12,13,16,18,20,21,24,25,26,35,36,37,38,39,43,49,54,56,57,58,59,60,61,62,63,65,66,67,68,69,70,71,73,74,81,84,85,86,88,89,90,91,92,96,97,98,99,100,101,102,104,105,106,107,108,119,120,122,123,129,131,132,133,149,150,151,165,190]
def Px:bY:=orElse wg AW
theorem zH {f:Nat} (hf:f∉[87,130]) (args:List AV) (H:AH):Px f args H=none:=by
 simp only [List.mem_cons,List.not_mem_nil,or_false,not_or] at hf
 unfold Px orElse wg AW qN
 have h87:(f == 87)=false:=by simp [hf.1]
 cases args with
 | nil=>simp [hf.2,h87]
 | cons x l=>simp [h87]
theorem Ho:(Ju.all fun x=>!([87,130].contains x))=true:=by decide
theorem Pw (f:FuncId) (args:List AV) (H:AH) (v:AV) (H':AH) (hr:Ju.contains f=true) (h:Px f args H=some (v,H')):H'=H:=by
 have h1:=List.all_eq_true.1 Ho f (by simpa using hr)
 rw [zH (by simpa using h1)] at h
 cases h
theorem Hv {P:Program} (ats:Array TypeId) (ty:TypeId) (a:Addr) (x y:String) (w:World):(Builtin.ssaWrapNilChk_ ats ty #[.pointer (some a),strVal x,strVal y]).run P w=.ok (.pointer (some a)) w:=rfl
theorem En {P:Program} {t elem:TypeId} {name:String} {f:FuncId} {n:Nat} (ti:TypeInfo) (hi:P.info? t=some ti) (hm:(ti.methods.find? (·.name == name)).map (fun m=>(m.path,m.func))=some (#[],some (f,false))) (hu:P.underlying t=some (.pointer elem))
   (a:Addr) (u:Value) (w:World) (h:(loadVar elem a).run P w=.ok u w):(method (n+1) t (.pointer (some a)) name).run P w=.ok (f,u) w:=by
 obtain ⟨m,hm,e⟩:=ah.1 hm
 obtain ⟨hp,hf⟩:=Prod.mk.inj e
 simp only [method,Sem.run_bind,pE hi,Result.andThen_ok,hm,hp,hf,follow,Sem.run_pure,receiverAt,bt hu,Place.get,Hv,asAddr,h,Array.isEmpty_empty,if_true]
theorem mOk (t:TypeId) (n:String) (f:FuncId) (h:(if t=100 then (if n = "Push" then some 352 else if n = "Pop" then some 351 else none) else none:Option FuncId)=some f) (v:Value) (w:World):(method (aa.types.size+Made.depth) t v n).run aa w=.ok (f,v) w:=by
 split at h
 · rename_i e
   subst e
   split at h
   · rename_i e; subst e; cases h; kernel_rfl
   · split at h
     · rename_i e; subst e; cases h; kernel_rfl
     · cases h
 · cases h
theorem mD (t:TypeId) (n:String) (f:FuncId) (e:TypeId) (h:(if t=100 then (if n = "Len" then some (49,101) else if n = "Less" then some (350,101) else if n = "Swap" then some (353,101) else none) else none:Option (FuncId × TypeId))=some (f,e)) (a:Addr) (u:Value) (w:World) (hl:(loadVar e a).run aa w=.ok u w):(method (aa.types.size+Made.depth) t (.pointer (some a)) n).run aa w=.ok (f,u) w:=by
 have hd:aa.types.size+Made.depth=(aa.types.size+Made.depth - 1)+1:=by kernel_rfl
 rw [hd]
 have hi:aa.info? 100=some ((aa.info? 100).getD default):=by kernel_rfl
 split at h
 · rename_i e
   subst e
   split at h
   · rename_i e; subst e; cases h; exact En _ hi (by kernel_rfl) (by kernel_rfl) a u w hl
   · split at h
     · rename_i e; subst e; cases h; exact En _ hi (by kernel_rfl) (by kernel_rfl) a u w hl
     · split at h
       · rename_i e; subst e; cases h; exact En _ hi (by kernel_rfl) (by kernel_rfl) a u w hl
       · cases h
 · cases h
noncomputable def C0:Cfg aa:={ gl:=fun _=>none,pin:=oe 0 eA,orc:=Px,orcOk:=fun w0 Pr hp=>Hr (DJ _ w0 Pr hp) (Es _ w0 Pr hp),meth:=fun t n=>if t=100 then (if n = "Push" then some 352 else if n = "Pop" then some 351 else none) else none,methOk:=mOk,methD:=fun t n=>if t=100 then (if n = "Len" then some (49,101) else if n = "Less" then some (350,101) else if n = "Swap" then some (353,101) else none) else none,methDOk:=mD,name:=FB,mixed:=Tryz.checked.mixed,reads:=fun f=>Ju.contains f,orcRo:=Pw,pinRo:=fun w0 Pr φ H w h hW=>oe.later h hW }
theorem cM {f:Nat} (hf:f∉[87,130]) (args:List AV) (H:AH):C0.orc f args H=none:=zH hf args H
theorem nX (H:AH):Ev aa C0 W0 87 [] H=some (.agg gG,H):=Nw rfl
theorem IB (H:AH):Ev aa C0 W0 130 [] H=some (.map H.length,H++[.map ue 25]):=Nw rfl
theorem rJ (H:AH) (i k:Nat):vC aa C0 100 (.ptr i k) "Len" H=(ldA aa 101 H i k).map fun u=>(49,u):=rfl
theorem nG (H:AH) (i k:Nat):vC aa C0 100 (.ptr i k) "Less" H=(ldA aa 101 H i k).map fun u=>(350,u):=rfl
theorem nE (H:AH) (i k:Nat):vC aa C0 100 (.ptr i k) "Swap" H=(ldA aa 101 H i k).map fun u=>(353,u):=rfl
theorem nF (H:AH) (v:AV):vC aa C0 100 v "Push" H=some (352,v):=rfl
theorem rH (H:AH) (v:AV):vC aa C0 100 v "Pop" H=some (351,v):=rfl
theorem XG (i k es len cap:Nat) (ex:Bool) (kk:IntKind) (n:Int):aD aa 22 (.slice i k es len cap ex) (.int kk n)=if 0<=n/\n < len/\5=es then some (.ptr i (k+n.toNat * es)) else none:=by kernel_rfl
theorem Un (H:AH) (i k es len cap:Nat) (ex:Bool):dQ aa 22 H (.slice i k es len cap ex)=some (.int .i64 len):=by kernel_rfl
theorem Q9 (H:AH):dQ aa 22 H .nilSlice=some (.int .i64 0):=by kernel_rfl
theorem XF (i k es len cap:Nat) (ex:Bool) (kk:IntKind) (n:Int):aD aa 24 (.slice i k es len cap ex) (.int kk n)=if 0<=n/\n < len/\1=es then some (.ptr i (k+n.toNat * es)) else none:=by kernel_rfl
theorem aaL (H:AH) (i k es len cap:Nat) (ex:Bool):dQ aa 24 H (.slice i k es len cap ex)=some (.int .i64 len):=by kernel_rfl
theorem W3 (H:AH):dQ aa 24 H .nilSlice=some (.int .i64 0):=by kernel_rfl
theorem aaW (i k es len cap:Nat) (ex:Bool) (kk:IntKind) (n:Int):aD aa 25 (.slice i k es len cap ex) (.int kk n)=if 0<=n/\n < len/\1=es then some (.ptr i (k+n.toNat * es)) else none:=by kernel_rfl
theorem aaK (H:AH) (i k es len cap:Nat) (ex:Bool):dQ aa 25 H (.slice i k es len cap ex)=some (.int .i64 len):=by kernel_rfl
theorem W2 (H:AH):dQ aa 25 H .nilSlice=some (.int .i64 0):=by kernel_rfl
theorem XD (i k es len cap:Nat) (ex:Bool) (kk:IntKind) (n:Int):aD aa 30 (.slice i k es len cap ex) (.int kk n)=if 0<=n/\n < len/\1=es then some (.ptr i (k+n.toNat * es)) else none:=by kernel_rfl
theorem W1 (H:AH) (i k es len cap:Nat) (ex:Bool):dQ aa 30 H (.slice i k es len cap ex)=some (.int .i64 len):=by kernel_rfl
theorem Q8 (H:AH):dQ aa 30 H .nilSlice=some (.int .i64 0):=by kernel_rfl
theorem aaV (i k es len cap:Nat) (ex:Bool) (kk:IntKind) (n:Int):aD aa 31 (.slice i k es len cap ex) (.int kk n)=if 0<=n/\n < len/\9=es then some (.ptr i (k+n.toNat * es)) else none:=by kernel_rfl
theorem WY (H:AH) (i k es len cap:Nat) (ex:Bool):dQ aa 31 H (.slice i k es len cap ex)=some (.int .i64 len):=by kernel_rfl
theorem WX (H:AH):dQ aa 31 H .nilSlice=some (.int .i64 0):=by kernel_rfl
theorem XB (i k es len cap:Nat) (ex:Bool) (kk:IntKind) (n:Int):aD aa 32 (.slice i k es len cap ex) (.int kk n)=if 0<=n/\n < len/\1=es then some (.ptr i (k+n.toNat * es)) else none:=by kernel_rfl
theorem aaJ (H:AH) (i k es len cap:Nat) (ex:Bool):dQ aa 32 H (.slice i k es len cap ex)=some (.int .i64 len):=by kernel_rfl
theorem WW (H:AH):dQ aa 32 H .nilSlice=some (.int .i64 0):=by kernel_rfl
theorem aaS (i k es len cap:Nat) (ex:Bool) (kk:IntKind) (n:Int):aD aa 62 (.slice i k es len cap ex) (.int kk n)=if 0<=n/\n < len/\2=es then some (.ptr i (k+n.toNat * es)) else none:=by kernel_rfl
theorem aaI (H:AH) (i k es len cap:Nat) (ex:Bool):dQ aa 62 H (.slice i k es len cap ex)=some (.int .i64 len):=by kernel_rfl
theorem WV (H:AH):dQ aa 62 H .nilSlice=some (.int .i64 0):=by kernel_rfl
theorem aaR (i k es len cap:Nat) (ex:Bool) (kk:IntKind) (n:Int):aD aa 63 (.slice i k es len cap ex) (.int kk n)=if 0<=n/\n < len/\2=es then some (.ptr i (k+n.toNat * es)) else none:=by kernel_rfl
theorem aaH (H:AH) (i k es len cap:Nat) (ex:Bool):dQ aa 63 H (.slice i k es len cap ex)=some (.int .i64 len):=by kernel_rfl
theorem WU (H:AH):dQ aa 63 H .nilSlice=some (.int .i64 0):=by kernel_rfl
theorem aaQ (i k es len cap:Nat) (ex:Bool) (kk:IntKind) (n:Int):aD aa 64 (.slice i k es len cap ex) (.int kk n)=if 0<=n/\n < len/\8=es then some (.ptr i (k+n.toNat * es)) else none:=by kernel_rfl
theorem aaG (H:AH) (i k es len cap:Nat) (ex:Bool):dQ aa 64 H (.slice i k es len cap ex)=some (.int .i64 len):=by kernel_rfl
theorem WT (H:AH):dQ aa 64 H .nilSlice=some (.int .i64 0):=by kernel_rfl
theorem Se (i k es len cap:Nat) (ex:Bool) (kk:IntKind) (n:Int):aD aa 164 (.slice i k es len cap ex) (.int kk n)=if 0<=n/\n < len/\1=es then some (.ptr i (k+n.toNat * es)) else none:=by kernel_rfl
theorem Ra (H:AH) (i k es len cap:Nat) (ex:Bool):dQ aa 164 H (.slice i k es len cap ex)=some (.int .i64 len):=by kernel_rfl
theorem Uo (H:AH):dQ aa 164 H .nilSlice=some (.int .i64 0):=by kernel_rfl
theorem ld3 (H:AH) (i k:Nat):ldA aa 3 H i k=(ak H i k 1).bind (·.head?):=by kernel_rfl
theorem ld4 (H:AH) (i k:Nat):ldA aa 4 H i k=(ak H i k 1).bind (·.head?):=by kernel_rfl
theorem ld5 (H:AH) (i k:Nat):ldA aa 5 H i k=(ak H i k 1).bind (·.head?):=by kernel_rfl
theorem ld9 (H:AH) (i k:Nat):ldA aa 9 H i k=(ak H i k 1).bind (·.head?):=by kernel_rfl
theorem Xr (H:AH) (i k:Nat):ldA aa 21 H i k=(ak H i k 1).bind (·.head?):=by kernel_rfl
theorem Xq (H:AH) (i k:Nat):ldA aa 22 H i k=(ak H i k 1).bind (·.head?):=by kernel_rfl
theorem Xp (H:AH) (i k:Nat):ldA aa 24 H i k=(ak H i k 1).bind (·.head?):=by kernel_rfl
theorem Xo (H:AH) (i k:Nat):ldA aa 25 H i k=(ak H i k 1).bind (·.head?):=by kernel_rfl
theorem Xm (H:AH) (i k:Nat):ldA aa 30 H i k=(ak H i k 1).bind (·.head?):=by kernel_rfl
theorem Xl (H:AH) (i k:Nat):ldA aa 31 H i k=(ak H i k 1).bind (·.head?):=by kernel_rfl
theorem Xk (H:AH) (i k:Nat):ldA aa 32 H i k=(ak H i k 1).bind (·.head?):=by kernel_rfl
theorem Xj (H:AH) (i k:Nat):ldA aa 37 H i k=(ak H i k 1).bind (·.head?):=by kernel_rfl
theorem Xi (H:AH) (i k:Nat):ldA aa 38 H i k=(ak H i k 1).bind (·.head?):=by kernel_rfl
theorem Xh (H:AH) (i k:Nat):ldA aa 62 H i k=(ak H i k 1).bind (·.head?):=by kernel_rfl
theorem Xg (H:AH) (i k:Nat):ldA aa 63 H i k=(ak H i k 1).bind (·.head?):=by kernel_rfl
theorem Xf (H:AH) (i k:Nat):ldA aa 64 H i k=(ak H i k 1).bind (·.head?):=by kernel_rfl
theorem Rd (H:AH) (i k:Nat):ldA aa 164 H i k=(ak H i k 1).bind (·.head?):=by kernel_rfl
theorem Xn (H:AH) (i k:Nat):ldA aa 27 H i k=(ak H i k 7).map .agg:=by kernel_rfl
theorem HB (H:AH) (i k:Nat):ldA aa 29 H i k=(ak H i k 10).map .agg:=by kernel_rfl
theorem Ut (H:AH) (i k:Nat):ldA aa 34 H i k=(ak H i k 9).map .agg:=by kernel_rfl
theorem Xe (H:AH) (i k:Nat):ldA aa 66 H i k=(ak H i k 5).map .agg:=by kernel_rfl
theorem Xb (H:AH) (i k:Nat):ldA aa 74 H i k=(ak H i k 2).map .agg:=by kernel_rfl
theorem Xa (H:AH) (i k:Nat):ldA aa 77 H i k=(ak H i k 2).map .agg:=by kernel_rfl
theorem W9 (H:AH) (i k:Nat):ldA aa 80 H i k=(ak H i k 8).map .agg:=by kernel_rfl
theorem Xd (H:AH) (i k:Nat):ldA aa 69 H i k=(ak H i k 16).map .agg:=by kernel_rfl
theorem Xc (H:AH) (i k:Nat):ldA aa 71 H i k=(ak H i k 28).map .agg:=by kernel_rfl
theorem Rf (H:AH) (i k:Nat):ldA aa 152 H i k=(ak H i k 12).map .agg:=by kernel_rfl
theorem iO (i k:Nat):aN aa 29 (.ptr i k) 0=some (.ptr i k):=by kernel_rfl
theorem yB (i k:Nat):aN aa 29 (.ptr i k) 1=some (.ptr i (k+1)):=by kernel_rfl
theorem pT (i k:Nat):aN aa 29 (.ptr i k) 2=some (.ptr i (k+2)):=by kernel_rfl
theorem EC (i k:Nat):aN aa 29 (.ptr i k) 3=some (.ptr i (k+3)):=by kernel_rfl
theorem LD (i k:Nat):aN aa 34 (.ptr i k) 0=some (.ptr i k):=by kernel_rfl
theorem LC (i k:Nat):aN aa 34 (.ptr i k) 1=some (.ptr i (k+1)):=by kernel_rfl
theorem LB (i k:Nat):aN aa 34 (.ptr i k) 2=some (.ptr i (k+2)):=by kernel_rfl
theorem LA (i k:Nat):aN aa 34 (.ptr i k) 3=some (.ptr i (k+3)):=by kernel_rfl
theorem Lz (i k:Nat):aN aa 34 (.ptr i k) 4=some (.ptr i (k+4)):=by kernel_rfl
theorem Ly (i k:Nat):aN aa 34 (.ptr i k) 5=some (.ptr i (k+5)):=by kernel_rfl
theorem Lx (i k:Nat):aN aa 34 (.ptr i k) 6=some (.ptr i (k+6)):=by kernel_rfl
theorem Lw (i k:Nat):aN aa 34 (.ptr i k) 7=some (.ptr i (k+7)):=by kernel_rfl
theorem Lv (i k:Nat):aN aa 34 (.ptr i k) 8=some (.ptr i (k+8)):=by kernel_rfl
theorem Lu (i k:Nat):aN aa 66 (.ptr i k) 0=some (.ptr i k):=by kernel_rfl
theorem Lt (i k:Nat):aN aa 66 (.ptr i k) 1=some (.ptr i (k+1)):=by kernel_rfl
theorem Ls (i k:Nat):aN aa 66 (.ptr i k) 2=some (.ptr i (k+2)):=by kernel_rfl
theorem Lr (i k:Nat):aN aa 66 (.ptr i k) 3=some (.ptr i (k+3)):=by kernel_rfl
theorem Lq (i k:Nat):aN aa 66 (.ptr i k) 4=some (.ptr i (k+4)):=by kernel_rfl
theorem Le (i k:Nat):aN aa 80 (.ptr i k) 0=some (.ptr i k):=by kernel_rfl
theorem Ld (i k:Nat):aN aa 80 (.ptr i k) 1=some (.ptr i (k+1)):=by kernel_rfl
theorem Lc (i k:Nat):aN aa 80 (.ptr i k) 2=some (.ptr i (k+2)):=by kernel_rfl
theorem Lb (i k:Nat):aN aa 80 (.ptr i k) 3=some (.ptr i (k+3)):=by kernel_rfl
theorem La (i k:Nat):aN aa 80 (.ptr i k) 4=some (.ptr i (k+4)):=by kernel_rfl
theorem K9 (i k:Nat):aN aa 80 (.ptr i k) 5=some (.ptr i (k+5)):=by kernel_rfl
theorem KZ (i k:Nat):aN aa 80 (.ptr i k) 6=some (.ptr i (k+6)):=by kernel_rfl
theorem KY (i k:Nat):aN aa 80 (.ptr i k) 7=some (.ptr i (k+7)):=by kernel_rfl
theorem LL (i k:Nat):aN aa 27 (.ptr i k) 0=some (.ptr i k):=by kernel_rfl
theorem LK (i k:Nat):aN aa 27 (.ptr i k) 1=some (.ptr i (k+1)):=by kernel_rfl
theorem LJ (i k:Nat):aN aa 27 (.ptr i k) 2=some (.ptr i (k+2)):=by kernel_rfl
theorem LI (i k:Nat):aN aa 27 (.ptr i k) 3=some (.ptr i (k+3)):=by kernel_rfl
theorem LH (i k:Nat):aN aa 27 (.ptr i k) 4=some (.ptr i (k+4)):=by kernel_rfl
theorem LG (i k:Nat):aN aa 27 (.ptr i k) 5=some (.ptr i (k+5)):=by kernel_rfl
theorem LF (i k:Nat):aN aa 27 (.ptr i k) 6=some (.ptr i (k+6)):=by kernel_rfl
theorem Li (i k:Nat):aN aa 74 (.ptr i k) 0=some (.ptr i k):=by kernel_rfl
theorem Lh (i k:Nat):aN aa 74 (.ptr i k) 1=some (.ptr i (k+1)):=by kernel_rfl
theorem Lg (i k:Nat):aN aa 77 (.ptr i k) 0=some (.ptr i k):=by kernel_rfl
theorem Lf (i k:Nat):aN aa 77 (.ptr i k) 1=some (.ptr i (k+1)):=by kernel_rfl
theorem Lp (i k:Nat):aN aa 71 (.ptr i k) 0=some (.ptr i k):=by kernel_rfl
theorem Lo (i k:Nat):aN aa 71 (.ptr i k) 1=some (.ptr i (k+1)):=by kernel_rfl
theorem Ln (i k:Nat):aN aa 71 (.ptr i k) 2=some (.ptr i (k+2)):=by kernel_rfl
theorem Lm (i k:Nat):aN aa 71 (.ptr i k) 3=some (.ptr i (k+9)):=by kernel_rfl
theorem Ll (i k:Nat):aN aa 71 (.ptr i k) 4=some (.ptr i (k+10)):=by kernel_rfl
theorem Lk (i k:Nat):aN aa 71 (.ptr i k) 5=some (.ptr i (k+11)):=by kernel_rfl
theorem Lj (i k:Nat):aN aa 71 (.ptr i k) 6=some (.ptr i (k+27)):=by kernel_rfl
structure SlS (T es:Nat) (H:AH) (v:AV) (rows:List (List AV)):Prop where
 len:∀ G,dQ aa T G v=some (I rows.length)
 ix:∀ (j:Nat) (r:List AV),rows[j]? =some r->∃ i k,(∀ kk,aD aa T v (.int kk j)=some (.ptr i k))/\ak H i k es=some r
 old:(v=.nilSlice/\rows=[])∨∃ i k c e,v=.slice i k es rows.length c e/\okC H i=true/\ak H i k (rows.length * es)=some rows.flatten
theorem Kf {H G:AH} (h:∀ j,j < H.length->G[j]? =H[j]?) {i:Nat} (hi:okC H i=true):okC G i=true:=by
 have hl:i < H.length:=by
   rcases Nat.lt_or_ge i H.length with c | c
   · exact c
   · unfold okC at hi; rw [List.getElem?_eq_none c] at hi; cases hi
 unfold okC at hi ⊢
 rw [h i hl]; exact hi
theorem TV {H:AH} {i:Nat} (hi:okC H i=true):okC (ro H) i=true:=by
 unfold okC at hi ⊢
 unfold ro
 rw [List.getElem?_map]
 cases h:H[i]? with
 | none=>rw [h] at hi; exact hi
 | some o=>rw [h] at hi; cases o <;> first | rfl | (cases hi)
theorem jE {H G:AH} (h:∀ j,j < H.length->G[j]? =H[j]?) {i k n:Nat} {xs:List AV} (hr:ak H i k n=some xs):ak G i k n=some xs:=by
 have hi:=Q0 hr
 unfold ak at hr ⊢
 rw [h i hi]; exact hr
theorem SlS.same {T es:Nat} {H G:AH} {v:AV} {rows:List (List AV)} (h:SlS T es H v rows) (hs:∀ j,j < H.length->G[j]? =H[j]?):SlS T es G v rows:=
 ⟨h.len,fun j x hx=>by obtain ⟨i,k,h1,h2⟩:=h.ix j x hx; exact ⟨i,k,h1,jE hs h2⟩,h.old.imp id fun ⟨i,k,c,e,h1,h2,h3⟩=>⟨i,k,c,e,h1,Kf hs h2,jE hs h3⟩⟩
theorem SlS.app {T es:Nat} {H:AH} {v:AV} {rows:List (List AV)} (h:SlS T es H v rows) (L:AH):SlS T es (H++L) v rows:=h.same fun j hj=>List.getElem?_append_left hj
theorem SlS.ro {T es:Nat} {H:AH} {v:AV} {rows:List (List AV)} (h:SlS T es H v rows):SlS T es (ro H) v rows:=
 ⟨h.len,fun j x hx=>by obtain ⟨i,k,h1,h2⟩:=h.ix j x hx; exact ⟨i,k,h1,xu h2⟩,h.old.imp id fun ⟨i,k,c,e,h1,h2,h3⟩=>⟨i,k,c,e,h1,TV h2,xu h3⟩⟩
theorem SlS.oG {T es:Nat} {H:AH} {v:AV} {rows:List (List AV)} (h:SlS T es H v rows):oG H v=true:=by
 rcases h.old with ⟨e,_⟩ | ⟨i,k,c,x,e,h',_⟩
 · rw [e]; rfl
 · rw [e]; simpa only [Go.Dv.oG] using h'
theorem rP {α β:Type} (f:α->β):∀ (l:List α),(l.map fun x=>[f x]).flatten=l.map f
 | []=>rfl
 | x::l=>by rw [List.map_cons,List.flatten_cons,rP f l]; rfl
theorem kU {H:AH} {i k n:Nat} {xs:List AV} (h:ak H i k n=some xs) {j:Nat} {x:AV} (hx:xs[j]? =some x):ak H i (k+j) 1=some [x]:=by
 have hl:=pG h
 have hj:=aJ hx
 rw [AL h j 1 (by omega)]
 congr 1
 rw [List.drop_eq_getElem_cons hj]
 rw [List.getElem?_eq_getElem hj] at hx
 rw [aE hx]; rfl
theorem cp {j:Nat} (h:j < 2 ^ 60):IntKind.i64.wrap ((j:Int)+1)=((j+1:Nat):Int):=by rw [IntWalk.i64_in _ (by omega)]; omega
end Go.Dv
