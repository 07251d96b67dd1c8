/- Part 10 of the walks (own work). -/
import Derived.Test.YtilpjnckfkjkbaaGreatDoorU09
open Bool renaming and_false→gx,and_self→oD,and_true→fG,false_and→bd,false_eq_true→bK,false_or→iC,not_false→gv,not_not→D0,not_true→uC,or_false→lZ,or_true→qy,true_and→bf,true_or→lx
open ByteArray renaming empty→WX
open Int renaming toNat_natCast→cN
open List renaming all_cons→gL,all_nil→pE,append_assoc→aD,cons_append→iM,drop_succ_cons→sJ,drop_zero→ib,getElem?_cons_succ→pg,getElem?_cons_zero→iD,getElem?_toArray→qx,head?_cons→qv,length_cons→cR,length_nil→gH,length_set→aq,nil_append→ig,range→bp,replicate→au,set_cons_succ→uz,set_cons_zero→kK,take_succ_cons→jO,take_zero→nL
open Nat renaming add_zero→oC,reduceAdd→bg,reduceEqDiff→aQ,reduceLT→aR,reduceLeDiff→aK
open Option renaming bind_some→ax,getD_some→fE,map_eq_some_iff→ah,map_some→cH
open Option.some renaming inj→aB
open Go.Proofs.Tryz renaming prog→aa
set_option maxRecDepth 100000
set_option maxHeartbeats 4000000
set_option linter.unusedSimpArgs false
set_option linter.unusedVariables false
open Go.Proofs.Tryz (f130 func164)
namespace Go.Dv
open Go.Proofs
def sW:ByteArray:=⟨#[102,117,110,99,32,107,101,114,110,101,108,32,98,117,102,102,101,114,32,105,110,116,32,115,104,97,114,101,100,32,108,101,116,32,105,102,32,101,108,115,101,32,119,104,105,108,101,32,98,114,101,97,107,32,99,111,110,116,105,110,117,101,32,114,101,116,117,114,110,32,98,97,114,114,105,101,114,32,97,116,111,109,105,99,32,99,111,108,108,101,99,116,32,116,105,100,32,98,105,100,32,100,105,109,32,103,114,105,100,32,109,105,110,32,109,97,120,32,97,100,100,32,97,110,100,32,111,114,32,120,111,114]⟩
def eS0:ByteArray:=WX
def mkT (n:Nat) (l:List (Nat × AV)):List AV:=l.foldl (fun tm p=>tm.set p.1 p.2) (au n uA)
def wH (k:Nat):AH:=[.arg eG,.map [] 0,.cells ((bp 25).map fun j=>if j < k then .str (dG.getD j eS0) else .str eS0) 9]
noncomputable def wk:Code:=f130.body.getD .skip
noncomputable def Js:Code:=aH [true,true,false,true,false,false] wk
noncomputable def sB:Code:=Tryz.f164.body.getD .skip
noncomputable def sf (k:Nat) (c:Code):Code:=aH (au k true) c
section
variable {P:Program} {C:Cfg P} {W:pB P} {pl:Nat->Option Way}
def pM (P:Program) (C:Cfg P) (W:pB P) (pl:Nat->Option Way) (n:Nat):Nat->Code->St->Option St
 | 0,_,s=>some s
 | k+1,.seq a b,s=>match evC P C (cX P C W n) pl n a s with
   | some (.normal,s')=>pM P C W pl n k b s'
   | _=>none
 | _+1,_,_=>none
theorem oA {n:Nat}:∀ (k:Nat) {c:Code} {s s':St},pM P C W pl n k c s=some s'->EvC P C W pl c s=EvC P C W pl (sf k c) s'
 | 0,c,s,s',h=>by cases h; rfl
 | k+1,c,s,s',h=>by
   cases c with
   | seq a b =>
     simp only [pM] at h
     split at h
     · rename_i s1 h1
       rw [rq,sH h1]
       exact oA k h
     · cases h
   | _=>simp [pM] at h
theorem ur {a b:Code} {s s':St} (h:EvC P C W pl a s=some (.normal,s')):EvC P C W pl (.seq a b) s=EvC P C W pl b s':=by rw [rq,h]; rfl
theorem sI {id:Nat} {b:Code} {s s':St} (h:EvC P C W pl b s=some (.exit id,s')):EvC P C W pl (.block id b) s=some (.normal,s'):=by rw [oB,h]; simp
end
noncomputable def wb0:Code:=aH [true,true,true,true,false,true,false,false] sB
noncomputable def wb3:Code:=aH [true,true,true,true,true,true,true,true,true,true,true,true,false,false,false] sB
def zw0:List AV:=mkT 106 [(0,(.str sW)),(2,.nilSlice),(3,I 0),(4,I 1),(5,.int .u8 0),(6,I 0)]
def yw0 (a0 a1 a2 a3 a4 a5 a6 a7 a8 a9:AV):List AV:=mkT 106 [(0,(.str sW)),(2,.nilSlice),(3,a0),(4,a1),(5,.int .u8 127),(6,a2),(7,a3),(8,a1),(13,a4),(14,(.str sW)),(15,I 132),(16,a5),(17,a6),(18,a2),(19,(.str sW)),(20,a6),(21,a3),(22,.int .u8 127),(23,a3),(24,.int .u8 127),(25,a3),(26,a7),(27,a8),(28,a1),(29,a0),(30,I 0),(31,a1),(32,a9),(33,I 0),(34,a0),(35,a1)]
def zw1:List AV:=yw0 (I 4) (I 0) (I 22) (.int .u8 116) (I 21) (.bool true) (I 21) (.ptr 0 116) (.int .u8 0) (I (-1))
theorem abz:lS aa K1 W0 plN 9 wb0 22 (zw0,[.arg eG,.map [] 0])=some (zw1,[.arg eG,.map [] 0]):=by kernel_rfl
def zw2:List AV:=yw0 (I 9) (I 0) (I 44) (.int .u8 104) (I 43) (.bool true) (I 43) (.ptr 0 104) (.int .u8 0) (I (-1))
theorem XD:lS aa K1 W0 plN 9 wb0 22 (zw1,[.arg eG,.map [] 0])=some (zw2,[.arg eG,.map [] 0]):=by kernel_rfl
def zw3:List AV:=yw0 (I 12) (I 0) (I 66) (.int .u8 116) (I 65) (.bool true) (I 65) (.ptr 0 116) (.int .u8 0) (I (-1))
theorem XB:lS aa K1 W0 plN 9 wb0 22 (zw2,[.arg eG,.map [] 0])=some (zw3,[.arg eG,.map [] 0]):=by kernel_rfl
def zw4:List AV:=yw0 (I 15) (I 0) (I 88) (.int .u8 108) (I 87) (.bool true) (I 87) (.ptr 0 108) (.int .u8 0) (I (-1))
theorem XA:lS aa K1 W0 plN 9 wb0 22 (zw3,[.arg eG,.map [] 0])=some (zw4,[.arg eG,.map [] 0]):=by kernel_rfl
def zw5:List AV:=yw0 (I 19) (I 1) (I 110) (.int .u8 32) (I 109) (.bool true) (I 109) (.ptr 0 32) (.int .u8 1) (I (-2))
theorem Xz:lS aa K1 W0 plN 9 wb0 22 (zw4,[.arg eG,.map [] 0])=some (zw5,[.arg eG,.map [] 0]):=by kernel_rfl
def zw6:List AV:=yw0 (I 25) (I 0) (I 132) (.int .u8 114) (I 131) (.bool true) (I 131) (.ptr 0 114) (.int .u8 0) (I (-1))
theorem Uj:lS aa K1 W0 plN 9 wb0 22 (zw5,[.arg eG,.map [] 0])=some (zw6,[.arg eG,.map [] 0]):=by kernel_rfl
def zw7:List AV:=yw0 (I 25) (I 0) (I 132) (.int .u8 114) (I 132) (.bool false) (I 131) (.ptr 0 114) (.int .u8 0) (I (-1))
theorem Ui:evC aa K1 (cX aa K1 W0 9) plN 9 (.loop wb0) (zw6,[.arg eG,.map [] 0])=some (.exit 0,(zw7,[.arg eG,.map [] 0])):=by kernel_rfl
def zw8:List AV:=mkT 106 [(0,(.str sW)),(2,.nilSlice),(3,I 25),(4,I 0),(5,.int .u8 127),(6,I 132),(7,.int .u8 114),(8,I 0),(9,.slice 2 0 1 25 25 true),(10,I 0),(11,I 0),(12,I 0),(13,I 132),(14,(.str sW)),(15,I 132),(16,.bool false),(17,I 131),(18,I 132),(19,(.str sW)),(20,I 131),(21,.int .u8 114),(22,.int .u8 127),(23,.int .u8 114),(24,.int .u8 127),(25,.int .u8 114),(26,.ptr 0 114),(27,.int .u8 0),(28,I 0),(29,I 25),(30,I 0),(31,I 0),(32,I (-1)),(33,I 0),(34,I 25),(35,I 0),(36,.int .u8 127),(37,.bool false),(40,I 25),(41,.slice 2 0 1 25 25 true),(42,I 0),(43,(.str sW)),(44,I 132),(45,.bool true),(46,.bool true),(47,(.str sW)),(48,I 0),(49,.int .u8 102),(50,.ptr 0 102),(51,.int .u8 0),(52,.bool false),(53,.bool false),(56,I 0)]
def yw1 (a0 a1 a2 a3 a4 a5 a6 a7 a8 a9 a10 a11 a12 a13 a14 a15 a16 a17 a18:AV):List AV:=mkT 106 [(0,(.str sW)),(2,.nilSlice),(3,I 25),(4,I 0),(5,.int .u8 127),(6,I 132),(7,.int .u8 114),(8,I 0),(9,.slice 2 0 1 25 25 true),(10,a0),(11,a1),(12,a2),(13,I 132),(14,(.str sW)),(15,I 132),(16,.bool false),(17,I 131),(18,I 132),(19,(.str sW)),(20,I 131),(21,.int .u8 114),(22,.int .u8 127),(23,.int .u8 114),(24,.int .u8 127),(25,.int .u8 114),(26,.ptr 0 114),(27,.int .u8 0),(28,I 0),(29,I 25),(30,I 0),(31,I 0),(32,I (-1)),(33,I 0),(34,I 25),(35,I 0),(36,.int .u8 127),(37,.bool false),(40,I 25),(41,.slice 2 0 1 25 25 true),(42,I 0),(43,(.str sW)),(44,I 132),(45,.bool true),(46,.bool true),(47,(.str sW)),(48,I 0),(49,.int .u8 102),(50,.ptr 0 102),(51,.int .u8 0),(52,.bool false),(53,.bool false),(56,I 0),(57,a3),(58,(.str sW)),(59,I 132),(60,a4),(61,(.str sW)),(62,a5),(63,a6),(64,a7),(65,a8),(66,a9),(67,a10),(68,a11),(69,.slice 2 0 1 25 25 true),(70,a12),(71,(.str sW)),(72,a13),(73,a14),(74,a15),(75,a16),(76,a12),(77,a0),(78,a14),(79,a1),(80,a1),(81,(.str sW)),(82,I 132),(83,.bool true),(84,.bool true),(85,(.str sW)),(86,a1),(87,a17),(88,a18),(89,.int .u8 0),(90,.bool false),(91,.bool false),(94,a1)]
def zw9:List AV:=yw1 (I 3) (I 19) (I 22) (I 21) (.bool true) (I 21) (.int .u8 116) (.ptr 0 116) (.int .u8 0) (.bool true) (I 21) (I 22) (I 2) (I 12) (I 18) (.str (dG.getD 2 eS0)) (.ptr 2 2) (.int .u8 105) (.ptr 0 105)
theorem aby:lS aa K1 W0 plN 9 wb3 22 (zw8,wH 0)=some (zw9,wH 3):=by kernel_rfl
def W5:List AV:=yw1 (I 8) (I 42) (I 44) (I 43) (.bool true) (I 43) (.int .u8 104) (.ptr 0 104) (.int .u8 0) (.bool true) (I 43) (I 44) (I 7) (I 37) (I 41) (.str (dG.getD 7 eS0)) (.ptr 2 7) (.int .u8 119) (.ptr 0 119)
theorem Xy:lS aa K1 W0 plN 9 wb3 22 (zw9,wH 3)=some (W5,wH 8):=by kernel_rfl
def W4:List AV:=yw1 (I 11) (I 63) (I 66) (I 65) (.bool true) (I 65) (.int .u8 116) (.ptr 0 116) (.int .u8 0) (.bool true) (I 65) (I 66) (I 10) (I 54) (I 62) (.str (dG.getD 10 eS0)) (.ptr 2 10) (.int .u8 114) (.ptr 0 114)
theorem Xx:lS aa K1 W0 plN 9 wb3 22 (W5,wH 8)=some (W4,wH 11):=by kernel_rfl
def W3:List AV:=yw1 (I 14) (I 85) (I 88) (I 87) (.bool true) (I 87) (.int .u8 108) (.ptr 0 108) (.int .u8 0) (.bool true) (I 87) (I 88) (I 13) (I 78) (I 84) (.str (dG.getD 13 eS0)) (.ptr 2 13) (.int .u8 99) (.ptr 0 99)
theorem Xw:lS aa K1 W0 plN 9 wb3 22 (W4,wH 11)=some (W3,wH 14):=by kernel_rfl
def W2:List AV:=yw1 (I 19) (I 110) (I 110) (I 109) (.bool true) (I 109) (.int .u8 32) (.ptr 0 32) (.int .u8 1) (.bool false) (I 108) (I 109) (I 18) (I 105) (I 109) (.str (dG.getD 18 eS0)) (.ptr 2 18) (.int .u8 109) (.ptr 0 109)
theorem Xv:lS aa K1 W0 plN 9 wb3 22 (W3,wH 14)=some (W2,wH 19):=by kernel_rfl
def W1:List AV:=yw1 (I 24) (I 129) (I 132) (I 131) (.bool true) (I 131) (.int .u8 114) (.ptr 0 114) (.int .u8 0) (.bool true) (I 131) (I 132) (I 23) (I 126) (I 128) (.str (dG.getD 23 eS0)) (.ptr 2 23) (.int .u8 120) (.ptr 0 120)
theorem Uh:lS aa K1 W0 plN 9 wb3 22 (W2,wH 19)=some (W1,wH 24):=by kernel_rfl
def T5:List AV:=yw1 (I 24) (I 129) (I 132) (I 132) (.bool false) (I 131) (.int .u8 114) (.ptr 0 114) (.int .u8 0) (.bool true) (I 131) (I 132) (I 23) (I 126) (I 128) (.str (dG.getD 23 eS0)) (.ptr 2 23) (.int .u8 120) (.ptr 0 120)
theorem Ug:evC aa K1 (cX aa K1 W0 9) plN 9 (.loop wb3) (W1,wH 24)=some (.exit 4,(T5,wH 24)):=by kernel_rfl
def T4:List AV:=mkT 106 [(0,(.str sW))]
def TZ:List AV:=mkT 106 [(0,(.str sW)),(2,.nilSlice),(3,I 0),(4,I 1),(5,.int .u8 0)]
theorem w_a:pM aa K1 W0 plN 9 4 sB (T4,[.arg eG,.map [] 0])=some (TZ,[.arg eG,.map [] 0]):=by kernel_rfl
theorem w_b:pM aa K1 W0 plN 9 1 (aH [true,true,true,true,false] sB) (TZ,[.arg eG,.map [] 0])=some (zw0,[.arg eG,.map [] 0]):=by kernel_rfl
theorem w_c:pM aa K1 W0 plN 9 7 (sf 5 sB) (zw7,[.arg eG,.map [] 0])=some (zw8,wH 0):=by kernel_rfl
def WZ:List AV:=mkT 106 [(0,(.str sW)),(2,.slice 2 0 1 25 25 true),(3,I 25),(4,I 0),(5,.int .u8 127),(6,I 132),(7,.int .u8 114),(8,I 0),(9,.slice 2 0 1 25 25 true),(10,I 24),(11,I 129),(12,I 132),(13,I 132),(14,(.str sW)),(15,I 132),(16,.bool false),(17,I 131),(18,I 132),(19,(.str sW)),(20,I 131),(21,.int .u8 114),(22,.int .u8 127),(23,.int .u8 114),(24,.int .u8 127),(25,.int .u8 114),(26,.ptr 0 114),(27,.int .u8 0),(28,I 0),(29,I 25),(30,I 0),(31,I 0),(32,I (-1)),(33,I 0),(34,I 25),(35,I 0),(36,.int .u8 127),(37,.bool false),(40,I 25),(41,.slice 2 0 1 25 25 true),(42,I 0),(43,(.str sW)),(44,I 132),(45,.bool true),(46,.bool true),(47,(.str sW)),(48,I 0),(49,.int .u8 102),(50,.ptr 0 102),(51,.int .u8 0),(52,.bool false),(53,.bool false),(56,I 0),(57,I 132),(58,(.str sW)),(59,I 132),(60,.bool false),(61,(.str sW)),(62,I 131),(63,.int .u8 114),(64,.ptr 0 114),(65,.int .u8 0),(66,.bool true),(67,I 131),(68,I 132),(69,.slice 2 0 1 25 25 true),(70,I 23),(71,(.str sW)),(72,I 126),(73,I 128),(74,.str (dG.getD 23 eS0)),(75,.ptr 2 23),(76,I 23),(77,I 24),(78,I 128),(79,I 129),(80,I 129),(81,(.str sW)),(82,I 132),(83,.bool true),(84,.bool true),(85,(.str sW)),(86,I 129),(87,.int .u8 120),(88,.ptr 0 120),(89,.int .u8 0),(90,.bool false),(91,.bool false),(94,I 129),(95,I 129),(96,(.str sW)),(97,I 132),(98,.bool true),(99,.slice 2 0 1 25 25 true),(100,I 24),(101,(.str sW)),(102,I 129),(103,.str (dG.getD 24 eS0)),(104,.ptr 2 24),(105,.slice 2 0 1 25 25 true)]
theorem w_d:evC aa K1 (cX aa K1 W0 9) plN 9 (sf 13 sB) (T5,wH 24)=some (.ret,(WZ,wH 25)):=by kernel_rfl
theorem Pe:EvC aa K1 W0 plN (.loop wb0) (zw0,[.arg eG,.map [] 0])=some (.exit 0,(zw7,[.arg eG,.map [] 0])):=
 (g6 _ abz).trans <| (g6 _ XD).trans <| (g6 _ XB).trans <| (g6 _ XA).trans <| (g6 _ Xz).trans <| (g6 _ Uj).trans <| sH Ui
theorem Pd:EvC aa K1 W0 plN (.loop wb3) (zw8,wH 0)=some (.exit 4,(T5,wH 24)):=
 (g6 _ aby).trans <| (g6 _ Xy).trans <| (g6 _ Xx).trans <| (g6 _ Xw).trans <| (g6 _ Xv).trans <| (g6 _ Uh).trans <| sH Ug
theorem Uf:EvC aa K1 W0 plN sB (T4,[.arg eG,.map [] 0])=some (.ret,(WZ,wH 25)):=by
 rw [oA _ w_a];rw [show sf 4 sB=.seq (aH [true,true,true,true,false] sB) (sf 5 sB) by kernel_rfl];have h1:EvC aa K1 W0 plN (aH [true,true,true,true,false] sB) (TZ,[.arg eG,.map [] 0])=some (.normal,(zw7,[.arg eG,.map [] 0])):=by rw [oA _ w_b,show sf 1 (aH [true,true,true,true,false] sB)=.block 0 (.loop wb0) by kernel_rfl];exact sI Pe
 rw [ur h1,oA _ w_c,show sf 7 (sf 5 sB)=.seq (.block 4 (.loop wb3)) (sf 13 sB) by kernel_rfl,ur (sI Pd)];exact sH w_d
theorem VP (args:List AV) (H:AH):Ev aa K1 W0 164 args H=(EvC aa K1 W0 plN sB (args++au (106 - args.length) uA,H)).bind fun r=>match r with | (.normal,s)=>some ((s.1.getD 2 uA),s.2) | (.ret,s)=>some ((s.1.getD 2 uA),s.2) | _=>none:=dA func164 rfl rfl rfl args H rfl
theorem Ju:Ev aa K1 W0 164 [.str sW] [.arg eG,.map [] 0]=some (.slice 2 0 1 25 25 true,wH 25):=by
 rw [VP];have h0:([.str sW]:List AV)++au (106 - ([.str sW]:List AV).length) uA=T4:=by kernel_rfl
 rw [h0,Uf];first | rfl | (show _=_; kernel_rfl)
def mH (k:Nat):AH:=[.arg eG,.map (uD.take k) k,.cells ((bp 25).map fun j=>.str (dG.getD j eS0)) 9]
theorem m_a:pM aa K1 W0 plN 9 2 wk (mkT 15 [],[.arg eG])=some (mkT 15 [(0,.nilMap),(1,.map 1),(4,.map 1)],[.arg eG,.map [] 0]):=by kernel_rfl
theorem m_l:lS aa K1 W0 plN 9 Js 25 (mkT 15 [(0,.nilMap),(1,.map 1),(4,.map 1),(5,.slice 2 0 1 25 25 true),(6,I 25),(7,I 0)],mH 0)=some (mkT 15 [(0,.nilMap),(1,.map 1),(3,.str (dG.getD 24 eS0)),(4,.map 1),(5,.slice 2 0 1 25 25 true),(6,I 25),(7,I 25),(8,.bool true),(9,.ptr 2 24),(10,.str (dG.getD 24 eS0)),(11,.map 1),(12,.str (dG.getD 24 eS0)),(13,I 25)],mH 25):=by kernel_rfl
theorem Yf:evC aa K1 (cX aa K1 W0 9) plN 9 (.loop Js) (mkT 15 [(0,.nilMap),(1,.map 1),(3,.str (dG.getD 24 eS0)),(4,.map 1),(5,.slice 2 0 1 25 25 true),(6,I 25),(7,I 25),(8,.bool true),(9,.ptr 2 24),(10,.str (dG.getD 24 eS0)),(11,.map 1),(12,.str (dG.getD 24 eS0)),(13,I 25)],mH 25)=some (.exit 0,(mkT 15 [(0,.nilMap),(1,.map 1),(3,.str (dG.getD 24 eS0)),(4,.map 1),(5,.slice 2 0 1 25 25 true),(6,I 25),(7,I 25),(8,.bool false),(9,.ptr 2 24),(10,.str (dG.getD 24 eS0)),(11,.map 1),(12,.str (dG.getD 24 eS0)),(13,I 25)],mH 25)):=by kernel_rfl
theorem m_d:evC aa K1 (cX aa K1 W0 9) plN 9 (sf 3 wk) (mkT 15 [(0,.nilMap),(1,.map 1),(3,.str (dG.getD 24 eS0)),(4,.map 1),(5,.slice 2 0 1 25 25 true),(6,I 25),(7,I 25),(8,.bool false),(9,.ptr 2 24),(10,.str (dG.getD 24 eS0)),(11,.map 1),(12,.str (dG.getD 24 eS0)),(13,I 25)],mH 25)=some (.ret,(mkT 15 [(0,.map 1),(1,.map 1),(3,.str (dG.getD 24 eS0)),(4,.map 1),(5,.slice 2 0 1 25 25 true),(6,I 25),(7,I 25),(8,.bool false),(9,.ptr 2 24),(10,.str (dG.getD 24 eS0)),(11,.map 1),(12,.str (dG.getD 24 eS0)),(13,I 25),(14,.map 1)],mH 25)):=by kernel_rfl
theorem abY:d4 aa 164 (wH 25) (.slice 2 0 1 25 25 true)=some (I 25):=by kernel_rfl
theorem ZZ (C:Cfg aa) (gl:GL) (slot:Option Nat) (tm:List AV) (H:AH) (o:Oper) (xs:Array Operand) (ats:Array TypeId):gk aa C slot (cY gl tm) o ⟨.value (.func 164),xs,ats⟩ H=(evL (cY gl tm) xs.toList).map fun vs=>(.enter 164 vs,H):=bM (by rw [func164]; rfl) C slot _ H o xs ats rfl
theorem Ye:EvC aa K1 W0 plN (aH [true,true,false,false] wk) (mkT 15 [(0,.nilMap),(1,.map 1),(4,.map 1)],[.arg eG,.map [] 0])=some (.normal,(mkT 15 [(0,.nilMap),(1,.map 1),(4,.map 1),(5,.slice 2 0 1 25 25 true),(6,I 25),(7,I 0)],mH 0)):=by
 have h:=Ju;have hw:wH 25=mH 0:=by kernel_rfl
 have hl:=abY;rw [hw] at h hl;obtain ⟨tm,htm⟩:∃ tm,tm=mkT 15 [(0,.nilMap),(1,.map 1),(4,.map 1)]:=⟨_,rfl⟩;have hlen:tm.length=15:=by rw [htm]; kernel_rfl
 rw [<-htm];generalize [bm.arg eG,bm.map [] 0]=H0 at h;generalize mH 0=H1 at h hl;simp -implicitDefEqProofs only [wk,f130,aH,fE,hlen,↓ZZ,↓rq,↓uq,↓uu,↓xj,↓oB,↓rA,↓jr,↓qP,↓rr,↓kG,↓cD,↓uw,↓o9,↓nH,↓k9,↓wX,↓qR,↓tT,↓o8,↓wW,↓qT,↓tU,↓tW,↓wV,↓o7,↓tV,↓mh,↓mg,↓nG,↓o6,↓wY,↓qE,↓s4,↓oK,↓nh,↓k6,↓CQ,↓CR,↓ny,↓d7,↓cM,GF,d7,cM,BJ,w9,w7,BK,w6,w4,ik,wT,tM,tL,Bz,CQ,CR,ny,jr,↓oF,↓l5,↓uf,↓pf,↓ug,↓qW,↓q9,↓xg,↓q8,↓ml,↓lh,↓qZ,↓lf,↓qY,↓nK,↓pe,↓ld,↓lJ,↓mm,↓kI,↓qX,↓xf,↓uj,↓fO,↓bS,↓wL,↓qH,↓s7,↓ky,↓wK,↓qI,↓s8,↓tb,↓wJ,↓oN,↓s9,↓ma,↓l9,↓nk,↓oM, BB,tS,nr,pW,wS,mc,oS,qJ,qK,dK,Ae,aq,ax,cH,Bp,Bq,Br,Bs,Bt,Bo,Bu,Bn,evL,evO,evP,ne_eq,not_false_eq_true,if_true,if_false,reduceCtorEq,ite_true,ite_false,reduceIte,wP,AV.cells,and_true,true_and,and_self,decide_true,decide_false,↓oE,wE,nI,mi,qx,iD,pg,aR,aQ,beq_self_eq_true,xz,wF,jE,gj,td,tc,sO,sM,spl,gL,pE,AV.one,oD,bf,fG,bd,gx,lx,qy,iC,lZ,uC,gv,D0,ib,jO,nL,sJ,qv,bg,aK,cR,gH,ig,iM,aD,kK,uz,cN,oC,RN,RM,bK];generalize hE:Ev aa K1 W0 164 _ H0=E;have hE2:E=some (.slice 2 0 1 25 25 true,H1):=hE.symm.trans h;rw [hE2];simp -implicitDefEqProofs only [hlen,hl,↓rq,↓uq,↓uu,↓xj,↓oB,↓rA,↓jr,↓qP,↓rr,↓kG,↓cD,↓uw,↓o9,↓nH,↓k9,↓wX,↓qR,↓tT,↓o8,↓wW,↓qT,↓tU,↓tW,↓wV,↓o7,↓tV,↓mh,↓mg,↓nG,↓o6,↓wY,↓qE,↓s4,↓oK,↓nh,↓k6,↓CQ,↓CR,↓ny,↓d7,↓cM,GF,d7,cM,BJ,w9,w7,BK,w6,w4,ik,wT,tM,tL,Bz,CQ,CR,ny,jr,↓oF,↓l5,↓uf,↓pf,↓ug,↓qW,↓q9,↓xg,↓q8,↓ml,↓lh,↓qZ,↓lf,↓qY,↓nK,↓pe,↓ld,↓lJ,↓mm,↓kI,↓qX,↓xf,↓uj,↓fO,↓bS,↓wL,↓qH,↓s7,↓ky,↓wK,↓qI,↓s8,↓tb,↓wJ,↓oN,↓s9,↓ma,↓l9,↓nk,↓oM, BB,tS,nr,pW,wS,mc,oS,qJ,qK,dK,Ae,aq,ax,cH,Bp,Bq,Br,Bs,Bt,Bo,Bu,Bn,evL,evO,evP,ne_eq,not_false_eq_true,if_true,if_false,reduceCtorEq,ite_true,ite_false,reduceIte,wP,AV.cells,and_true,true_and,and_self,decide_true,decide_false,↓oE,wE,nI,mi,qx,iD,pg,aR,aQ,beq_self_eq_true,xz,wF,jE,gj,td,tc,sO,sM,spl,gL,pE,AV.one,oD,bf,fG,bd,gx,lx,qy,iC,lZ,uC,gv,D0,ib,jO,nL,sJ,qv,bg,aK,cR,gH,ig,iM,aD,kK,uz,cN,oC,RN,RM,bK];rw [htm];first | (show _=_; kernel_rfl) | rfl
theorem VQ (args:List AV) (H:AH):Ev aa K1 W0 130 args H=(EvC aa K1 W0 plN wk (args++au (15 - args.length) uA,H)).bind fun r=>match r with | (.normal,s)=>some ((s.1.getD 0 uA),s.2) | (.ret,s)=>some ((s.1.getD 0 uA),s.2) | _=>none:=dA Tryz.func130 rfl rfl rfl args H rfl
theorem Yg:Ev aa K1 W0 130 [] [.arg eG]=some (.map 1,mH 25):=by
 rw [VQ];have h0:([]:List AV)++au (15 - ([]:List AV).length) uA=mkT 15 []:=by kernel_rfl
 rw [h0,oA _ m_a,show sf 2 wk=.seq (aH [true,true,false] wk) (sf 3 wk) by kernel_rfl];have h1:EvC aa K1 W0 plN (aH [true,true,false] wk) (mkT 15 [(0,.nilMap),(1,.map 1),(4,.map 1)],[.arg eG,.map [] 0])=some (.normal,(mkT 15 [(0,.nilMap),(1,.map 1),(3,.str (dG.getD 24 eS0)),(4,.map 1),(5,.slice 2 0 1 25 25 true),(6,I 25),(7,I 25),(8,.bool false),(9,.ptr 2 24),(10,.str (dG.getD 24 eS0)),(11,.map 1),(12,.str (dG.getD 24 eS0)),(13,I 25)],mH 25)):=by rw [show aH [true,true,false] wk=.seq (aH [true,true,false,false] wk) (.block 0 (.loop Js)) by kernel_rfl,ur Ye];exact sI ((g6 _ m_l).trans (sH Yf))
 rw [ur h1,sH m_d];first | (show _=_; kernel_rfl) | rfl
theorem BU (gl:GL) (w0:World) (Pr:Nat->Prop) (hpin:oz 0 eG w0 Pr):iL aa gl w0 Pr wG:=CS (C:=K1) (f:=130) (i:=1) (n:=25) (es:=uD) FL Yg (by kernel_rfl) (by kernel_rfl) gl w0 Pr hpin
#print axioms BU
end Go.Dv
namespace Go.Dv
open Go.Proofs
theorem Ea (gl:GL) (w0:World) (Pr:Nat->Prop) (hpin:oz 0 eG w0 Pr):iL aa gl w0 Pr wG:=BU gl w0 Pr hpin
def YP:List (List Nat × Int):=[([0,8],0),([0,1],0),([0,1],3),([0,1,2],20),([0],4),([0,7],0),([0,1,3],0),([1,2,3],0),([1,2,3,4],0),([5],0),([0,1,5,4],0),([0,6],0),([1,6],0),([9],0),([1,9,10],0),([],0)]
def Bh (k:Nat):List AV:=match YP[k]? with
 | some p=>((bp 11).map fun i=>AV.bool (p.1.contains i))++[.int .i64 p.2]
 | none=>[]
def gN:List AV:=(bp 16).flatMap Bh
theorem Iu:[((87:FuncId),([]:List AV),AV.agg gN)].all (sA aa K1 W0 [.arg eG] 20)=true:=by kernel_rfl
def Bi:cz:=qU [(87,[],.agg gN)]
theorem EZ (gl:GL) (w0:World) (Pr:Nat->Prop) (hpin:oz 0 eG w0 Pr):iL aa gl w0 Pr Bi:=BD (C:=K1) FL Iu gl w0 Pr hpin
def Kl:List Nat:=[9,350,8,12,13,16,18,20,21,24,25,26,35,36,37,38,39,43,49,54,56,57,58,59,60,61,62,63,65,66,67,68,69,70,71,73,74,81,84,85,86,88,89,90,91,92,96,97,98,99,100,101,102,104,105,106,107,108,119,120,122,123,129,131,132,133,149,150,151,165,190]
def QH:cz:=orElse wG Bi
theorem zV {f:Nat} (hf:f∉[87,130]) (args:List AV) (H:AH):QH f args H=none:=by
 simp only [List.mem_cons,List.not_mem_nil,or_false,not_or] at hf;unfold QH orElse wG Bi qU;have h87:(f == 87)=false:=by simp [hf.1]
 cases args with
 | nil=>simp [hf.2,h87]
 | cons x l=>simp [h87]
theorem Ic:(Kl.all fun x=>!([87,130].contains x))=true:=by decide
theorem QG (f:FuncId) (args:List AV) (H:AH) (v:AV) (H':AH) (hr:Kl.contains f=true) (h:QH f args H=some (v,H')):H'=H:=by have h1:=List.all_eq_true.1 Ic f (by simpa using hr);rw [zV (by simpa using h1)] at h;cases h
theorem Im {P:Program} (ats:Array TypeId) (ty:TypeId) (a:Addr) (x y:String) (w:World):(Builtin.ssaWrapNilChk_ ats ty #[.pointer (some a),strVal x,strVal y]).run P w=.ok (.pointer (some a)) w:=rfl
theorem EV {P:Program} {t elem:TypeId} {name:String} {f:FuncId} {n:Nat} (ti:TypeInfo) (hi:P.info? t=some ti) (hm:(ti.methods.find? (·.name == name)).map (fun m=>(m.path,m.func))=some (#[],some (f,false))) (hu:P.underlying t=some (.pointer elem))
   (a:Addr) (u:Value) (w:World) (h:(loadVar elem a).run P w=.ok u w):(method (n+1) t (.pointer (some a)) name).run P w=.ok (f,u) w:=by obtain ⟨m,hm,e⟩:=ah.1 hm;obtain ⟨hp,hf⟩:=Prod.mk.inj e;simp only [method,Sem.run_bind,pP hi,Result.andThen_ok,hm,hp,hf,follow,Sem.run_pure,receiverAt,bA hu,Place.get,Im,asAddr,h,Array.isEmpty_empty,if_true]
theorem mOk (t:TypeId) (n:String) (f:FuncId) (h:(if t=100 then (if n = "Push" then some 352 else if n = "Pop" then some 351 else none) else none:Option FuncId)=some f) (v:Value) (w:World):(method (aa.types.size+Made.depth) t v n).run aa w=.ok (f,v) w:=by
 split at h
 · rename_i e;subst e;split at h
   · rename_i e; subst e; cases h; kernel_rfl
   · split at h
     · rename_i e; subst e; cases h; kernel_rfl
     · cases h
 · cases h
theorem mD (t:TypeId) (n:String) (f:FuncId) (e:TypeId) (h:(if t=100 then (if n = "Len" then some (49,101) else if n = "Less" then some (350,101) else if n = "Swap" then some (353,101) else none) else none:Option (FuncId × TypeId))=some (f,e)) (a:Addr) (u:Value) (w:World) (hl:(loadVar e a).run aa w=.ok u w):(method (aa.types.size+Made.depth) t (.pointer (some a)) n).run aa w=.ok (f,u) w:=by
 have hd:aa.types.size+Made.depth=(aa.types.size+Made.depth - 1)+1:=by kernel_rfl
 rw [hd];have hi:aa.info? 100=some ((aa.info? 100).getD default):=by kernel_rfl
 split at h
 · rename_i e;subst e;split at h
   · rename_i e; subst e; cases h; exact EV _ hi (by kernel_rfl) (by kernel_rfl) a u w hl
   · split at h
     · rename_i e; subst e; cases h; exact EV _ hi (by kernel_rfl) (by kernel_rfl) a u w hl
     · split at h
       · rename_i e; subst e; cases h; exact EV _ hi (by kernel_rfl) (by kernel_rfl) a u w hl
       · cases h
 · cases h
noncomputable def C0:Cfg aa:={ gl:=fun _=>none,pin:=oz 0 eG,orc:=QH,orcOk:=fun w0 Pr hp=>Ii (Ea _ w0 Pr hp) (EZ _ w0 Pr hp),meth:=fun t n=>if t=100 then (if n = "Push" then some 352 else if n = "Pop" then some 351 else none) else none,methOk:=mOk,methD:=fun t n=>if t=100 then (if n = "Len" then some (49,101) else if n = "Less" then some (350,101) else if n = "Swap" then some (353,101) else none) else none,methDOk:=mD,name:=F5,mixed:=Tryz.checked.mixed,reads:=fun f=>Kl.contains f,orcRo:=QG,pinRo:=fun w0 Pr φ H w h hW=>oz.later h hW }
theorem cL {f:Nat} (hf:f∉[87,130]) (args:List AV) (H:AH):C0.orc f args H=none:=zV hf args H
theorem oq (H:AH):Ev aa C0 W0 87 [] H=some (.agg gN,H):=OO rfl
theorem Jr (H:AH):Ev aa C0 W0 130 [] H=some (.map H.length,H++[.map uD 25]):=OO rfl
theorem rU (H:AH) (i k:Nat):vT aa C0 100 (.ptr i k) "Len" H=(ldA aa 101 H i k).map fun u=>(49,u):=rfl
theorem nQ (H:AH) (i k:Nat):vT aa C0 100 (.ptr i k) "Less" H=(ldA aa 101 H i k).map fun u=>(350,u):=rfl
theorem nO (H:AH) (i k:Nat):vT aa C0 100 (.ptr i k) "Swap" H=(ldA aa 101 H i k).map fun u=>(353,u):=rfl
theorem nP (H:AH) (v:AV):vT aa C0 100 v "Push" H=some (352,v):=rfl
theorem rT (H:AH) (v:AV):vT aa C0 100 v "Pop" H=some (351,v):=rfl
theorem YX (i k es len cap:Nat) (ex:Bool) (kk:IntKind) (n:Int):aC aa 22 (.slice i k es len cap ex) (.int kk n)=if 0<=n/\n < len/\5=es then some (.ptr i (k+n.toNat * es)) else none:=by kernel_rfl
theorem Vz (H:AH) (i k es len cap:Nat) (ex:Bool):d4 aa 22 H (.slice i k es len cap ex)=some (.int .i64 len):=by kernel_rfl
theorem Si (H:AH):d4 aa 22 H .nilSlice=some (.int .i64 0):=by kernel_rfl
theorem YW (i k es len cap:Nat) (ex:Bool) (kk:IntKind) (n:Int):aC aa 24 (.slice i k es len cap ex) (.int kk n)=if 0<=n/\n < len/\1=es then some (.ptr i (k+n.toNat * es)) else none:=by kernel_rfl
theorem ab6 (H:AH) (i k es len cap:Nat) (ex:Bool):d4 aa 24 H (.slice i k es len cap ex)=some (.int .i64 len):=by kernel_rfl
theorem Yq (H:AH):d4 aa 24 H .nilSlice=some (.int .i64 0):=by kernel_rfl
theorem acj (i k es len cap:Nat) (ex:Bool) (kk:IntKind) (n:Int):aC aa 25 (.slice i k es len cap ex) (.int kk n)=if 0<=n/\n < len/\1=es then some (.ptr i (k+n.toNat * es)) else none:=by kernel_rfl
theorem ab5 (H:AH) (i k es len cap:Nat) (ex:Bool):d4 aa 25 H (.slice i k es len cap ex)=some (.int .i64 len):=by kernel_rfl
theorem Yp (H:AH):d4 aa 25 H .nilSlice=some (.int .i64 0):=by kernel_rfl
theorem YV (i k es len cap:Nat) (ex:Bool) (kk:IntKind) (n:Int):aC aa 30 (.slice i k es len cap ex) (.int kk n)=if 0<=n/\n < len/\1=es then some (.ptr i (k+n.toNat * es)) else none:=by kernel_rfl
theorem QZ (H:AH) (i k es len cap:Nat) (ex:Bool):d4 aa 30 H (.slice i k es len cap ex)=some (.int .i64 len):=by kernel_rfl
theorem Ga (H:AH):d4 aa 30 H .nilSlice=some (.int .i64 0):=by kernel_rfl
theorem aci (i k es len cap:Nat) (ex:Bool) (kk:IntKind) (n:Int):aC aa 31 (.slice i k es len cap ex) (.int kk n)=if 0<=n/\n < len/\9=es then some (.ptr i (k+n.toNat * es)) else none:=by kernel_rfl
theorem Yn (H:AH) (i k es len cap:Nat) (ex:Bool):d4 aa 31 H (.slice i k es len cap ex)=some (.int .i64 len):=by kernel_rfl
theorem Ym (H:AH):d4 aa 31 H .nilSlice=some (.int .i64 0):=by kernel_rfl
theorem YU (i k es len cap:Nat) (ex:Bool) (kk:IntKind) (n:Int):aC aa 32 (.slice i k es len cap ex) (.int kk n)=if 0<=n/\n < len/\1=es then some (.ptr i (k+n.toNat * es)) else none:=by kernel_rfl
theorem ab4 (H:AH) (i k es len cap:Nat) (ex:Bool):d4 aa 32 H (.slice i k es len cap ex)=some (.int .i64 len):=by kernel_rfl
theorem Yl (H:AH):d4 aa 32 H .nilSlice=some (.int .i64 0):=by kernel_rfl
theorem acf (i k es len cap:Nat) (ex:Bool) (kk:IntKind) (n:Int):aC aa 62 (.slice i k es len cap ex) (.int kk n)=if 0<=n/\n < len/\2=es then some (.ptr i (k+n.toNat * es)) else none:=by kernel_rfl
theorem ab2 (H:AH) (i k es len cap:Nat) (ex:Bool):d4 aa 62 H (.slice i k es len cap ex)=some (.int .i64 len):=by kernel_rfl
theorem Yk (H:AH):d4 aa 62 H .nilSlice=some (.int .i64 0):=by kernel_rfl
theorem ace (i k es len cap:Nat) (ex:Bool) (kk:IntKind) (n:Int):aC aa 63 (.slice i k es len cap ex) (.int kk n)=if 0<=n/\n < len/\2=es then some (.ptr i (k+n.toNat * es)) else none:=by kernel_rfl
theorem ab1 (H:AH) (i k es len cap:Nat) (ex:Bool):d4 aa 63 H (.slice i k es len cap ex)=some (.int .i64 len):=by kernel_rfl
theorem Yj (H:AH):d4 aa 63 H .nilSlice=some (.int .i64 0):=by kernel_rfl
theorem acd (i k es len cap:Nat) (ex:Bool) (kk:IntKind) (n:Int):aC aa 64 (.slice i k es len cap ex) (.int kk n)=if 0<=n/\n < len/\8=es then some (.ptr i (k+n.toNat * es)) else none:=by kernel_rfl
theorem ab0 (H:AH) (i k es len cap:Nat) (ex:Bool):d4 aa 64 H (.slice i k es len cap ex)=some (.int .i64 len):=by kernel_rfl
theorem Yi (H:AH):d4 aa 64 H .nilSlice=some (.int .i64 0):=by kernel_rfl
theorem TA (i k es len cap:Nat) (ex:Bool) (kk:IntKind) (n:Int):aC aa 164 (.slice i k es len cap ex) (.int kk n)=if 0<=n/\n < len/\1=es then some (.ptr i (k+n.toNat * es)) else none:=by kernel_rfl
theorem Sj (H:AH) (i k es len cap:Nat) (ex:Bool):d4 aa 164 H (.slice i k es len cap ex)=some (.int .i64 len):=by kernel_rfl
theorem VA (H:AH):d4 aa 164 H .nilSlice=some (.int .i64 0):=by kernel_rfl
theorem ld3 (H:AH) (i k:Nat):ldA aa 3 H i k=(ak H i k 1).bind (·.head?):=by kernel_rfl
theorem ld4 (H:AH) (i k:Nat):ldA aa 4 H i k=(ak H i k 1).bind (·.head?):=by kernel_rfl
theorem ld5 (H:AH) (i k:Nat):ldA aa 5 H i k=(ak H i k 1).bind (·.head?):=by kernel_rfl
theorem ld9 (H:AH) (i k:Nat):ldA aa 9 H i k=(ak H i k 1).bind (·.head?):=by kernel_rfl
theorem YN (H:AH) (i k:Nat):ldA aa 21 H i k=(ak H i k 1).bind (·.head?):=by kernel_rfl
theorem YM (H:AH) (i k:Nat):ldA aa 22 H i k=(ak H i k 1).bind (·.head?):=by kernel_rfl
theorem YL (H:AH) (i k:Nat):ldA aa 24 H i k=(ak H i k 1).bind (·.head?):=by kernel_rfl
theorem YK (H:AH) (i k:Nat):ldA aa 25 H i k=(ak H i k 1).bind (·.head?):=by kernel_rfl
theorem YI (H:AH) (i k:Nat):ldA aa 30 H i k=(ak H i k 1).bind (·.head?):=by kernel_rfl
theorem YH (H:AH) (i k:Nat):ldA aa 31 H i k=(ak H i k 1).bind (·.head?):=by kernel_rfl
theorem YG (H:AH) (i k:Nat):ldA aa 32 H i k=(ak H i k 1).bind (·.head?):=by kernel_rfl
theorem YF (H:AH) (i k:Nat):ldA aa 37 H i k=(ak H i k 1).bind (·.head?):=by kernel_rfl
theorem YE (H:AH) (i k:Nat):ldA aa 38 H i k=(ak H i k 1).bind (·.head?):=by kernel_rfl
theorem YD (H:AH) (i k:Nat):ldA aa 62 H i k=(ak H i k 1).bind (·.head?):=by kernel_rfl
theorem YC (H:AH) (i k:Nat):ldA aa 63 H i k=(ak H i k 1).bind (·.head?):=by kernel_rfl
theorem YB (H:AH) (i k:Nat):ldA aa 64 H i k=(ak H i k 1).bind (·.head?):=by kernel_rfl
theorem Sm (H:AH) (i k:Nat):ldA aa 164 H i k=(ak H i k 1).bind (·.head?):=by kernel_rfl
theorem YJ (H:AH) (i k:Nat):ldA aa 27 H i k=(ak H i k 7).map .agg:=by kernel_rfl
theorem It (H:AH) (i k:Nat):ldA aa 29 H i k=(ak H i k 10).map .agg:=by kernel_rfl
theorem Q1 (H:AH) (i k:Nat):ldA aa 34 H i k=(ak H i k 9).map .agg:=by kernel_rfl
theorem YA (H:AH) (i k:Nat):ldA aa 66 H i k=(ak H i k 5).map .agg:=by kernel_rfl
theorem Yx (H:AH) (i k:Nat):ldA aa 74 H i k=(ak H i k 2).map .agg:=by kernel_rfl
theorem Yw (H:AH) (i k:Nat):ldA aa 77 H i k=(ak H i k 2).map .agg:=by kernel_rfl
theorem Yv (H:AH) (i k:Nat):ldA aa 80 H i k=(ak H i k 8).map .agg:=by kernel_rfl
theorem Yz (H:AH) (i k:Nat):ldA aa 69 H i k=(ak H i k 16).map .agg:=by kernel_rfl
theorem Yy (H:AH) (i k:Nat):ldA aa 71 H i k=(ak H i k 28).map .agg:=by kernel_rfl
theorem So (H:AH) (i k:Nat):ldA aa 152 H i k=(ak H i k 12).map .agg:=by kernel_rfl
theorem nT (i k:Nat):aL aa 29 (.ptr i k) 0=some (.ptr i k):=by kernel_rfl
theorem yP (i k:Nat):aL aa 29 (.ptr i k) 1=some (.ptr i (k+1)):=by kernel_rfl
theorem yO (i k:Nat):aL aa 29 (.ptr i k) 2=some (.ptr i (k+2)):=by kernel_rfl
theorem E7 (i k:Nat):aL aa 29 (.ptr i k) 3=some (.ptr i (k+3)):=by kernel_rfl
theorem ML (i k:Nat):aL aa 34 (.ptr i k) 0=some (.ptr i k):=by kernel_rfl
theorem MK (i k:Nat):aL aa 34 (.ptr i k) 1=some (.ptr i (k+1)):=by kernel_rfl
theorem MJ (i k:Nat):aL aa 34 (.ptr i k) 2=some (.ptr i (k+2)):=by kernel_rfl
theorem MI (i k:Nat):aL aa 34 (.ptr i k) 3=some (.ptr i (k+3)):=by kernel_rfl
theorem MH (i k:Nat):aL aa 34 (.ptr i k) 4=some (.ptr i (k+4)):=by kernel_rfl
theorem MG (i k:Nat):aL aa 34 (.ptr i k) 5=some (.ptr i (k+5)):=by kernel_rfl
theorem MF (i k:Nat):aL aa 34 (.ptr i k) 6=some (.ptr i (k+6)):=by kernel_rfl
theorem ME (i k:Nat):aL aa 34 (.ptr i k) 7=some (.ptr i (k+7)):=by kernel_rfl
theorem MD (i k:Nat):aL aa 34 (.ptr i k) 8=some (.ptr i (k+8)):=by kernel_rfl
theorem MC (i k:Nat):aL aa 66 (.ptr i k) 0=some (.ptr i k):=by kernel_rfl
theorem MB (i k:Nat):aL aa 66 (.ptr i k) 1=some (.ptr i (k+1)):=by kernel_rfl
theorem MA (i k:Nat):aL aa 66 (.ptr i k) 2=some (.ptr i (k+2)):=by kernel_rfl
theorem Mz (i k:Nat):aL aa 66 (.ptr i k) 3=some (.ptr i (k+3)):=by kernel_rfl
theorem My (i k:Nat):aL aa 66 (.ptr i k) 4=some (.ptr i (k+4)):=by kernel_rfl
theorem Ml (i k:Nat):aL aa 80 (.ptr i k) 0=some (.ptr i k):=by kernel_rfl
theorem Mk (i k:Nat):aL aa 80 (.ptr i k) 1=some (.ptr i (k+1)):=by kernel_rfl
theorem Mj (i k:Nat):aL aa 80 (.ptr i k) 2=some (.ptr i (k+2)):=by kernel_rfl
theorem Mi (i k:Nat):aL aa 80 (.ptr i k) 3=some (.ptr i (k+3)):=by kernel_rfl
theorem Mh (i k:Nat):aL aa 80 (.ptr i k) 4=some (.ptr i (k+4)):=by kernel_rfl
theorem Mg (i k:Nat):aL aa 80 (.ptr i k) 5=some (.ptr i (k+5)):=by kernel_rfl
theorem Mf (i k:Nat):aL aa 80 (.ptr i k) 6=some (.ptr i (k+6)):=by kernel_rfl
theorem Me (i k:Nat):aL aa 80 (.ptr i k) 7=some (.ptr i (k+7)):=by kernel_rfl
theorem MT (i k:Nat):aL aa 27 (.ptr i k) 0=some (.ptr i k):=by kernel_rfl
theorem MS (i k:Nat):aL aa 27 (.ptr i k) 1=some (.ptr i (k+1)):=by kernel_rfl
theorem MQ (i k:Nat):aL aa 27 (.ptr i k) 2=some (.ptr i (k+2)):=by kernel_rfl
theorem MP (i k:Nat):aL aa 27 (.ptr i k) 3=some (.ptr i (k+3)):=by kernel_rfl
theorem MO (i k:Nat):aL aa 27 (.ptr i k) 4=some (.ptr i (k+4)):=by kernel_rfl
theorem MN (i k:Nat):aL aa 27 (.ptr i k) 5=some (.ptr i (k+5)):=by kernel_rfl
theorem MM (i k:Nat):aL aa 27 (.ptr i k) 6=some (.ptr i (k+6)):=by kernel_rfl
theorem Mq (i k:Nat):aL aa 74 (.ptr i k) 0=some (.ptr i k):=by kernel_rfl
theorem Mo (i k:Nat):aL aa 74 (.ptr i k) 1=some (.ptr i (k+1)):=by kernel_rfl
theorem Mn (i k:Nat):aL aa 77 (.ptr i k) 0=some (.ptr i k):=by kernel_rfl
theorem Mm (i k:Nat):aL aa 77 (.ptr i k) 1=some (.ptr i (k+1)):=by kernel_rfl
theorem Mx (i k:Nat):aL aa 71 (.ptr i k) 0=some (.ptr i k):=by kernel_rfl
theorem Mw (i k:Nat):aL aa 71 (.ptr i k) 1=some (.ptr i (k+1)):=by kernel_rfl
theorem Mv (i k:Nat):aL aa 71 (.ptr i k) 2=some (.ptr i (k+2)):=by kernel_rfl
theorem Mu (i k:Nat):aL aa 71 (.ptr i k) 3=some (.ptr i (k+9)):=by kernel_rfl
theorem Mt (i k:Nat):aL aa 71 (.ptr i k) 4=some (.ptr i (k+10)):=by kernel_rfl
theorem Ms (i k:Nat):aL aa 71 (.ptr i k) 5=some (.ptr i (k+11)):=by kernel_rfl
theorem Mr (i k:Nat):aL aa 71 (.ptr i k) 6=some (.ptr i (k+27)):=by kernel_rfl
structure SlS (T es:Nat) (H:AH) (v:AV) (rows:List (List AV)):Prop where
 len:∀ G,d4 aa T G v=some (I rows.length)
 ix:∀ (j:Nat) (r:List AV),rows[j]? =some r->∃ i k,(∀ kk,aC aa T v (.int kk j)=some (.ptr i k))/\ak H i k es=some r
 old:(v=.nilSlice/\rows=[])∨∃ i k c e,v=.slice i k es rows.length c e/\okC H i=true/\ak H i k (rows.length * es)=some rows.flatten
theorem Lp {H G:AH} (h:∀ j,j < H.length->G[j]? =H[j]?) {i:Nat} (hi:okC H i=true):okC G i=true:=by
 have hl:i < H.length:=by
   rcases Nat.lt_or_ge i H.length with c | c
   · exact c
   · unfold okC at hi; rw [List.getElem?_eq_none c] at hi; cases hi
 unfold okC at hi ⊢;rw [h i hl]; exact hi
theorem Vb {H:AH} {i:Nat} (hi:okC H i=true):okC (ro H) i=true:=by
 unfold okC at hi ⊢;unfold ro;rw [List.getElem?_map];cases h:H[i]? with
 | none=>rw [h] at hi; exact hi
 | some o=>rw [h] at hi; cases o <;> first | rfl | (cases hi)
theorem fJ {H G:AH} (h:∀ j,j < H.length->G[j]? =H[j]?) {i k n:Nat} {xs:List AV} (hr:ak H i k n=some xs):ak G i k n=some xs:=by have hi:=Sb hr;unfold ak at hr ⊢;rw [h i hi]; exact hr
theorem SlS.same {T es:Nat} {H G:AH} {v:AV} {rows:List (List AV)} (h:SlS T es H v rows) (hs:∀ j,j < H.length->G[j]? =H[j]?):SlS T es G v rows:=
 ⟨h.len,fun j x hx=>by obtain ⟨i,k,h1,h2⟩:=h.ix j x hx; exact ⟨i,k,h1,fJ hs h2⟩,h.old.imp id fun ⟨i,k,c,e,h1,h2,h3⟩=>⟨i,k,c,e,h1,Lp hs h2,fJ hs h3⟩⟩
theorem SlS.app {T es:Nat} {H:AH} {v:AV} {rows:List (List AV)} (h:SlS T es H v rows) (L:AH):SlS T es (H++L) v rows:=h.same fun j hj=>List.getElem?_append_left hj
theorem SlS.ro {T es:Nat} {H:AH} {v:AV} {rows:List (List AV)} (h:SlS T es H v rows):SlS T es (ro H) v rows:=
 ⟨h.len,fun j x hx=>by obtain ⟨i,k,h1,h2⟩:=h.ix j x hx; exact ⟨i,k,h1,s5 h2⟩,h.old.imp id fun ⟨i,k,c,e,h1,h2,h3⟩=>⟨i,k,c,e,h1,Vb h2,s5 h3⟩⟩
theorem SlS.oR {T es:Nat} {H:AH} {v:AV} {rows:List (List AV)} (h:SlS T es H v rows):oR H v=true:=by
 rcases h.old with ⟨e,_⟩ | ⟨i,k,c,x,e,h',_⟩
 · rw [e]; rfl
 · rw [e]; simpa only [Go.Dv.oR] using h'
theorem qb {α β:Type} (f:α->β):∀ (l:List α),(l.map fun x=>[f x]).flatten=l.map f
 | []=>rfl
 | x::l=>by rw [List.map_cons,List.flatten_cons,qb f l]; rfl
theorem ku {H:AH} {i k n:Nat} {xs:List AV} (h:ak H i k n=some xs) {j:Nat} {x:AV} (hx:xs[j]? =some x):ak H i (k+j) 1=some [x]:=by have hl:=pR h;have hj:=aI hx;rw [AY h j 1 (by omega)];congr 1;rw [List.drop_eq_getElem_cons hj];rw [List.getElem?_eq_getElem hj] at hx;rw [aB hx]; rfl
theorem b6 {j:Nat} (h:j < 2 ^ 60):IntKind.i64.wrap ((j:Int)+1)=((j+1:Nat):Int):=by rw [IntWalk.i64_in _ (by omega)]; omega
end Go.Dv
