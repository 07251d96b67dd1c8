/- Part 10 of the walks (own work). -/
import Derived.Test.YtilpjnckfkjkbaaGreatDoorZ09
set_option maxRecDepth 100000
set_option maxHeartbeats 4000000
set_option linter.unusedSimpArgs false
set_option linter.unusedVariables false
namespace Go.Dv
open Go.Proofs
def sW:ByteArray:=⟨#[102,117,110,99,32,107,101,114,110,101,108,32,98,117,102,102,101,114,32,105,110,116,32,115,104,97,114,101,100,32,108,101,116,32,105,102,32,101,108,115,101,32,119,104,105,108,101,32,98,114,101,97,107,32,99,111,110,116,105,110,117,101,32,114,101,116,117,114,110,32,98,97,114,114,105,101,114,32,97,116,111,109,105,99,32,99,111,108,108,101,99,116,32,116,105,100,32,98,105,100,32,100,105,109,32,103,114,105,100,32,109,105,110,32,109,97,120,32,97,100,100,32,97,110,100,32,111,114,32,120,111,114]⟩
def eS0:ByteArray:=ByteArray.empty
def mkT (n:Nat) (l:List (Nat × AV)):List AV:=l.foldl (fun tm p=>tm.set p.1 p.2) (List.replicate n uA)
def wH (k:Nat):AH:=[.arg tabCs,.map [] 0,.cells ((List.range 25).map fun j=>if j < k then .str (wordsS.getD j eS0) else .str eS0) 9]
noncomputable def w130:Code:=Tryz.f130.body.getD .skip
noncomputable def wb130:Code:=atPath [true,true,false,true,false,false] w130
noncomputable def c164:Code:=Tryz.f164.body.getD .skip
noncomputable def sf (k:Nat) (c:Code):Code:=atPath (List.replicate k true) c
section
variable {P:Program} {C:Cfg P} {W:Ways P} {pl:Nat->Option Way}
def spineC (P:Program) (C:Cfg P) (W:Ways P) (pl:Nat->Option Way) (n:Nat):Nat->Code->St->Option St
 | 0,_,s=>some s
 | k+1,.seq a b,s=>match evC P C (evCall P C W n) pl n a s with
   | some (.normal,s')=>spineC P C W pl n k b s'
   | _=>none
 | _+1,_,_=>none
theorem EvC_spine {n:Nat}:∀ (k:Nat) {c:Code} {s s':St},spineC P C W pl n k c s=some s'->EvC P C W pl c s=EvC P C W pl (sf k c) s'
 | 0,c,s,s',h=>by cases h; rfl
 | k+1,c,s,s',h=>by
   cases c with
   | seq a b =>
     simp only [spineC] at h
     split at h
     · rename_i s1 h1
       rw [EvC_seq,EvC_of h1]
       exact EvC_spine k h
     · cases h
   | _=>simp [spineC] at h
theorem EvC_seqN {a b:Code} {s s':St} (h:EvC P C W pl a s=some (.normal,s')):EvC P C W pl (.seq a b) s=EvC P C W pl b s':=by rw [EvC_seq,h]; rfl
theorem EvC_blockX {id:Nat} {b:Code} {s s':St} (h:EvC P C W pl b s=some (.exit id,s')):EvC P C W pl (.block id b) s=some (.normal,s'):=by rw [EvC_block,h]; simp
end
noncomputable def wb0:Code:=atPath [true,true,true,true,false,true,false,false] c164
noncomputable def wb3:Code:=atPath [true,true,true,true,true,true,true,true,true,true,true,true,false,false,false] c164
def zw0:List AV:=mkT 106 [(0,(.str sW)),(2,.nilSlice),(3,I 0),(4,I 1),(5,.int .u8 0),(6,I 0)]
def yw0 (a0 a1 a2 a3 a4 a5 a6 a7 a8 a9:AV):List AV:=mkT 106 [(0,(.str sW)),(2,.nilSlice),(3,a0),(4,a1),(5,.int .u8 127),(6,a2),(7,a3),(8,a1),(13,a4),(14,(.str sW)),(15,I 132),(16,a5),(17,a6),(18,a2),(19,(.str sW)),(20,a6),(21,a3),(22,.int .u8 127),(23,a3),(24,.int .u8 127),(25,a3),(26,a7),(27,a8),(28,a1),(29,a0),(30,I 0),(31,a1),(32,a9),(33,I 0),(34,a0),(35,a1)]
def zw1:List AV:=yw0 (I 4) (I 0) (I 22) (.int .u8 116) (I 21) (.bool true) (I 21) (.ptr 0 116) (.int .u8 0) (I (-1))
theorem w1_0:iterC Tryz.prog K1 W0 plN 9 wb0 22 (zw0,[.arg tabCs,.map [] 0])=some (zw1,[.arg tabCs,.map [] 0]):=by kernel_rfl
def zw2:List AV:=yw0 (I 9) (I 0) (I 44) (.int .u8 104) (I 43) (.bool true) (I 43) (.ptr 0 104) (.int .u8 0) (I (-1))
theorem w1_22:iterC Tryz.prog K1 W0 plN 9 wb0 22 (zw1,[.arg tabCs,.map [] 0])=some (zw2,[.arg tabCs,.map [] 0]):=by kernel_rfl
def zw3:List AV:=yw0 (I 12) (I 0) (I 66) (.int .u8 116) (I 65) (.bool true) (I 65) (.ptr 0 116) (.int .u8 0) (I (-1))
theorem w1_44:iterC Tryz.prog K1 W0 plN 9 wb0 22 (zw2,[.arg tabCs,.map [] 0])=some (zw3,[.arg tabCs,.map [] 0]):=by kernel_rfl
def zw4:List AV:=yw0 (I 15) (I 0) (I 88) (.int .u8 108) (I 87) (.bool true) (I 87) (.ptr 0 108) (.int .u8 0) (I (-1))
theorem w1_66:iterC Tryz.prog K1 W0 plN 9 wb0 22 (zw3,[.arg tabCs,.map [] 0])=some (zw4,[.arg tabCs,.map [] 0]):=by kernel_rfl
def zw5:List AV:=yw0 (I 19) (I 1) (I 110) (.int .u8 32) (I 109) (.bool true) (I 109) (.ptr 0 32) (.int .u8 1) (I (-2))
theorem w1_88:iterC Tryz.prog K1 W0 plN 9 wb0 22 (zw4,[.arg tabCs,.map [] 0])=some (zw5,[.arg tabCs,.map [] 0]):=by kernel_rfl
def zw6:List AV:=yw0 (I 25) (I 0) (I 132) (.int .u8 114) (I 131) (.bool true) (I 131) (.ptr 0 114) (.int .u8 0) (I (-1))
theorem w1_110:iterC Tryz.prog K1 W0 plN 9 wb0 22 (zw5,[.arg tabCs,.map [] 0])=some (zw6,[.arg tabCs,.map [] 0]):=by kernel_rfl
def zw7:List AV:=yw0 (I 25) (I 0) (I 132) (.int .u8 114) (I 132) (.bool false) (I 131) (.ptr 0 114) (.int .u8 0) (I (-1))
theorem w1_end:evC Tryz.prog K1 (evCall Tryz.prog K1 W0 9) plN 9 (.loop wb0) (zw6,[.arg tabCs,.map [] 0])=some (.exit 0,(zw7,[.arg tabCs,.map [] 0])):=by kernel_rfl
def zw8:List AV:=mkT 106 [(0,(.str sW)),(2,.nilSlice),(3,I 25),(4,I 0),(5,.int .u8 127),(6,I 132),(7,.int .u8 114),(8,I 0),(9,.slice 2 0 1 25 25 true),(10,I 0),(11,I 0),(12,I 0),(13,I 132),(14,(.str sW)),(15,I 132),(16,.bool false),(17,I 131),(18,I 132),(19,(.str sW)),(20,I 131),(21,.int .u8 114),(22,.int .u8 127),(23,.int .u8 114),(24,.int .u8 127),(25,.int .u8 114),(26,.ptr 0 114),(27,.int .u8 0),(28,I 0),(29,I 25),(30,I 0),(31,I 0),(32,I (-1)),(33,I 0),(34,I 25),(35,I 0),(36,.int .u8 127),(37,.bool false),(40,I 25),(41,.slice 2 0 1 25 25 true),(42,I 0),(43,(.str sW)),(44,I 132),(45,.bool true),(46,.bool true),(47,(.str sW)),(48,I 0),(49,.int .u8 102),(50,.ptr 0 102),(51,.int .u8 0),(52,.bool false),(53,.bool false),(56,I 0)]
def yw1 (a0 a1 a2 a3 a4 a5 a6 a7 a8 a9 a10 a11 a12 a13 a14 a15 a16 a17 a18:AV):List AV:=mkT 106 [(0,(.str sW)),(2,.nilSlice),(3,I 25),(4,I 0),(5,.int .u8 127),(6,I 132),(7,.int .u8 114),(8,I 0),(9,.slice 2 0 1 25 25 true),(10,a0),(11,a1),(12,a2),(13,I 132),(14,(.str sW)),(15,I 132),(16,.bool false),(17,I 131),(18,I 132),(19,(.str sW)),(20,I 131),(21,.int .u8 114),(22,.int .u8 127),(23,.int .u8 114),(24,.int .u8 127),(25,.int .u8 114),(26,.ptr 0 114),(27,.int .u8 0),(28,I 0),(29,I 25),(30,I 0),(31,I 0),(32,I (-1)),(33,I 0),(34,I 25),(35,I 0),(36,.int .u8 127),(37,.bool false),(40,I 25),(41,.slice 2 0 1 25 25 true),(42,I 0),(43,(.str sW)),(44,I 132),(45,.bool true),(46,.bool true),(47,(.str sW)),(48,I 0),(49,.int .u8 102),(50,.ptr 0 102),(51,.int .u8 0),(52,.bool false),(53,.bool false),(56,I 0),(57,a3),(58,(.str sW)),(59,I 132),(60,a4),(61,(.str sW)),(62,a5),(63,a6),(64,a7),(65,a8),(66,a9),(67,a10),(68,a11),(69,.slice 2 0 1 25 25 true),(70,a12),(71,(.str sW)),(72,a13),(73,a14),(74,a15),(75,a16),(76,a12),(77,a0),(78,a14),(79,a1),(80,a1),(81,(.str sW)),(82,I 132),(83,.bool true),(84,.bool true),(85,(.str sW)),(86,a1),(87,a17),(88,a18),(89,.int .u8 0),(90,.bool false),(91,.bool false),(94,a1)]
def zw9:List AV:=yw1 (I 3) (I 19) (I 22) (I 21) (.bool true) (I 21) (.int .u8 116) (.ptr 0 116) (.int .u8 0) (.bool true) (I 21) (I 22) (I 2) (I 12) (I 18) (.str (wordsS.getD 2 eS0)) (.ptr 2 2) (.int .u8 105) (.ptr 0 105)
theorem w3_0:iterC Tryz.prog K1 W0 plN 9 wb3 22 (zw8,wH 0)=some (zw9,wH 3):=by kernel_rfl
def zw10:List AV:=yw1 (I 8) (I 42) (I 44) (I 43) (.bool true) (I 43) (.int .u8 104) (.ptr 0 104) (.int .u8 0) (.bool true) (I 43) (I 44) (I 7) (I 37) (I 41) (.str (wordsS.getD 7 eS0)) (.ptr 2 7) (.int .u8 119) (.ptr 0 119)
theorem w3_22:iterC Tryz.prog K1 W0 plN 9 wb3 22 (zw9,wH 3)=some (zw10,wH 8):=by kernel_rfl
def zw11:List AV:=yw1 (I 11) (I 63) (I 66) (I 65) (.bool true) (I 65) (.int .u8 116) (.ptr 0 116) (.int .u8 0) (.bool true) (I 65) (I 66) (I 10) (I 54) (I 62) (.str (wordsS.getD 10 eS0)) (.ptr 2 10) (.int .u8 114) (.ptr 0 114)
theorem w3_44:iterC Tryz.prog K1 W0 plN 9 wb3 22 (zw10,wH 8)=some (zw11,wH 11):=by kernel_rfl
def zw12:List AV:=yw1 (I 14) (I 85) (I 88) (I 87) (.bool true) (I 87) (.int .u8 108) (.ptr 0 108) (.int .u8 0) (.bool true) (I 87) (I 88) (I 13) (I 78) (I 84) (.str (wordsS.getD 13 eS0)) (.ptr 2 13) (.int .u8 99) (.ptr 0 99)
theorem w3_66:iterC Tryz.prog K1 W0 plN 9 wb3 22 (zw11,wH 11)=some (zw12,wH 14):=by kernel_rfl
def zw13:List AV:=yw1 (I 19) (I 110) (I 110) (I 109) (.bool true) (I 109) (.int .u8 32) (.ptr 0 32) (.int .u8 1) (.bool false) (I 108) (I 109) (I 18) (I 105) (I 109) (.str (wordsS.getD 18 eS0)) (.ptr 2 18) (.int .u8 109) (.ptr 0 109)
theorem w3_88:iterC Tryz.prog K1 W0 plN 9 wb3 22 (zw12,wH 14)=some (zw13,wH 19):=by kernel_rfl
def zw14:List AV:=yw1 (I 24) (I 129) (I 132) (I 131) (.bool true) (I 131) (.int .u8 114) (.ptr 0 114) (.int .u8 0) (.bool true) (I 131) (I 132) (I 23) (I 126) (I 128) (.str (wordsS.getD 23 eS0)) (.ptr 2 23) (.int .u8 120) (.ptr 0 120)
theorem w3_110:iterC Tryz.prog K1 W0 plN 9 wb3 22 (zw13,wH 19)=some (zw14,wH 24):=by kernel_rfl
def zw15:List AV:=yw1 (I 24) (I 129) (I 132) (I 132) (.bool false) (I 131) (.int .u8 114) (.ptr 0 114) (.int .u8 0) (.bool true) (I 131) (I 132) (I 23) (I 126) (I 128) (.str (wordsS.getD 23 eS0)) (.ptr 2 23) (.int .u8 120) (.ptr 0 120)
theorem w3_end:evC Tryz.prog K1 (evCall Tryz.prog K1 W0 9) plN 9 (.loop wb3) (zw14,wH 24)=some (.exit 4,(zw15,wH 24)):=by kernel_rfl
def zw16:List AV:=mkT 106 [(0,(.str sW))]
def zw17:List AV:=mkT 106 [(0,(.str sW)),(2,.nilSlice),(3,I 0),(4,I 1),(5,.int .u8 0)]
theorem w_a:spineC Tryz.prog K1 W0 plN 9 4 c164 (zw16,[.arg tabCs,.map [] 0])=some (zw17,[.arg tabCs,.map [] 0]):=by kernel_rfl
theorem w_b:spineC Tryz.prog K1 W0 plN 9 1 (atPath [true,true,true,true,false] c164) (zw17,[.arg tabCs,.map [] 0])=some (zw0,[.arg tabCs,.map [] 0]):=by kernel_rfl
theorem w_c:spineC Tryz.prog K1 W0 plN 9 7 (sf 5 c164) (zw7,[.arg tabCs,.map [] 0])=some (zw8,wH 0):=by kernel_rfl
def zw18:List AV:=mkT 106 [(0,(.str sW)),(2,.slice 2 0 1 25 25 true),(3,I 25),(4,I 0),(5,.int .u8 127),(6,I 132),(7,.int .u8 114),(8,I 0),(9,.slice 2 0 1 25 25 true),(10,I 24),(11,I 129),(12,I 132),(13,I 132),(14,(.str sW)),(15,I 132),(16,.bool false),(17,I 131),(18,I 132),(19,(.str sW)),(20,I 131),(21,.int .u8 114),(22,.int .u8 127),(23,.int .u8 114),(24,.int .u8 127),(25,.int .u8 114),(26,.ptr 0 114),(27,.int .u8 0),(28,I 0),(29,I 25),(30,I 0),(31,I 0),(32,I (-1)),(33,I 0),(34,I 25),(35,I 0),(36,.int .u8 127),(37,.bool false),(40,I 25),(41,.slice 2 0 1 25 25 true),(42,I 0),(43,(.str sW)),(44,I 132),(45,.bool true),(46,.bool true),(47,(.str sW)),(48,I 0),(49,.int .u8 102),(50,.ptr 0 102),(51,.int .u8 0),(52,.bool false),(53,.bool false),(56,I 0),(57,I 132),(58,(.str sW)),(59,I 132),(60,.bool false),(61,(.str sW)),(62,I 131),(63,.int .u8 114),(64,.ptr 0 114),(65,.int .u8 0),(66,.bool true),(67,I 131),(68,I 132),(69,.slice 2 0 1 25 25 true),(70,I 23),(71,(.str sW)),(72,I 126),(73,I 128),(74,.str (wordsS.getD 23 eS0)),(75,.ptr 2 23),(76,I 23),(77,I 24),(78,I 128),(79,I 129),(80,I 129),(81,(.str sW)),(82,I 132),(83,.bool true),(84,.bool true),(85,(.str sW)),(86,I 129),(87,.int .u8 120),(88,.ptr 0 120),(89,.int .u8 0),(90,.bool false),(91,.bool false),(94,I 129),(95,I 129),(96,(.str sW)),(97,I 132),(98,.bool true),(99,.slice 2 0 1 25 25 true),(100,I 24),(101,(.str sW)),(102,I 129),(103,.str (wordsS.getD 24 eS0)),(104,.ptr 2 24),(105,.slice 2 0 1 25 25 true)]
theorem w_d:evC Tryz.prog K1 (evCall Tryz.prog K1 W0 9) plN 9 (sf 13 c164) (zw15,wH 24)=some (.ret,(zw18,wH 25)):=by kernel_rfl
theorem w_loop1:EvC Tryz.prog K1 W0 plN (.loop wb0) (zw0,[.arg tabCs,.map [] 0])=some (.exit 0,(zw7,[.arg tabCs,.map [] 0])):=
 (EvC_iter _ w1_0).trans <| (EvC_iter _ w1_22).trans <| (EvC_iter _ w1_44).trans <| (EvC_iter _ w1_66).trans <| (EvC_iter _ w1_88).trans <| (EvC_iter _ w1_110).trans <| EvC_of w1_end
theorem w_loop3:EvC Tryz.prog K1 W0 plN (.loop wb3) (zw8,wH 0)=some (.exit 4,(zw15,wH 24)):=
 (EvC_iter _ w3_0).trans <| (EvC_iter _ w3_22).trans <| (EvC_iter _ w3_44).trans <| (EvC_iter _ w3_66).trans <| (EvC_iter _ w3_88).trans <| (EvC_iter _ w3_110).trans <| EvC_of w3_end
theorem w_body:EvC Tryz.prog K1 W0 plN c164 (zw16,[.arg tabCs,.map [] 0])=some (.ret,(zw18,wH 25)):=by
 rw [EvC_spine _ w_a]
 rw [show sf 4 c164=.seq (atPath [true,true,true,true,false] c164) (sf 5 c164) by kernel_rfl]
 have h1:EvC Tryz.prog K1 W0 plN (atPath [true,true,true,true,false] c164) (zw17,[.arg tabCs,.map [] 0])=some (.normal,(zw7,[.arg tabCs,.map [] 0])):=by
   rw [EvC_spine _ w_b,show sf 1 (atPath [true,true,true,true,false] c164)=.block 0 (.loop wb0) by kernel_rfl]
   exact EvC_blockX w_loop1
 rw [EvC_seqN h1,EvC_spine _ w_c,show sf 7 (sf 5 c164)=.seq (.block 4 (.loop wb3)) (sf 13 c164) by kernel_rfl,EvC_seqN (EvC_blockX w_loop3)]
 exact EvC_of w_d
theorem fe164K (args:List AV) (H:AH):Ev Tryz.prog K1 W0 164 args H=(EvC Tryz.prog K1 W0 plN c164 (args++List.replicate (106 - args.length) uA,H)).bind fun r=>match r with | (.normal,s)=>some ((s.1.getD 2 uA),s.2) | (.ret,s)=>some ((s.1.getD 2 uA),s.2) | _=>none:=Ev_eqW Tryz.func164 rfl rfl rfl args H rfl
theorem w_fields:Ev Tryz.prog K1 W0 164 [.str sW] [.arg tabCs,.map [] 0]=some (.slice 2 0 1 25 25 true,wH 25):=by
 rw [fe164K]
 have h0:([.str sW]:List AV)++List.replicate (106 - ([.str sW]:List AV).length) uA=zw16:=by kernel_rfl
 rw [h0,w_body]
 first | rfl | (show _=_; kernel_rfl)
def mH (k:Nat):AH:=[.arg tabCs,.map (wordsE.take k) k,.cells ((List.range 25).map fun j=>.str (wordsS.getD j eS0)) 9]
theorem m_a:spineC Tryz.prog K1 W0 plN 9 2 w130 (mkT 15 [],[.arg tabCs])=some (mkT 15 [(0,.nilMap),(1,.map 1),(4,.map 1)],[.arg tabCs,.map [] 0]):=by kernel_rfl
theorem m_l:iterC Tryz.prog K1 W0 plN 9 wb130 25 (mkT 15 [(0,.nilMap),(1,.map 1),(4,.map 1),(5,.slice 2 0 1 25 25 true),(6,I 25),(7,I 0)],mH 0)=some (mkT 15 [(0,.nilMap),(1,.map 1),(3,.str (wordsS.getD 24 eS0)),(4,.map 1),(5,.slice 2 0 1 25 25 true),(6,I 25),(7,I 25),(8,.bool true),(9,.ptr 2 24),(10,.str (wordsS.getD 24 eS0)),(11,.map 1),(12,.str (wordsS.getD 24 eS0)),(13,I 25)],mH 25):=by kernel_rfl
theorem m_end:evC Tryz.prog K1 (evCall Tryz.prog K1 W0 9) plN 9 (.loop wb130) (mkT 15 [(0,.nilMap),(1,.map 1),(3,.str (wordsS.getD 24 eS0)),(4,.map 1),(5,.slice 2 0 1 25 25 true),(6,I 25),(7,I 25),(8,.bool true),(9,.ptr 2 24),(10,.str (wordsS.getD 24 eS0)),(11,.map 1),(12,.str (wordsS.getD 24 eS0)),(13,I 25)],mH 25)=some (.exit 0,(mkT 15 [(0,.nilMap),(1,.map 1),(3,.str (wordsS.getD 24 eS0)),(4,.map 1),(5,.slice 2 0 1 25 25 true),(6,I 25),(7,I 25),(8,.bool false),(9,.ptr 2 24),(10,.str (wordsS.getD 24 eS0)),(11,.map 1),(12,.str (wordsS.getD 24 eS0)),(13,I 25)],mH 25)):=by kernel_rfl
theorem m_d:evC Tryz.prog K1 (evCall Tryz.prog K1 W0 9) plN 9 (sf 3 w130) (mkT 15 [(0,.nilMap),(1,.map 1),(3,.str (wordsS.getD 24 eS0)),(4,.map 1),(5,.slice 2 0 1 25 25 true),(6,I 25),(7,I 25),(8,.bool false),(9,.ptr 2 24),(10,.str (wordsS.getD 24 eS0)),(11,.map 1),(12,.str (wordsS.getD 24 eS0)),(13,I 25)],mH 25)=some (.ret,(mkT 15 [(0,.map 1),(1,.map 1),(3,.str (wordsS.getD 24 eS0)),(4,.map 1),(5,.slice 2 0 1 25 25 true),(6,I 25),(7,I 25),(8,.bool false),(9,.ptr 2 24),(10,.str (wordsS.getD 24 eS0)),(11,.map 1),(12,.str (wordsS.getD 24 eS0)),(13,I 25),(14,.map 1)],mH 25)):=by kernel_rfl
theorem m_ln:lenA Tryz.prog 164 (wH 25) (.slice 2 0 1 25 25 true)=some (I 25):=by kernel_rfl
theorem fc164 (C:Cfg Tryz.prog) (gl:GL) (slot:Option Nat) (tm:List AV) (H:AH) (o:Oper) (xs:Array Operand) (ats:Array TypeId):callA Tryz.prog C slot (evalA gl tm) o ⟨.value (.func 164),xs,ats⟩ H=(evL (evalA gl tm) xs.toList).map fun vs=>(.enter 164 vs,H):=callG (by rw [Tryz.func164]; rfl) C slot _ H o xs ats rfl
theorem m_reg:EvC Tryz.prog K1 W0 plN (atPath [true,true,false,false] w130) (mkT 15 [(0,.nilMap),(1,.map 1),(4,.map 1)],[.arg tabCs,.map [] 0])=some (.normal,(mkT 15 [(0,.nilMap),(1,.map 1),(4,.map 1),(5,.slice 2 0 1 25 25 true),(6,I 25),(7,I 0)],mH 0)):=by
 have h:=w_fields
 have hw:wH 25=mH 0:=by kernel_rfl
 have hl:=m_ln
 rw [hw] at h hl
 obtain ⟨tm,htm⟩:∃ tm,tm=mkT 15 [(0,.nilMap),(1,.map 1),(4,.map 1)]:=⟨_,rfl⟩
 have hlen:tm.length=15:=by rw [htm]; kernel_rfl
 rw [<-htm]
 generalize [AObj.arg tabCs,AObj.map [] 0]=H0 at h
 generalize mH 0=H1 at h hl
 simp -implicitDefEqProofs only [w130,Tryz.f130,atPath,Option.getD_some,hlen,↓fc164,↓EvC_seq,↓EvC_skip,↓EvC_exit,↓EvC_ret,↓EvC_block,↓EvC_condB,↓condA_bool,↓ev_region,↓EvC_reads,↓ev_tail,↓EvC_plan,↓EvC_calm,↓calmsA_nil,↓calmsA_none,↓calmsA_guardB,↓cm_load,↓cm_lookup,↓cm_slice,↓cm_builtin,↓cm_move,↓cm_assign,↓cm_pickB,↓cm_binOp,↓cm_unOp,↓cm_convert,↓cm_field,↓cm_fieldAddr,↓cm_indexAddr,↓cm_nilCheck,↓cm_extract,↓cm_call,↓runL_cons,↓runL_nil,↓readsA_nil,↓readsA_none,↓readsA_guardB,↓gd_t,↓gd_f,↓gd_none,↓br_true,↓br_false,cb_br,br_true,br_false,br_not,br_bind,br_bool,br_int,br_tup2,br_tup3,fin_bool,fin_int,fin_tup2,fin_tup3,fin_bi,gd_t,gd_f,gd_none,condA_bool,↓stepO_none,↓stepO_guardB,↓aop_move,↓aop_assign,↓aop_load,↓aop_store,↓aop_alloc,↓aop_box,↓aop_build,↓aop_nilCheck,↓aop_fieldAddr,↓aop_field,↓aop_indexAddr,↓aop_pickB,↓aop_extract,↓aop_lookup,↓aop_mapUpdate,↓aop_makeMap,↓aop_makeFunc,↓aop_buildSlice,↓aop_slice,↓aop_not,↓aop_call,↓callA_len,↓callA_append,↓rd_load,↓rd_lookup,↓rd_slice,↓rd_builtin_len,↓rd_move,↓rd_assign,↓rd_pickB,↓rd_binOp,↓rd_unOp,↓rd_convert,↓rd_field,↓rd_fieldAddr,↓rd_indexAddr,↓rd_nilCheck,↓rd_extract, ev_tmp,ev_const,ofV_int,ofV_bool,ofV_str,ofV_nilSlice,ofV_nilPtr,putA_some,putA_none,gs_self,gs_ne,List.length_set,Option.bind_some,Option.map_some,ib_lss,ib_leq,ib_gtr,ib_geq,ib_eql,ib_neq,ib_add,ib_sub,evL,evO,evP,ne_eq,not_false_eq_true,if_true,if_false,reduceCtorEq,ite_true,ite_false,reduceIte,put_app,AV.cells,and_true,true_and,and_self,decide_true,decide_false,↓yielded_eq,yv_some,boolOf_bool,boolOf_undef,List.getElem?_toArray,List.getElem?_cons_zero,List.getElem?_cons_succ,Nat.reduceLT,Nat.reduceEqDiff,beq_self_eq_true,wr_app,wr_app0,rd_app,rd_app0,rdL_here,rdL_next,wrL_here,wrL_next,spl,List.all_cons,List.all_nil,AV.one,Bool.and_self,Bool.true_and,Bool.and_true,Bool.false_and,Bool.and_false,Bool.true_or,Bool.or_true,Bool.false_or,Bool.or_false,Bool.not_true,Bool.not_false,Bool.not_not,List.drop_zero,List.take_succ_cons,List.take_zero,List.drop_succ_cons,List.head?_cons,Nat.reduceAdd,Nat.reduceLeDiff,List.length_cons,List.length_nil,List.nil_append,List.cons_append,List.append_assoc,List.set_cons_zero,List.set_cons_succ,Int.toNat_natCast,Nat.add_zero,b_ft,b_tf,Bool.false_eq_true]
 generalize hE:Ev Tryz.prog K1 W0 164 _ H0=E
 have hE2:E=some (.slice 2 0 1 25 25 true,H1):=hE.symm.trans h
 rw [hE2]
 simp -implicitDefEqProofs only [hlen,hl,↓EvC_seq,↓EvC_skip,↓EvC_exit,↓EvC_ret,↓EvC_block,↓EvC_condB,↓condA_bool,↓ev_region,↓EvC_reads,↓ev_tail,↓EvC_plan,↓EvC_calm,↓calmsA_nil,↓calmsA_none,↓calmsA_guardB,↓cm_load,↓cm_lookup,↓cm_slice,↓cm_builtin,↓cm_move,↓cm_assign,↓cm_pickB,↓cm_binOp,↓cm_unOp,↓cm_convert,↓cm_field,↓cm_fieldAddr,↓cm_indexAddr,↓cm_nilCheck,↓cm_extract,↓cm_call,↓runL_cons,↓runL_nil,↓readsA_nil,↓readsA_none,↓readsA_guardB,↓gd_t,↓gd_f,↓gd_none,↓br_true,↓br_false,cb_br,br_true,br_false,br_not,br_bind,br_bool,br_int,br_tup2,br_tup3,fin_bool,fin_int,fin_tup2,fin_tup3,fin_bi,gd_t,gd_f,gd_none,condA_bool,↓stepO_none,↓stepO_guardB,↓aop_move,↓aop_assign,↓aop_load,↓aop_store,↓aop_alloc,↓aop_box,↓aop_build,↓aop_nilCheck,↓aop_fieldAddr,↓aop_field,↓aop_indexAddr,↓aop_pickB,↓aop_extract,↓aop_lookup,↓aop_mapUpdate,↓aop_makeMap,↓aop_makeFunc,↓aop_buildSlice,↓aop_slice,↓aop_not,↓aop_call,↓callA_len,↓callA_append,↓rd_load,↓rd_lookup,↓rd_slice,↓rd_builtin_len,↓rd_move,↓rd_assign,↓rd_pickB,↓rd_binOp,↓rd_unOp,↓rd_convert,↓rd_field,↓rd_fieldAddr,↓rd_indexAddr,↓rd_nilCheck,↓rd_extract, ev_tmp,ev_const,ofV_int,ofV_bool,ofV_str,ofV_nilSlice,ofV_nilPtr,putA_some,putA_none,gs_self,gs_ne,List.length_set,Option.bind_some,Option.map_some,ib_lss,ib_leq,ib_gtr,ib_geq,ib_eql,ib_neq,ib_add,ib_sub,evL,evO,evP,ne_eq,not_false_eq_true,if_true,if_false,reduceCtorEq,ite_true,ite_false,reduceIte,put_app,AV.cells,and_true,true_and,and_self,decide_true,decide_false,↓yielded_eq,yv_some,boolOf_bool,boolOf_undef,List.getElem?_toArray,List.getElem?_cons_zero,List.getElem?_cons_succ,Nat.reduceLT,Nat.reduceEqDiff,beq_self_eq_true,wr_app,wr_app0,rd_app,rd_app0,rdL_here,rdL_next,wrL_here,wrL_next,spl,List.all_cons,List.all_nil,AV.one,Bool.and_self,Bool.true_and,Bool.and_true,Bool.false_and,Bool.and_false,Bool.true_or,Bool.or_true,Bool.false_or,Bool.or_false,Bool.not_true,Bool.not_false,Bool.not_not,List.drop_zero,List.take_succ_cons,List.take_zero,List.drop_succ_cons,List.head?_cons,Nat.reduceAdd,Nat.reduceLeDiff,List.length_cons,List.length_nil,List.nil_append,List.cons_append,List.append_assoc,List.set_cons_zero,List.set_cons_succ,Int.toNat_natCast,Nat.add_zero,b_ft,b_tf,Bool.false_eq_true]
 rw [htm]
 first | (show _=_; kernel_rfl) | rfl
theorem fe130K (args:List AV) (H:AH):Ev Tryz.prog K1 W0 130 args H=(EvC Tryz.prog K1 W0 plN w130 (args++List.replicate (15 - args.length) uA,H)).bind fun r=>match r with | (.normal,s)=>some ((s.1.getD 0 uA),s.2) | (.ret,s)=>some ((s.1.getD 0 uA),s.2) | _=>none:=Ev_eqW Tryz.func130 rfl rfl rfl args H rfl
theorem m_all:Ev Tryz.prog K1 W0 130 [] [.arg tabCs]=some (.map 1,mH 25):=by
 rw [fe130K]
 have h0:([]:List AV)++List.replicate (15 - ([]:List AV).length) uA=mkT 15 []:=by kernel_rfl
 rw [h0,EvC_spine _ m_a,show sf 2 w130=.seq (atPath [true,true,false] w130) (sf 3 w130) by kernel_rfl]
 have h1:EvC Tryz.prog K1 W0 plN (atPath [true,true,false] w130) (mkT 15 [(0,.nilMap),(1,.map 1),(4,.map 1)],[.arg tabCs,.map [] 0])=some (.normal,(mkT 15 [(0,.nilMap),(1,.map 1),(3,.str (wordsS.getD 24 eS0)),(4,.map 1),(5,.slice 2 0 1 25 25 true),(6,I 25),(7,I 25),(8,.bool false),(9,.ptr 2 24),(10,.str (wordsS.getD 24 eS0)),(11,.map 1),(12,.str (wordsS.getD 24 eS0)),(13,I 25)],mH 25)):=by
   rw [show atPath [true,true,false] w130=.seq (atPath [true,true,false,false] w130) (.block 0 (.loop wb130)) by kernel_rfl,EvC_seqN m_reg]
   exact EvC_blockX ((EvC_iter _ m_l).trans (EvC_of m_end))
 rw [EvC_seqN h1,EvC_of m_d]
 first | (show _=_; kernel_rfl) | rfl
theorem words_ok (gl:GL) (w0:World) (Pr:Nat->Prop) (hpin:PinAt 0 tabCs w0 Pr):CallOk Tryz.prog gl w0 Pr wordOrc:=freshMap_ok (C:=K1) (f:=130) (i:=1) (n:=25) (es:=wordsE) starts1 m_all (by kernel_rfl) (by kernel_rfl) gl w0 Pr hpin
#print axioms words_ok
end Go.Dv
namespace Go.Dv
open Go.Proofs
theorem wordOrc_ok (gl:GL) (w0:World) (Pr:Nat->Prop) (hpin:PinAt 0 tabCs w0 Pr):CallOk Tryz.prog gl w0 Pr wordOrc:=words_ok gl w0 Pr hpin
def kindT:List (List Nat × Int):=[([0,8],0),([0,1],0),([0,1],3),([0,1,2],20),([0],4),([0,7],0),([0,1,3],0),([1,2,3],0),([1,2,3,4],0),([5],0),([0,1,5,4],0),([0,6],0),([1,6],0),([9],0),([1,9,10],0),([],0)]
def kindRow (k:Nat):List AV:=match kindT[k]? with
 | some p=>((List.range 11).map fun i=>AV.bool (p.1.contains i))++[.int .i64 p.2]
 | none=>[]
def kindsCs:List AV:=(List.range 16).flatMap kindRow
theorem kinds_run:[((87:FuncId),([]:List AV),AV.agg kindsCs)].all (closedRuns Tryz.prog K1 W0 [.arg tabCs] 20)=true:=by kernel_rfl
def kindOrc:CallF:=closedOrc [(87,[],.agg kindsCs)]
theorem kindOrc_ok (gl:GL) (w0:World) (Pr:Nat->Prop) (hpin:PinAt 0 tabCs w0 Pr):CallOk Tryz.prog gl w0 Pr kindOrc:=closedOrc_ok (C:=K1) starts1 kinds_run gl w0 Pr hpin
def readL:List Nat:=[9,350,8,12,13,16,18,20,21,24,25,26,35,36,37,38,39,43,49,54,56,57,58,59,60,61,62,63,65,66,67,68,69,70,71,73,74,81,84,85,86,88,89,90,91,92,96,97,98,99,100,101,102,104,105,106,107,108,119,120,122,123,129,131,132,133,149,150,151,165,190]
def orcC:CallF:=orElse wordOrc kindOrc
theorem orcC_none {f:Nat} (hf:f∉[87,130]) (args:List AV) (H:AH):orcC f args H=none:=by
 simp only [List.mem_cons,List.not_mem_nil,or_false,not_or] at hf
 unfold orcC orElse wordOrc kindOrc closedOrc
 have h87:(f == 87)=false:=by simp [hf.1]
 cases args with
 | nil=>simp [hf.2,h87]
 | cons x l=>simp [h87]
theorem readL_orc:(readL.all fun x=>!([87,130].contains x))=true:=by decide
theorem orcC_ro (f:FuncId) (args:List AV) (H:AH) (v:AV) (H':AH) (hr:readL.contains f=true) (h:orcC f args H=some (v,H')):H'=H:=by
 have h1:=List.all_eq_true.1 readL_orc f (by simpa using hr)
 rw [orcC_none (by simpa using h1)] at h
 cases h
theorem nilchk_ok {P:Program} (ats:Array TypeId) (ty:TypeId) (a:Addr) (x y:String) (w:World):(Builtin.ssaWrapNilChk_ ats ty #[.pointer (some a),strVal x,strVal y]).run P w=.ok (.pointer (some a)) w:=rfl
theorem mD_gen {P:Program} {t elem:TypeId} {name:String} {f:FuncId} {n:Nat} (ti:TypeInfo) (hi:P.info? t=some ti) (hm:(ti.methods.find? (·.name == name)).map (fun m=>(m.path,m.func))=some (#[],some (f,false))) (hu:P.underlying t=some (.pointer elem))
   (a:Addr) (u:Value) (w:World) (h:(loadVar elem a).run P w=.ok u w):(method (n+1) t (.pointer (some a)) name).run P w=.ok (f,u) w:=by
 obtain ⟨m,hm,e⟩:=Option.map_eq_some_iff.1 hm
 obtain ⟨hp,hf⟩:=Prod.mk.inj e
 simp only [method,Sem.run_bind,run_info hi,Result.andThen_ok,hm,hp,hf,follow,Sem.run_pure,receiverAt,run_und hu,Place.get,nilchk_ok,asAddr,h,Array.isEmpty_empty,if_true]
theorem mOk (t:TypeId) (n:String) (f:FuncId) (h:(if t=100 then (if n = "Push" then some 352 else if n = "Pop" then some 351 else none) else none:Option FuncId)=some f) (v:Value) (w:World):(method (Tryz.prog.types.size+Made.depth) t v n).run Tryz.prog w=.ok (f,v) w:=by
 split at h
 · rename_i e
   subst e
   split at h
   · rename_i e; subst e; cases h; kernel_rfl
   · split at h
     · rename_i e; subst e; cases h; kernel_rfl
     · cases h
 · cases h
theorem mD (t:TypeId) (n:String) (f:FuncId) (e:TypeId) (h:(if t=100 then (if n = "Len" then some (49,101) else if n = "Less" then some (350,101) else if n = "Swap" then some (353,101) else none) else none:Option (FuncId × TypeId))=some (f,e)) (a:Addr) (u:Value) (w:World) (hl:(loadVar e a).run Tryz.prog w=.ok u w):(method (Tryz.prog.types.size+Made.depth) t (.pointer (some a)) n).run Tryz.prog w=.ok (f,u) w:=by
 have hd:Tryz.prog.types.size+Made.depth=(Tryz.prog.types.size+Made.depth - 1)+1:=by kernel_rfl
 rw [hd]
 have hi:Tryz.prog.info? 100=some ((Tryz.prog.info? 100).getD default):=by kernel_rfl
 split at h
 · rename_i e
   subst e
   split at h
   · rename_i e; subst e; cases h; exact mD_gen _ hi (by kernel_rfl) (by kernel_rfl) a u w hl
   · split at h
     · rename_i e; subst e; cases h; exact mD_gen _ hi (by kernel_rfl) (by kernel_rfl) a u w hl
     · split at h
       · rename_i e; subst e; cases h; exact mD_gen _ hi (by kernel_rfl) (by kernel_rfl) a u w hl
       · cases h
 · cases h
noncomputable def C0:Cfg Tryz.prog:={ gl:=fun _=>none,pin:=PinAt 0 tabCs,orc:=orcC,orcOk:=fun w0 Pr hp=>orElse_ok (wordOrc_ok _ w0 Pr hp) (kindOrc_ok _ w0 Pr hp),meth:=fun t n=>if t=100 then (if n = "Push" then some 352 else if n = "Pop" then some 351 else none) else none,methOk:=mOk,methD:=fun t n=>if t=100 then (if n = "Len" then some (49,101) else if n = "Less" then some (350,101) else if n = "Swap" then some (353,101) else none) else none,methDOk:=mD,name:=name_ok,mixed:=Tryz.checked.mixed,reads:=fun f=>readL.contains f,orcRo:=orcC_ro,pinRo:=fun w0 Pr φ H w h hW=>PinAt.later h hW }
theorem orc0 {f:Nat} (hf:f∉[87,130]) (args:List AV) (H:AH):C0.orc f args H=none:=orcC_none hf args H
theorem kinds_ev (H:AH):Ev Tryz.prog C0 W0 87 [] H=some (.agg kindsCs,H):=Ev_orc rfl
theorem words_ev (H:AH):Ev Tryz.prog C0 W0 130 [] H=some (.map H.length,H++[.map wordsE 25]):=Ev_orc rfl
theorem ia22 (i k es len cap:Nat) (ex:Bool) (kk:IntKind) (n:Int):indexAddrA Tryz.prog 22 (.slice i k es len cap ex) (.int kk n)=if 0<=n/\n < len/\5=es then some (.ptr i (k+n.toNat * es)) else none:=by kernel_rfl
theorem ln22 (H:AH) (i k es len cap:Nat) (ex:Bool):lenA Tryz.prog 22 H (.slice i k es len cap ex)=some (.int .i64 len):=by kernel_rfl
theorem ln22n (H:AH):lenA Tryz.prog 22 H .nilSlice=some (.int .i64 0):=by kernel_rfl
theorem ia24 (i k es len cap:Nat) (ex:Bool) (kk:IntKind) (n:Int):indexAddrA Tryz.prog 24 (.slice i k es len cap ex) (.int kk n)=if 0<=n/\n < len/\1=es then some (.ptr i (k+n.toNat * es)) else none:=by kernel_rfl
theorem ln24 (H:AH) (i k es len cap:Nat) (ex:Bool):lenA Tryz.prog 24 H (.slice i k es len cap ex)=some (.int .i64 len):=by kernel_rfl
theorem ln24n (H:AH):lenA Tryz.prog 24 H .nilSlice=some (.int .i64 0):=by kernel_rfl
theorem ia25 (i k es len cap:Nat) (ex:Bool) (kk:IntKind) (n:Int):indexAddrA Tryz.prog 25 (.slice i k es len cap ex) (.int kk n)=if 0<=n/\n < len/\1=es then some (.ptr i (k+n.toNat * es)) else none:=by kernel_rfl
theorem ln25 (H:AH) (i k es len cap:Nat) (ex:Bool):lenA Tryz.prog 25 H (.slice i k es len cap ex)=some (.int .i64 len):=by kernel_rfl
theorem ln25n (H:AH):lenA Tryz.prog 25 H .nilSlice=some (.int .i64 0):=by kernel_rfl
theorem ia30 (i k es len cap:Nat) (ex:Bool) (kk:IntKind) (n:Int):indexAddrA Tryz.prog 30 (.slice i k es len cap ex) (.int kk n)=if 0<=n/\n < len/\1=es then some (.ptr i (k+n.toNat * es)) else none:=by kernel_rfl
theorem ln30 (H:AH) (i k es len cap:Nat) (ex:Bool):lenA Tryz.prog 30 H (.slice i k es len cap ex)=some (.int .i64 len):=by kernel_rfl
theorem ln30n (H:AH):lenA Tryz.prog 30 H .nilSlice=some (.int .i64 0):=by kernel_rfl
theorem ia31 (i k es len cap:Nat) (ex:Bool) (kk:IntKind) (n:Int):indexAddrA Tryz.prog 31 (.slice i k es len cap ex) (.int kk n)=if 0<=n/\n < len/\9=es then some (.ptr i (k+n.toNat * es)) else none:=by kernel_rfl
theorem ln31 (H:AH) (i k es len cap:Nat) (ex:Bool):lenA Tryz.prog 31 H (.slice i k es len cap ex)=some (.int .i64 len):=by kernel_rfl
theorem ln31n (H:AH):lenA Tryz.prog 31 H .nilSlice=some (.int .i64 0):=by kernel_rfl
theorem ia32 (i k es len cap:Nat) (ex:Bool) (kk:IntKind) (n:Int):indexAddrA Tryz.prog 32 (.slice i k es len cap ex) (.int kk n)=if 0<=n/\n < len/\1=es then some (.ptr i (k+n.toNat * es)) else none:=by kernel_rfl
theorem ln32 (H:AH) (i k es len cap:Nat) (ex:Bool):lenA Tryz.prog 32 H (.slice i k es len cap ex)=some (.int .i64 len):=by kernel_rfl
theorem ln32n (H:AH):lenA Tryz.prog 32 H .nilSlice=some (.int .i64 0):=by kernel_rfl
theorem ia62 (i k es len cap:Nat) (ex:Bool) (kk:IntKind) (n:Int):indexAddrA Tryz.prog 62 (.slice i k es len cap ex) (.int kk n)=if 0<=n/\n < len/\2=es then some (.ptr i (k+n.toNat * es)) else none:=by kernel_rfl
theorem ln62 (H:AH) (i k es len cap:Nat) (ex:Bool):lenA Tryz.prog 62 H (.slice i k es len cap ex)=some (.int .i64 len):=by kernel_rfl
theorem ln62n (H:AH):lenA Tryz.prog 62 H .nilSlice=some (.int .i64 0):=by kernel_rfl
theorem ia63 (i k es len cap:Nat) (ex:Bool) (kk:IntKind) (n:Int):indexAddrA Tryz.prog 63 (.slice i k es len cap ex) (.int kk n)=if 0<=n/\n < len/\2=es then some (.ptr i (k+n.toNat * es)) else none:=by kernel_rfl
theorem ln63 (H:AH) (i k es len cap:Nat) (ex:Bool):lenA Tryz.prog 63 H (.slice i k es len cap ex)=some (.int .i64 len):=by kernel_rfl
theorem ln63n (H:AH):lenA Tryz.prog 63 H .nilSlice=some (.int .i64 0):=by kernel_rfl
theorem ia64 (i k es len cap:Nat) (ex:Bool) (kk:IntKind) (n:Int):indexAddrA Tryz.prog 64 (.slice i k es len cap ex) (.int kk n)=if 0<=n/\n < len/\8=es then some (.ptr i (k+n.toNat * es)) else none:=by kernel_rfl
theorem ln64 (H:AH) (i k es len cap:Nat) (ex:Bool):lenA Tryz.prog 64 H (.slice i k es len cap ex)=some (.int .i64 len):=by kernel_rfl
theorem ln64n (H:AH):lenA Tryz.prog 64 H .nilSlice=some (.int .i64 0):=by kernel_rfl
theorem ia164 (i k es len cap:Nat) (ex:Bool) (kk:IntKind) (n:Int):indexAddrA Tryz.prog 164 (.slice i k es len cap ex) (.int kk n)=if 0<=n/\n < len/\1=es then some (.ptr i (k+n.toNat * es)) else none:=by kernel_rfl
theorem ln164 (H:AH) (i k es len cap:Nat) (ex:Bool):lenA Tryz.prog 164 H (.slice i k es len cap ex)=some (.int .i64 len):=by kernel_rfl
theorem ln164n (H:AH):lenA Tryz.prog 164 H .nilSlice=some (.int .i64 0):=by kernel_rfl
theorem ld3 (H:AH) (i k:Nat):ldA Tryz.prog 3 H i k=(rdCells H i k 1).bind (·.head?):=by kernel_rfl
theorem ld4 (H:AH) (i k:Nat):ldA Tryz.prog 4 H i k=(rdCells H i k 1).bind (·.head?):=by kernel_rfl
theorem ld5 (H:AH) (i k:Nat):ldA Tryz.prog 5 H i k=(rdCells H i k 1).bind (·.head?):=by kernel_rfl
theorem ld9 (H:AH) (i k:Nat):ldA Tryz.prog 9 H i k=(rdCells H i k 1).bind (·.head?):=by kernel_rfl
theorem ld21 (H:AH) (i k:Nat):ldA Tryz.prog 21 H i k=(rdCells H i k 1).bind (·.head?):=by kernel_rfl
theorem ld22 (H:AH) (i k:Nat):ldA Tryz.prog 22 H i k=(rdCells H i k 1).bind (·.head?):=by kernel_rfl
theorem ld24 (H:AH) (i k:Nat):ldA Tryz.prog 24 H i k=(rdCells H i k 1).bind (·.head?):=by kernel_rfl
theorem ld25 (H:AH) (i k:Nat):ldA Tryz.prog 25 H i k=(rdCells H i k 1).bind (·.head?):=by kernel_rfl
theorem ld30 (H:AH) (i k:Nat):ldA Tryz.prog 30 H i k=(rdCells H i k 1).bind (·.head?):=by kernel_rfl
theorem ld31 (H:AH) (i k:Nat):ldA Tryz.prog 31 H i k=(rdCells H i k 1).bind (·.head?):=by kernel_rfl
theorem ld32 (H:AH) (i k:Nat):ldA Tryz.prog 32 H i k=(rdCells H i k 1).bind (·.head?):=by kernel_rfl
theorem ld37 (H:AH) (i k:Nat):ldA Tryz.prog 37 H i k=(rdCells H i k 1).bind (·.head?):=by kernel_rfl
theorem ld38 (H:AH) (i k:Nat):ldA Tryz.prog 38 H i k=(rdCells H i k 1).bind (·.head?):=by kernel_rfl
theorem ld62 (H:AH) (i k:Nat):ldA Tryz.prog 62 H i k=(rdCells H i k 1).bind (·.head?):=by kernel_rfl
theorem ld63 (H:AH) (i k:Nat):ldA Tryz.prog 63 H i k=(rdCells H i k 1).bind (·.head?):=by kernel_rfl
theorem ld64 (H:AH) (i k:Nat):ldA Tryz.prog 64 H i k=(rdCells H i k 1).bind (·.head?):=by kernel_rfl
theorem ld164 (H:AH) (i k:Nat):ldA Tryz.prog 164 H i k=(rdCells H i k 1).bind (·.head?):=by kernel_rfl
theorem ld27 (H:AH) (i k:Nat):ldA Tryz.prog 27 H i k=(rdCells H i k 7).map .agg:=by kernel_rfl
theorem ld29 (H:AH) (i k:Nat):ldA Tryz.prog 29 H i k=(rdCells H i k 10).map .agg:=by kernel_rfl
theorem ld34 (H:AH) (i k:Nat):ldA Tryz.prog 34 H i k=(rdCells H i k 9).map .agg:=by kernel_rfl
theorem ld66 (H:AH) (i k:Nat):ldA Tryz.prog 66 H i k=(rdCells H i k 5).map .agg:=by kernel_rfl
theorem ld74 (H:AH) (i k:Nat):ldA Tryz.prog 74 H i k=(rdCells H i k 2).map .agg:=by kernel_rfl
theorem ld77 (H:AH) (i k:Nat):ldA Tryz.prog 77 H i k=(rdCells H i k 2).map .agg:=by kernel_rfl
theorem ld80 (H:AH) (i k:Nat):ldA Tryz.prog 80 H i k=(rdCells H i k 8).map .agg:=by kernel_rfl
theorem ld69 (H:AH) (i k:Nat):ldA Tryz.prog 69 H i k=(rdCells H i k 16).map .agg:=by kernel_rfl
theorem ld71 (H:AH) (i k:Nat):ldA Tryz.prog 71 H i k=(rdCells H i k 28).map .agg:=by kernel_rfl
theorem ld152 (H:AH) (i k:Nat):ldA Tryz.prog 152 H i k=(rdCells H i k 12).map .agg:=by kernel_rfl
theorem fa29_0 (i k:Nat):fieldAddrA Tryz.prog 29 (.ptr i k) 0=some (.ptr i k):=by kernel_rfl
theorem fa29_1 (i k:Nat):fieldAddrA Tryz.prog 29 (.ptr i k) 1=some (.ptr i (k+1)):=by kernel_rfl
theorem fa29_2 (i k:Nat):fieldAddrA Tryz.prog 29 (.ptr i k) 2=some (.ptr i (k+2)):=by kernel_rfl
theorem fa29_3 (i k:Nat):fieldAddrA Tryz.prog 29 (.ptr i k) 3=some (.ptr i (k+3)):=by kernel_rfl
theorem fa34_0 (i k:Nat):fieldAddrA Tryz.prog 34 (.ptr i k) 0=some (.ptr i k):=by kernel_rfl
theorem fa34_1 (i k:Nat):fieldAddrA Tryz.prog 34 (.ptr i k) 1=some (.ptr i (k+1)):=by kernel_rfl
theorem fa34_2 (i k:Nat):fieldAddrA Tryz.prog 34 (.ptr i k) 2=some (.ptr i (k+2)):=by kernel_rfl
theorem fa34_3 (i k:Nat):fieldAddrA Tryz.prog 34 (.ptr i k) 3=some (.ptr i (k+3)):=by kernel_rfl
theorem fa34_4 (i k:Nat):fieldAddrA Tryz.prog 34 (.ptr i k) 4=some (.ptr i (k+4)):=by kernel_rfl
theorem fa34_5 (i k:Nat):fieldAddrA Tryz.prog 34 (.ptr i k) 5=some (.ptr i (k+5)):=by kernel_rfl
theorem fa34_6 (i k:Nat):fieldAddrA Tryz.prog 34 (.ptr i k) 6=some (.ptr i (k+6)):=by kernel_rfl
theorem fa34_7 (i k:Nat):fieldAddrA Tryz.prog 34 (.ptr i k) 7=some (.ptr i (k+7)):=by kernel_rfl
theorem fa34_8 (i k:Nat):fieldAddrA Tryz.prog 34 (.ptr i k) 8=some (.ptr i (k+8)):=by kernel_rfl
theorem fa66_0 (i k:Nat):fieldAddrA Tryz.prog 66 (.ptr i k) 0=some (.ptr i k):=by kernel_rfl
theorem fa66_1 (i k:Nat):fieldAddrA Tryz.prog 66 (.ptr i k) 1=some (.ptr i (k+1)):=by kernel_rfl
theorem fa66_2 (i k:Nat):fieldAddrA Tryz.prog 66 (.ptr i k) 2=some (.ptr i (k+2)):=by kernel_rfl
theorem fa66_3 (i k:Nat):fieldAddrA Tryz.prog 66 (.ptr i k) 3=some (.ptr i (k+3)):=by kernel_rfl
theorem fa66_4 (i k:Nat):fieldAddrA Tryz.prog 66 (.ptr i k) 4=some (.ptr i (k+4)):=by kernel_rfl
theorem fa80_0 (i k:Nat):fieldAddrA Tryz.prog 80 (.ptr i k) 0=some (.ptr i k):=by kernel_rfl
theorem fa80_1 (i k:Nat):fieldAddrA Tryz.prog 80 (.ptr i k) 1=some (.ptr i (k+1)):=by kernel_rfl
theorem fa80_2 (i k:Nat):fieldAddrA Tryz.prog 80 (.ptr i k) 2=some (.ptr i (k+2)):=by kernel_rfl
theorem fa80_3 (i k:Nat):fieldAddrA Tryz.prog 80 (.ptr i k) 3=some (.ptr i (k+3)):=by kernel_rfl
theorem fa80_4 (i k:Nat):fieldAddrA Tryz.prog 80 (.ptr i k) 4=some (.ptr i (k+4)):=by kernel_rfl
theorem fa80_5 (i k:Nat):fieldAddrA Tryz.prog 80 (.ptr i k) 5=some (.ptr i (k+5)):=by kernel_rfl
theorem fa80_6 (i k:Nat):fieldAddrA Tryz.prog 80 (.ptr i k) 6=some (.ptr i (k+6)):=by kernel_rfl
theorem fa80_7 (i k:Nat):fieldAddrA Tryz.prog 80 (.ptr i k) 7=some (.ptr i (k+7)):=by kernel_rfl
theorem fa27_0 (i k:Nat):fieldAddrA Tryz.prog 27 (.ptr i k) 0=some (.ptr i k):=by kernel_rfl
theorem fa27_1 (i k:Nat):fieldAddrA Tryz.prog 27 (.ptr i k) 1=some (.ptr i (k+1)):=by kernel_rfl
theorem fa27_2 (i k:Nat):fieldAddrA Tryz.prog 27 (.ptr i k) 2=some (.ptr i (k+2)):=by kernel_rfl
theorem fa27_3 (i k:Nat):fieldAddrA Tryz.prog 27 (.ptr i k) 3=some (.ptr i (k+3)):=by kernel_rfl
theorem fa27_4 (i k:Nat):fieldAddrA Tryz.prog 27 (.ptr i k) 4=some (.ptr i (k+4)):=by kernel_rfl
theorem fa27_5 (i k:Nat):fieldAddrA Tryz.prog 27 (.ptr i k) 5=some (.ptr i (k+5)):=by kernel_rfl
theorem fa27_6 (i k:Nat):fieldAddrA Tryz.prog 27 (.ptr i k) 6=some (.ptr i (k+6)):=by kernel_rfl
theorem fa74_0 (i k:Nat):fieldAddrA Tryz.prog 74 (.ptr i k) 0=some (.ptr i k):=by kernel_rfl
theorem fa74_1 (i k:Nat):fieldAddrA Tryz.prog 74 (.ptr i k) 1=some (.ptr i (k+1)):=by kernel_rfl
theorem fa77_0 (i k:Nat):fieldAddrA Tryz.prog 77 (.ptr i k) 0=some (.ptr i k):=by kernel_rfl
theorem fa77_1 (i k:Nat):fieldAddrA Tryz.prog 77 (.ptr i k) 1=some (.ptr i (k+1)):=by kernel_rfl
theorem fa71_0 (i k:Nat):fieldAddrA Tryz.prog 71 (.ptr i k) 0=some (.ptr i k):=by kernel_rfl
theorem fa71_1 (i k:Nat):fieldAddrA Tryz.prog 71 (.ptr i k) 1=some (.ptr i (k+1)):=by kernel_rfl
theorem fa71_2 (i k:Nat):fieldAddrA Tryz.prog 71 (.ptr i k) 2=some (.ptr i (k+2)):=by kernel_rfl
theorem fa71_3 (i k:Nat):fieldAddrA Tryz.prog 71 (.ptr i k) 3=some (.ptr i (k+9)):=by kernel_rfl
theorem fa71_4 (i k:Nat):fieldAddrA Tryz.prog 71 (.ptr i k) 4=some (.ptr i (k+10)):=by kernel_rfl
theorem fa71_5 (i k:Nat):fieldAddrA Tryz.prog 71 (.ptr i k) 5=some (.ptr i (k+11)):=by kernel_rfl
theorem fa71_6 (i k:Nat):fieldAddrA Tryz.prog 71 (.ptr i k) 6=some (.ptr i (k+27)):=by kernel_rfl
structure SlS (T es:Nat) (H:AH) (v:AV) (rows:List (List AV)):Prop where
 len:∀ G,lenA Tryz.prog T G v=some (I rows.length)
 ix:∀ (j:Nat) (r:List AV),rows[j]? =some r->∃ i k,(∀ kk,indexAddrA Tryz.prog T v (.int kk j)=some (.ptr i k))/\rdCells H i k es=some r
 old:(v=.nilSlice/\rows=[])∨∃ i k c e,v=.slice i k es rows.length c e/\okC H i=true/\rdCells H i k (rows.length * es)=some rows.flatten
theorem okC_same {H G:AH} (h:∀ j,j < H.length->G[j]? =H[j]?) {i:Nat} (hi:okC H i=true):okC G i=true:=by
 have hl:i < H.length:=by
   rcases Nat.lt_or_ge i H.length with c | c
   · exact c
   · unfold okC at hi; rw [List.getElem?_eq_none c] at hi; cases hi
 unfold okC at hi ⊢
 rw [h i hl]; exact hi
theorem okC_ro {H:AH} {i:Nat} (hi:okC H i=true):okC (ro H) i=true:=by
 unfold okC at hi ⊢
 unfold ro
 rw [List.getElem?_map]
 cases h:H[i]? with
 | none=>rw [h] at hi; exact hi
 | some o=>rw [h] at hi; cases o <;> first | rfl | (cases hi)
theorem rd_same {H G:AH} (h:∀ j,j < H.length->G[j]? =H[j]?) {i k n:Nat} {xs:List AV} (hr:rdCells H i k n=some xs):rdCells G i k n=some xs:=by
 have hi:=rd_lt hr
 unfold rdCells at hr ⊢
 rw [h i hi]; exact hr
theorem SlS.same {T es:Nat} {H G:AH} {v:AV} {rows:List (List AV)} (h:SlS T es H v rows) (hs:∀ j,j < H.length->G[j]? =H[j]?):SlS T es G v rows:=
 ⟨h.len,fun j x hx=>by obtain ⟨i,k,h1,h2⟩:=h.ix j x hx; exact ⟨i,k,h1,rd_same hs h2⟩,h.old.imp id fun ⟨i,k,c,e,h1,h2,h3⟩=>⟨i,k,c,e,h1,okC_same hs h2,rd_same hs h3⟩⟩
theorem SlS.app {T es:Nat} {H:AH} {v:AV} {rows:List (List AV)} (h:SlS T es H v rows) (L:AH):SlS T es (H++L) v rows:=h.same fun j hj=>List.getElem?_append_left hj
theorem SlS.ro {T es:Nat} {H:AH} {v:AV} {rows:List (List AV)} (h:SlS T es H v rows):SlS T es (ro H) v rows:=
 ⟨h.len,fun j x hx=>by obtain ⟨i,k,h1,h2⟩:=h.ix j x hx; exact ⟨i,k,h1,ro_rd h2⟩,h.old.imp id fun ⟨i,k,c,e,h1,h2,h3⟩=>⟨i,k,c,e,h1,okC_ro h2,ro_rd h3⟩⟩
theorem SlS.oldA {T es:Nat} {H:AH} {v:AV} {rows:List (List AV)} (h:SlS T es H v rows):oldA H v=true:=by
 rcases h.old with ⟨e,_⟩ | ⟨i,k,c,x,e,h',_⟩
 · rw [e]; rfl
 · rw [e]; simpa only [Go.Dv.oldA] using h'
theorem flat1 {α β:Type} (f:α->β):∀ (l:List α),(l.map fun x=>[f x]).flatten=l.map f
 | []=>rfl
 | x::l=>by rw [List.map_cons,List.flatten_cons,flat1 f l]; rfl
theorem rd_cell {H:AH} {i k n:Nat} {xs:List AV} (h:rdCells H i k n=some xs) {j:Nat} {x:AV} (hx:xs[j]? =some x):rdCells H i (k+j) 1=some [x]:=by
 have hl:=rd_len h
 have hj:=lt_of_get hx
 rw [rd_sub h j 1 (by omega)]
 congr 1
 rw [List.drop_eq_getElem_cons hj]
 rw [List.getElem?_eq_getElem hj] at hx
 rw [Option.some.inj hx]; rfl
theorem inc_i {j:Nat} (h:j < 2 ^ 60):IntKind.i64.wrap ((j:Int)+1)=((j+1:Nat):Int):=by rw [IntWalk.i64_in _ (by omega)]; omega
end Go.Dv
