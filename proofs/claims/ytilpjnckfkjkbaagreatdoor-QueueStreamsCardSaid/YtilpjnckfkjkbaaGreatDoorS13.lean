/- Part 13 of the walks (own work). -/
import Derived.Test.YtilpjnckfkjkbaaGreatDoorS12
open Bool renaming eq_iff_iff→fA,false_and→bd,true_and→aZ
open ByteArray renaming ext→Ts
open List renaming append_assoc→aE,append_nil→af,getElem?_append_right→aw,getElem?_cons_zero→g7,getElem?_eq_getElem→aj,getElem?_map→aI,length_append→ai,length_map→au,length_set→ar,replicate→aA,set_cons_zero→kg
open Nat renaming le_refl→ax,reduceAdd→aW,reduceEqDiff→aK,reduceLT→aM,reduceLeDiff→aF,sub_self→dI
open Option renaming map_eq_some_iff→ah
open Option.some renaming inj→aC
open Go.Proofs.Tryz renaming prog→aa
set_option maxRecDepth 100000
set_option maxHeartbeats 4000000
set_option linter.unusedSimpArgs false
set_option linter.unusedVariables false
namespace Go.Dv
open Go.Proofs
attribute [local congr] aH bP bj bO bQ
theorem yA (H L:AH):Ev aa C0 W0 130 [] (H++L)=some (.map (H.length+L.length),H++(L++[.map tI 25])):=by rw [Hy,ai,aE]
def eS:ByteArray:=⟨#[]⟩
theorem LP {s:ByteArray} (h:sEq s eS=false):0 < s.size:=by
 rcases Nat.eq_zero_or_pos s.size with c | c
 · have:s=eS:=Ts (by
     have:s.data.size=0:=c
     rw [Array.size_eq_zero_iff] at this; exact this)
   rw [this] at h
   have h2:sEq eS eS=true:=by rw [qg]
   rw [h2] at h; cases h
 · exact c
def xB (s:ByteArray):Bool:=bA (fun j=>uj (iT s (j:Int))) s.size 0
def sw (s:ByteArray):Bool:=!sEq s eS && vC (iT s 0) && xB s
def lA (s:ByteArray):Bool:=sw s && leB s.size 16 && !sIn dg s
theorem A0 {H:AH} {s:ByteArray}  (hN:s.size < 2 ^ 60):∀ (d j:Nat) (tm:List AV) (K:AH),s.size - j=d->j<=s.size->al H K->tm.length=23->tm.getD 0 uA=.str s->tm.getD 3 uA=I ((j:Nat):Int) ->
   ∃ X Y K1 K2,EvC aa C0 W0 plN DA (tm,K)=br (bA (fun j=>uj (iT s (j:Int))) (s.size) (j)) (some (.exit 0,(X,K1))) (some (.ret,(Y,K2)))/\(X.length=23/\al H K1/\X.getD 0 uA=.str s)/\Y.length=23/\Y.getD 2 uA=.bool false:=by
 intro d
 induction d with
 | zero =>
   intro j tm K hd hj hA hlen h0 h3
   have hjl:j=s.size:=by omega
   have hlt:ltB (j:Int) (s.size:Nat)=false:=db (by omega)
   rw [cN (by omega),E8]
   simp (maxSteps:=4000000) -implicitDefEqProofs only [xY,Tryz.f119,aP,hlen,h0,h3,hlt,ln9,↓ao,an,eu,reduceCtorEq,reduceIte,aM,aK,aW,aF]
   exact ⟨_,tm.set 2 (.bool false),_,K,rfl,⟨by first | exact hlen | simp only [ar,hlen],hA,by first | exact h0 | simp only [hlen,h0,gB,sevalprocAttr]⟩,by simp only [ls,hlen],by simp only [hlen,dq,aM]⟩
 | succ d ih =>
   intro j tm K hd hj hA hlen h0 h3
   have hjN:j < s.size:=by omega
   have hlt:ltB (j:Int) (s.size:Nat)=true:=cQ (by omega)
   have hw:=cD (j:=j) (by omega)
   have hjj:((0:Int)<=(j:Int)/\(j:Int) < (s.size:Int))=True:=eq_true (by omega)
   rw [ch hjN,E8]
   rw [<-af K]
   cases hp:(uj (iT s (j:Int))) with
   | true =>
     simp only [aZ]
     simp (maxSteps:=4000000) -implicitDefEqProofs only [xY,Tryz.f119,aP,hlen,h0,h3,hlt,hw,ln9,hjj,↓fD zK,↓Qf,Qk,hp,↓ao,an,eu,reduceCtorEq,reduceIte,aM,aK,aW,aF]
     exact ih (j+1) _ _ (by omega) (by omega) (by first | exact hA | exact hA.bS _ | exact (hA.bS _).bS _ | exact hA) (by simp only [ls,hlen]) (by simp only [hlen,h0,gB,sevalprocAttr]) (by simp only [hlen,h3,gB,sevalprocAttr])
   | false =>
     simp only [bd]
     simp (maxSteps:=4000000) -implicitDefEqProofs only [xY,Tryz.f119,aP,hlen,h0,h3,hlt,hw,ln9,hjj,↓fD zK,↓Qf,Qk,hp,↓ao,an,eu,reduceCtorEq,reduceIte,aM,aK,aW,aF]
     exact ⟨tm,_,K,_,rfl,⟨hlen,hA,h0⟩,by simp only [ls,hlen],by simp only [hlen,gB,sevalprocAttr]⟩
theorem zP {H:AH} {s:ByteArray} {tm:List AV} {K:AH} {Z:Option (bu × St)} (hX:EvC aa C0 W0 plN DA (tm,K)=Z)  (hN:s.size < 2 ^ 60) (hA:al H K) (hlen:tm.length=23) (h0:tm.getD 0 uA=.str s) (h3:tm.getD 3 uA=I ((0:Nat):Int)) :
   ∃ X Y K1 K2,Z=br (bA (fun j=>uj (iT s (j:Int))) (s.size) (0)) (some (.exit 0,(X,K1))) (some (.ret,(Y,K2)))/\(X.length=23/\al H K1/\X.getD 0 uA=.str s)/\Y.length=23/\Y.getD 2 uA=.bool false:=by
 subst hX
 exact A0  hN (s.size) 0 tm K (by omega) (by omega) hA hlen h0 h3
theorem Gv {H:AH} {s:ByteArray}  (hN:s.size < 2 ^ 60):∀ (d j:Nat) (tm:List AV) (K:AH),s.size - j=d->j<=s.size->al H K->tm.length=33->tm.getD 0 uA=.str s->tm.getD 23 uA=I s.size->tm.getD 24 uA=I ((j:Nat):Int) ->
   ∃ X Y K1 K2,EvC aa C0 W0 plN DC (tm,K)=br (bA (fun j=>uj (iT s (j:Int))) (s.size) (j)) (some (.exit 0,(X,K1))) (some (.ret,(Y,K2)))/\(X.length=33/\al H K1/\X.getD 0 uA=.str s/\X.getD 23 uA=I s.size)/\Y.length=33/\Y.getD 2 uA=.bool false:=by
 intro d
 induction d with
 | zero =>
   intro j tm K hd hj hA hlen h0 h23 h24
   have hjl:j=s.size:=by omega
   have hlt:ltB (j:Int) (s.size:Nat)=false:=db (by omega)
   rw [cN (by omega),Fa]
   simp (maxSteps:=4000000) -implicitDefEqProofs only [xZ,Tryz.f104,aP,hlen,h0,h23,h24,hlt,↓ao,an,eu,reduceCtorEq,reduceIte,aM,aK,aW,aF]
   exact ⟨_,tm.set 2 (.bool false),_,K,rfl,⟨by first | exact hlen | simp only [ar,hlen],hA,by first | exact h0 | simp only [hlen,h0,gB,sevalprocAttr],by first | exact h23 | simp only [hlen,h23,gB,sevalprocAttr]⟩,by simp only [ls,hlen],by simp only [hlen,dq,aM]⟩
 | succ d ih =>
   intro j tm K hd hj hA hlen h0 h23 h24
   have hjN:j < s.size:=by omega
   have hlt:ltB (j:Int) (s.size:Nat)=true:=cQ (by omega)
   have hw:=cD (j:=j) (by omega)
   have hjj:((0:Int)<=(j:Int)/\(j:Int) < (s.size:Int))=True:=eq_true (by omega)
   rw [ch hjN,Fa]
   rw [<-af K]
   cases hp:(uj (iT s (j:Int))) with
   | true =>
     simp only [aZ]
     simp (maxSteps:=4000000) -implicitDefEqProofs only [xZ,Tryz.f104,aP,hlen,h0,h23,h24,hlt,hw,hjj,↓fD zK,↓Qg,Ql,hp,↓ao,an,eu,reduceCtorEq,reduceIte,aM,aK,aW,aF]
     exact ih (j+1) _ _ (by omega) (by omega) (by first | exact hA | exact hA.bS _ | exact (hA.bS _).bS _ | exact hA) (by simp only [ls,hlen]) (by simp only [hlen,h0,gB,sevalprocAttr]) (by simp only [hlen,h23,gB,sevalprocAttr]) (by simp only [hlen,h24,gB,sevalprocAttr])
   | false =>
     simp only [bd]
     simp (maxSteps:=4000000) -implicitDefEqProofs only [xZ,Tryz.f104,aP,hlen,h0,h23,h24,hlt,hw,hjj,↓fD zK,↓Qg,Ql,hp,↓ao,an,eu,reduceCtorEq,reduceIte,aM,aK,aW,aF]
     exact ⟨tm,_,K,_,rfl,⟨hlen,hA,h0,h23⟩,by simp only [ls,hlen],by simp only [hlen,gB,sevalprocAttr]⟩
theorem Dr {H:AH} {s:ByteArray} {tm:List AV} {K:AH} {Z:Option (bu × St)} (hX:EvC aa C0 W0 plN DC (tm,K)=Z)  (hN:s.size < 2 ^ 60) (hA:al H K) (hlen:tm.length=33) (h0:tm.getD 0 uA=.str s) (h23:tm.getD 23 uA=I s.size) (h24:tm.getD 24 uA=I ((0:Nat):Int)) :
   ∃ X Y K1 K2,Z=br (bA (fun j=>uj (iT s (j:Int))) (s.size) (0)) (some (.exit 0,(X,K1))) (some (.ret,(Y,K2)))/\(X.length=33/\al H K1/\X.getD 0 uA=.str s/\X.getD 23 uA=I s.size)/\Y.length=33/\Y.getD 2 uA=.bool false:=by
 subst hX
 exact Gv  hN (s.size) 0 tm K (by omega) (by omega) hA hlen h0 h23 h24
theorem KP {s:ByteArray} (hN:s.size < 2 ^ 60) (H:AH):Ev aa C0 W0 119 [.str s] H=some (.bool (sw s),H):=by
 obtain ⟨tm,ht,g0,g1⟩:=tm1 (.str s) 23 (by decide)
 rw [VN,ht]
 rw [<-af (ro H)]
 unfold sw xB
 cases hs:sEq s eS with
 | true =>
   simp (maxSteps:=4000000) -implicitDefEqProofs only [Py,Tryz.f119,aP,g0,g1,show (⟨#[]⟩:ByteArray)=eS from rfl,hs,↓ao,an,eu,reduceCtorEq,reduceIte,aM,aK,aW,aF]
 | false =>
   have h0:((0:Int)<=0/\(0:Int) < (s.size:Int))=True:=eq_true (by have:=LP hs; omega)
   cases hl:vC (iT s 0) with
   | false =>
     simp (maxSteps:=4000000) -implicitDefEqProofs only [Py,Tryz.f119,aP,g0,g1,show (⟨#[]⟩:ByteArray)=eS from rfl,hs,h0,↓fD zK,↓J1,KM,hl,↓ao,an,eu,reduceCtorEq,reduceIte,aM,aK,aW,aF]
   | true =>
     simp (maxSteps:=4000000) -implicitDefEqProofs only [Py,Tryz.f119,aP,g0,g1,show (⟨#[]⟩:ByteArray)=eS from rfl,hs,h0,↓fD zK,↓J1,KM,hl,↓ao,an,eu,reduceCtorEq,reduceIte,aM,aK,aW,aF]
     generalize hX:EvC aa C0 W0 _ (Code.loop _) _=Z
     obtain ⟨X,Y,K1,K2,he,xs,y0,y1⟩:=zP (s:=s) hX hN (al.app _ _) (by simp only [ls,g0]) (by simp only [g0,g1,gB,sevalprocAttr]; try rfl) (by simp only [g0,gB,sevalprocAttr]; try rfl)
     subst he
     simp (maxSteps:=4000000) +contextual -implicitDefEqProofs only [xs.1,y0,y1,↓ao,an,eu,reduceCtorEq,reduceIte,aM,aK,aW,aF]
     cases bA (fun j=>uj (iT s (j:Int))) s.size 0 <;> rfl
def xm (s:ByteArray):Bool:=!sEq s eS && !ltB 16 s.size && vC (iT s 0) && !sIn dg s && xB s
theorem OG (s:ByteArray):xm s=lA s:=by
 unfold xm lA sw
 have:leB (s.size:Int) 16=!ltB 16 (s.size:Int):=by
   rw [fA,Bool.not_eq_true',dp,fe]
 rw [this]
 cases sEq s eS <;> cases ltB 16 (s.size:Int) <;> cases vC (iT s 0) <;> cases sIn dg s <;> cases xB s <;> rfl
theorem KQ {s:ByteArray} (hN:s.size < 2 ^ 60) (H:AH):Ev aa C0 W0 104 [.str s] H=some (.bool (lA s),H):=by
 rw [<-OG]
 obtain ⟨tm,ht,g0,g1⟩:=tm1 (.str s) 33 (by decide)
 rw [VT,ht]
 rw [<-af (ro H)]
 unfold xm xB
 have hlk:=P4 (H:=ro H++[.map tI 25]) (i:=(ro H).length) (l:=dg) (c:=25) (by rw [aw (ax _),dI]; rfl) s
 cases hs:sEq s eS with
 | true=>simp (maxSteps:=4000000) -implicitDefEqProofs only [G9,Tryz.f104,aP,g0,g1,show (⟨#[]⟩:ByteArray)=eS from rfl,hs,ln9,↓ao,an,eu,reduceCtorEq,reduceIte,aM,aK,aW,aF]
 | false =>
   have h0:((0:Int)<=0/\(0:Int) < (s.size:Int))=True:=eq_true (by have:=LP hs; omega)
   cases hl:ltB 16 (s.size:Int) with
   | true=>simp (maxSteps:=4000000) -implicitDefEqProofs only [G9,Tryz.f104,aP,g0,g1,show (⟨#[]⟩:ByteArray)=eS from rfl,hs,ln9,hl,↓ao,an,eu,reduceCtorEq,reduceIte,aM,aK,aW,aF]
   | false =>
     cases hp:vC (iT s 0) with
     | false=>simp (maxSteps:=4000000) -implicitDefEqProofs only [G9,Tryz.f104,aP,g0,g1,show (⟨#[]⟩:ByteArray)=eS from rfl,hs,ln9,hl,h0,hp,↓fD zK,↓E4,E6,↓ao,an,eu,reduceCtorEq,reduceIte,aM,aK,aW,aF]
     | true =>
       cases hw:sIn dg s with
       | true=>simp (maxSteps:=4000000) -implicitDefEqProofs only [G9,Tryz.f104,aP,g0,g1,show (⟨#[]⟩:ByteArray)=eS from rfl,hs,ln9,hl,h0,hp,hw,↓fD zK,↓E4,E6,↓Qh,yA,hlk,↓ao,an,eu,reduceCtorEq,reduceIte,aM,aK,aW,aF]
       | false =>
         simp (maxSteps:=4000000) -implicitDefEqProofs only [G9,Tryz.f104,aP,g0,g1,show (⟨#[]⟩:ByteArray)=eS from rfl,hs,ln9,hl,h0,hp,hw,↓fD zK,↓E4,E6,↓Qh,yA,hlk,↓ao,an,eu,reduceCtorEq,reduceIte,aM,aK,aW,aF]
         generalize hX:EvC aa C0 W0 _ (Code.loop _) _=Z
         obtain ⟨X,Y,K1,K2,he,xs,y0,y1⟩:=Dr (s:=s) hX hN (al.app _ _) (by simp only [ls,g0]) (by simp only [g0,g1,gB,sevalprocAttr]; try rfl) (by simp only [g0,ln9,gB,sevalprocAttr]; try rfl) (by simp only [g0,gB,sevalprocAttr]; try rfl)
         subst he
         simp (maxSteps:=4000000) +contextual -implicitDefEqProofs only [xs.1,y0,y1,↓ao,an,eu,reduceCtorEq,reduceIte,aM,aK,aW,aF]
         cases bA (fun j=>uj (iT s (j:Int))) s.size 0 <;> rfl
theorem Xs (H:AH):bf aa none 164 25 [(0,AV.str { data:=#[102,117,110,99] }),(1,AV.str { data:=#[107,101,114,110,101,108] }),(2,AV.str { data:=#[98,117,102,102,101,114] }),(3,AV.str { data:=#[105,110,116] }),(4,AV.str { data:=#[115,104,97,114,101,100] }),(5,AV.str { data:=#[108,101,116] }),(6,AV.str { data:=#[105,102] }),(7,AV.str { data:=#[101,108,115,101] }),(8,AV.str { data:=#[119,104,105,108,101] }),(9,AV.str { data:=#[98,114,101,97,107] }),(10,AV.str { data:=#[99,111,110,116,105,110,117,101] }),(11,AV.str { data:=#[114,101,116,117,114,110] }),(12,AV.str { data:=#[98,97,114,114,105,101,114] }),(13,AV.str { data:=#[97,116,111,109,105,99] }),(14,AV.str { data:=#[99,111,108,108,101,99,116] }),(15,AV.str { data:=#[116,105,100] }),(16,AV.str { data:=#[98,105,100] }),(17,AV.str { data:=#[100,105,109] }),(18,AV.str { data:=#[103,114,105,100] }),(19,AV.str { data:=#[109,105,110] }),(20,AV.str { data:=#[109,97,120] }),(21,AV.str { data:=#[97,100,100] }),(22,AV.str { data:=#[97,110,100] }),(23,AV.str { data:=#[111,114] }),(24,AV.str { data:=#[120,111,114] })] H=some (.slice H.length 0 1 25 25 true,H++[.cells (dg.map .str) 9]):=by kernel_rfl
theorem WK (H:AH):Ev aa C0 W0 121 [] H=some (.slice H.length 0 1 25 25 true,H++[.cells (dg.map .str) 9]):=by
 have g0:(([]:List AV)++aA (2 - ([]:List AV).length) uA).length=2:=by simp
 rw [VL]
 generalize ([]:List AV)++aA (2 - ([]:List AV).length) uA=tm at *
 simp (maxSteps:=4000000) -implicitDefEqProofs only [Xb,Tryz.f121,aP,g0,Xs,↓ao,an,eu,reduceCtorEq,reduceIte,aM,aK,aW,aF]
theorem Sr (H:AH) (i j:Nat) (h:j < 25) (kk:IntKind):aG aa 164 (.slice i 0 1 25 25 true) (.int kk j)=some (.ptr i (0+j * 1)):=by
 rw [Qe,if_pos (by refine ⟨by omega,by omega,rfl⟩)]; rfl
theorem FZ (H:AH):SlS 164 1 (H++[.cells (dg.map .str) 9]) (.slice H.length 0 1 25 25 true) (dg.map fun w=>[AV.str w]) where
 len:=fun G=>by rw [P0]; rfl
 ix:=fun j r hr=>by
   rw [aI] at hr
   obtain ⟨w,hw,rfl⟩:=ah.1 hr
   have hj:j < 25:=aJ hw
   refine ⟨H.length,0+j * 1,Sr H _ j hj,?_⟩
   rw [gu]
   unfold ak
   simp only [g7]
   have hl:(dg.map AV.str).length=25:=rfl
   rw [if_pos (by rw [hl]; omega)]
   congr 1
   have hj':j < (dg.map AV.str).length:=by rw [hl]; exact hj
   rw [show 0+j * 1=j by omega,List.drop_eq_getElem_cons hj',List.take_succ_cons,List.take_zero,List.getElem_map]
   congr 2
   have hj2:j < dg.length:=hj
   rw [aj hj2] at hw
   exact aC hw
 old:=.inr ⟨_,_,_,_,rfl,by unfold okC; rw [aw (ax _),dI]; rfl,by rw [pF,gu]; rfl⟩
theorem Wp {s:ByteArray} (hN:s.size < 2 ^ 60) (H:AH):Ev aa C0 W0 96 [.str s] H=some (.bool (lA s),H):=by
 obtain ⟨tm,ht,g0,g1⟩:=tm1 (.str s) 16 (by decide)
 rw [Yy,ht]
 rw [<-af (ro H)]
 unfold lA
 have hin:=fun (L:AH)=>WL (s:=s) (FZ (ro H++L)) (by decide)
 have hw:=fun (L:AH)=>WK (ro H++L)
 simp only [ai,aE] at hin hw
 have hin:=hin []
 simp only [List.length_nil,Nat.add_zero,List.nil_append] at hin
 cases hs:sw s with
 | false=>simp (maxSteps:=4000000) -implicitDefEqProofs only [c96,Tryz.f96,aP,g0,g1,hs,↓J2,KP hN,↓ao,an,eu,reduceCtorEq,reduceIte,aM,aK,aW,aF]
 | true =>
   cases hl:leB (s.size:Int) 16 with
   | false=>simp (maxSteps:=4000000) -implicitDefEqProofs only [c96,Tryz.f96,aP,g0,g1,hs,↓J2,KP hN,ln9,hl,↓ao,an,eu,reduceCtorEq,reduceIte,aM,aK,aW,aF]
   | true=>simp (maxSteps:=4000000) -implicitDefEqProofs only [c96,Tryz.f96,aP,g0,g1,hs,↓J2,KP hN,ln9,hl,↓Wk,hw,↓Wl,hin,↓ao,an,eu,reduceCtorEq,reduceIte,aM,aK,aW,aF]
end Go.Dv
namespace Go.Dv
open Go.Proofs
attribute [local congr] aH bP bj bO bQ
structure Prm where
 name:ByteArray
 buf:Bool
structure Arr where
 name:ByteArray
 size:Int
structure Ins where
 kind:Int
 op:Int
 d:Int
 a:Int
 b:Int
 imm:Int
 to:Int
 join:Int
structure Cod where
 name:ByteArray
 params:List Prm
 shared:List Arr
 loc:Int
 insns:List Ins
def iO (p:Prm):List AV:=[.str p.name,.bool p.buf]
def jS (a:Arr):List AV:=[.str a.name,I a.size]
def ew (x:Ins):List AV:=[I x.kind,I x.op,I x.d,I x.a,I x.b,.int .i32 x.imm,I x.to,I x.join]
def bF (c:Cod) (vp vs vi:AV):List AV:=[.str c.name,vp,vs,I c.loc,vi]
def eD (n:Int):Prop:=-2147483648<=n/\n < 2147483648
structure dO (H:AH) (c:Cod) (vp vs vi:AV):Prop where
 p:SlS 62 2 H vp (c.params.map iO)
 s:SlS 63 2 H vs (c.shared.map jS)
 i:SlS 64 8 H vi (c.insns.map ew)
 np:c.params.length < 2 ^ 50
 ns:c.shared.length < 2 ^ 50
 ni:c.insns.length < 2 ^ 50
 nm:c.name.size < 2 ^ 60
 pn:∀ p∈c.params,p.name.size < 2 ^ 60
 sn:∀ a∈c.shared,a.name.size < 2 ^ 60
 im:∀ x∈c.insns,eD x.imm
theorem dO.ro {H:AH} {c:Cod} {vp vs vi:AV} (h:dO H c vp vs vi):dO (ro H) c vp vs vi:={ h with p:=h.p.ro,s:=h.s.ro,i:=h.i.ro }
theorem dO.aX {H K:AH} {c:Cod} {vp vs vi:AV} (h:dO H c vp vs vi) (hA:al H K):dO K c vp vs vi:={ h with p:=h.p.same hA,s:=h.s.same hA,i:=h.i.same hA }
theorem dO.lp {H:AH} {c:Cod} {vp vs vi:AV} (h:dO H c vp vs vi) (G:AH):dR aa 62 G vp=some (I c.params.length):=by have:=h.p.len G; rwa [au] at this
theorem dO.ls {H:AH} {c:Cod} {vp vs vi:AV} (h:dO H c vp vs vi) (G:AH):dR aa 63 G vs=some (I c.shared.length):=by have:=h.s.len G; rwa [au] at this
theorem dO.li {H:AH} {c:Cod} {vp vs vi:AV} (h:dO H c vp vs vi) (G:AH):dR aa 64 G vi=some (I c.insns.length):=by have:=h.i.len G; rwa [au] at this
def rq (n:Int):Bool:=eqB n 0 || eqB n 6 || eqB n 7 || eqB n 18 || eqB n 19 || eqB n 5
theorem Qs (b:Bool) (k:IntKind) (x x':Int) (y y':Bool) (H:AH):br b (some (AV.tuple [.int k x,.bool y],H)) (some (AV.tuple [.int k x',.bool y'],H))=some (.tuple [.int k (br b x x'),.bool (br b y y')],H):=by cases b <;> rfl
theorem Aq (H G:AH) (b:Bool) (k:IntKind) (n:Int):kj true H (.tuple [.int k n,.bool b],G)=some (.tuple [.int k n,.bool b],H):=rfl
def cP (u:Bool) (n l:Int):Bool:=br u (leB 0 n && ltB n l) (eqB n 0)
theorem WI (n:Int) (H:AH):∃ v,Ev aa C0 W0 132 [I n] H=some (.tuple [.int .i32 v,.bool (rq n)],H):=by
 obtain ⟨tm,ht,g0,g1⟩:=tm1 (I n) 15 (by decide)
 rw [VG,ht]
 rw [<-af (ro H)]
 unfold rq
 simp (maxSteps:=4000000) +contextual -implicitDefEqProofs only [W7,Tryz.f132,aP,g0,g1,Qs,Aq,↓ao,an,eu,sevalprocAttr]
 refine ⟨_,congrArg (fun b=>some (AV.tuple [.int .i32 _,.bool b],H)) ?_⟩
 cases eqB n 0 <;> cases eqB n 6 <;> cases eqB n 7 <;> cases eqB n 18 <;> cases eqB n 19 <;> cases eqB n 5 <;> rfl
theorem WG (n:Int) (H:AH):∃ v,Ev aa C0 W0 151 [I n] H=some (.tuple [.int .i32 v,.bool (rq n)],H):=by
 obtain ⟨tm,ht,g0,g1⟩:=tm1 (I n) 15 (by decide)
 rw [VC,ht]
 rw [<-af (ro H)]
 unfold rq
 simp (maxSteps:=4000000) +contextual -implicitDefEqProofs only [W4,Tryz.f151,aP,g0,g1,Qs,Aq,↓ao,an,eu,sevalprocAttr]
 refine ⟨_,congrArg (fun b=>some (AV.tuple [.int .i32 _,.bool b],H)) ?_⟩
 cases eqB n 0 <;> cases eqB n 6 <;> cases eqB n 7 <;> cases eqB n 18 <;> cases eqB n 19 <;> cases eqB n 5 <;> rfl
theorem mX (n:Int) (H:AH):Ev aa C0 W0 105 [I n] H=some (.bool (rq n),H):=by
 obtain ⟨v,hv⟩:=WI n (ro H++[])
 obtain ⟨tm,ht,g0,g1⟩:=tm1 (I n) 11 (by decide)
 rw [VS,ht]
 rw [<-af (ro H)]
 simp (maxSteps:=4000000) +contextual -implicitDefEqProofs only [Xe,Tryz.f105,aP,g0,g1,↓Wj,hv,Aq,↓ao,an,eu,sevalprocAttr]
theorem lE (n:Int) (H:AH):Ev aa C0 W0 122 [I n] H=some (.bool (rq n),H):=by
 obtain ⟨v,hv⟩:=WG n (ro H++[])
 obtain ⟨tm,ht,g0,g1⟩:=tm1 (I n) 11 (by decide)
 rw [VK,ht]
 rw [<-af (ro H)]
 simp (maxSteps:=4000000) +contextual -implicitDefEqProofs only [Xa,Tryz.f122,aP,g0,g1,↓Wh,hv,Aq,↓ao,an,eu,sevalprocAttr]
theorem mW (u:Bool) (n l:Int) (H:AH):Ev aa C0 W0 106 [.bool u,I n,I l] H=some (.bool (cP u n l),H):=by
 obtain ⟨tm,ht,g0,g1,g2,g3⟩:=tm3 (.bool u) (I n) (I l) 18 (by decide)
 rw [VQ,ht]
 rw [<-af (ro H)]
 simp (maxSteps:=4000000) +contextual -implicitDefEqProofs only [Xd,Tryz.f106,aP,g0,g1,g2,g3,↓ao,an,eu,sevalprocAttr]
 unfold cP
 refine congrArg (fun b=>some (AV.bool b,H)) ?_
 cases u <;>
 cases leB 0 n <;>
 cases ltB n l <;>
 cases eqB n 0 <;>
 rfl
theorem GS (u:Bool) (n:Int) (H:AH):Ev aa C0 W0 98 [I n,.bool u] H=some (.bool (cP u n 16),H):=by
 obtain ⟨tm,ht,g0,g1,g2⟩:=tm2 (I n) (.bool u) 15 (by decide)
 rw [Yx,ht]
 rw [<-af (ro H)]
 simp (maxSteps:=4000000) +contextual -implicitDefEqProofs only [c98,Tryz.f98,aP,g0,g1,g2,↓ao,an,eu,sevalprocAttr]
 unfold cP
 refine congrArg (fun b=>some (AV.bool b,H)) ?_
 cases u <;>
 cases leB 0 n <;>
 cases ltB n 16 <;>
 cases eqB n 0 <;>
 rfl
def kD (k:Int):Bool:=eqB k 0 || eqB k 4 || eqB k 5 || eqB k 11 || eqB k 1 || eqB k 2 || eqB k 6 || eqB k 10 || eqB k 3
def kA (k:Int):Bool:=eqB k 1 || eqB k 2 || eqB k 6 || eqB k 10 || eqB k 3 || eqB k 7 || eqB k 8 || eqB k 12 || eqB k 14
def kB (k:Int):Bool:=eqB k 3 || eqB k 7 || eqB k 8
theorem Ax {k:Int} (h0:0<=k) (h1:k < 16) {p:Int->Prop} (a0:p 0) (a1:p 1) (a2:p 2) (a3:p 3) (a4:p 4) (a5:p 5) (a6:p 6) (a7:p 7) (a8:p 8) (a9:p 9) (a10:p 10) (a11:p 11) (a12:p 12) (a13:p 13) (a14:p 14) (a15:p 15):p k:=by
 have:k=0∨k=1∨k=2∨k=3∨k=4∨k=5∨k=6∨k=7∨k=8∨k=9∨k=10∨k=11∨k=12∨k=13∨k=14∨k=15:=by omega
 rcases this with h | h | h | h | h | h | h | h | h | h | h | h | h | h | h | h <;> rw [h] <;> assumption
theorem ZQ {k:Int} (h0:0<=k) (h1:k < 16) (H:AH):Ev aa C0 W0 97 [I k] H=some (.tuple [.bool (kD k),.bool (kA k),.bool (kB k)],H):=by
 refine Ax (p:=fun k=>Ev aa C0 W0 97 [I k] H=some (.tuple [.bool (kD k),.bool (kA k),.bool (kB k)],H)) h0 h1 ?_ ?_ ?_ ?_ ?_ ?_ ?_ ?_ ?_ ?_ ?_ ?_ ?_ ?_ ?_ ?_
 · obtain ⟨tm,ht,g0,g1⟩:=tm1 (I 0) 24 (by decide)
   rw [qR,ht]
   rw [<-af (ro H)]
   simp (maxSteps:=4000000) -implicitDefEqProofs only [c97,Tryz.f97,aP,g0,g1,eqQ,↓ao,an,eu,sevalprocAttr]
   rfl
 · obtain ⟨tm,ht,g0,g1⟩:=tm1 (I 1) 24 (by decide)
   rw [qR,ht]
   rw [<-af (ro H)]
   simp (maxSteps:=4000000) -implicitDefEqProofs only [c97,Tryz.f97,aP,g0,g1,eqQ,↓ao,an,eu,sevalprocAttr]
   rfl
 · obtain ⟨tm,ht,g0,g1⟩:=tm1 (I 2) 24 (by decide)
   rw [qR,ht]
   rw [<-af (ro H)]
   simp (maxSteps:=4000000) -implicitDefEqProofs only [c97,Tryz.f97,aP,g0,g1,eqQ,↓ao,an,eu,sevalprocAttr]
   rfl
 · obtain ⟨tm,ht,g0,g1⟩:=tm1 (I 3) 24 (by decide)
   rw [qR,ht]
   rw [<-af (ro H)]
   simp (maxSteps:=4000000) -implicitDefEqProofs only [c97,Tryz.f97,aP,g0,g1,eqQ,↓ao,an,eu,sevalprocAttr]
   rfl
 · obtain ⟨tm,ht,g0,g1⟩:=tm1 (I 4) 24 (by decide)
   rw [qR,ht]
   rw [<-af (ro H)]
   simp (maxSteps:=4000000) -implicitDefEqProofs only [c97,Tryz.f97,aP,g0,g1,eqQ,↓ao,an,eu,sevalprocAttr]
   rfl
 · obtain ⟨tm,ht,g0,g1⟩:=tm1 (I 5) 24 (by decide)
   rw [qR,ht]
   rw [<-af (ro H)]
   simp (maxSteps:=4000000) -implicitDefEqProofs only [c97,Tryz.f97,aP,g0,g1,eqQ,↓ao,an,eu,sevalprocAttr]
   rfl
 · obtain ⟨tm,ht,g0,g1⟩:=tm1 (I 6) 24 (by decide)
   rw [qR,ht]
   rw [<-af (ro H)]
   simp (maxSteps:=4000000) -implicitDefEqProofs only [c97,Tryz.f97,aP,g0,g1,eqQ,↓ao,an,eu,sevalprocAttr]
   rfl
 · obtain ⟨tm,ht,g0,g1⟩:=tm1 (I 7) 24 (by decide)
   rw [qR,ht]
   rw [<-af (ro H)]
   simp (maxSteps:=4000000) -implicitDefEqProofs only [c97,Tryz.f97,aP,g0,g1,eqQ,↓ao,an,eu,sevalprocAttr]
   rfl
 · obtain ⟨tm,ht,g0,g1⟩:=tm1 (I 8) 24 (by decide)
   rw [qR,ht]
   rw [<-af (ro H)]
   simp (maxSteps:=4000000) -implicitDefEqProofs only [c97,Tryz.f97,aP,g0,g1,eqQ,↓ao,an,eu,sevalprocAttr]
   rfl
 · obtain ⟨tm,ht,g0,g1⟩:=tm1 (I 9) 24 (by decide)
   rw [qR,ht]
   rw [<-af (ro H)]
   simp (maxSteps:=4000000) -implicitDefEqProofs only [c97,Tryz.f97,aP,g0,g1,eqQ,↓ao,an,eu,sevalprocAttr]
   rfl
 · obtain ⟨tm,ht,g0,g1⟩:=tm1 (I 10) 24 (by decide)
   rw [qR,ht]
   rw [<-af (ro H)]
   simp (maxSteps:=4000000) -implicitDefEqProofs only [c97,Tryz.f97,aP,g0,g1,eqQ,↓ao,an,eu,sevalprocAttr]
   rfl
 · obtain ⟨tm,ht,g0,g1⟩:=tm1 (I 11) 24 (by decide)
   rw [qR,ht]
   rw [<-af (ro H)]
   simp (maxSteps:=4000000) -implicitDefEqProofs only [c97,Tryz.f97,aP,g0,g1,eqQ,↓ao,an,eu,sevalprocAttr]
   rfl
 · obtain ⟨tm,ht,g0,g1⟩:=tm1 (I 12) 24 (by decide)
   rw [qR,ht]
   rw [<-af (ro H)]
   simp (maxSteps:=4000000) -implicitDefEqProofs only [c97,Tryz.f97,aP,g0,g1,eqQ,↓ao,an,eu,sevalprocAttr]
   rfl
 · obtain ⟨tm,ht,g0,g1⟩:=tm1 (I 13) 24 (by decide)
   rw [qR,ht]
   rw [<-af (ro H)]
   simp (maxSteps:=4000000) -implicitDefEqProofs only [c97,Tryz.f97,aP,g0,g1,eqQ,↓ao,an,eu,sevalprocAttr]
   rfl
 · obtain ⟨tm,ht,g0,g1⟩:=tm1 (I 14) 24 (by decide)
   rw [qR,ht]
   rw [<-af (ro H)]
   simp (maxSteps:=4000000) -implicitDefEqProofs only [c97,Tryz.f97,aP,g0,g1,eqQ,↓ao,an,eu,sevalprocAttr]
   rfl
 · obtain ⟨tm,ht,g0,g1⟩:=tm1 (I 15) 24 (by decide)
   rw [qR,ht]
   rw [<-af (ro H)]
   simp (maxSteps:=4000000) -implicitDefEqProofs only [c97,Tryz.f97,aP,g0,g1,eqQ,↓ao,an,eu,sevalprocAttr]
   rfl
end Go.Dv
namespace Go.Dv
theorem r5:(type_of% @bF.eq_1)/\(type_of% @ew.eq_1)/\(type_of% @iO.eq_1)/\(type_of% @jS.eq_1)/\(type_of% @z9.eq_1):=⟨@bF.eq_1,@ew.eq_1,@iO.eq_1,@jS.eq_1,@z9.eq_1⟩
end Go.Dv
namespace Go.Dv
open Go.Proofs
attribute [local congr] aH bP bj bO bQ
def iU (c:Cod) (n:Int):Bool:=match c.params[n.toNat]? with
 | some p=>p.buf
 | none=>false
def Mk (c:Cod) (n:Int):Bool:=br (leB 6 n) (ltB n (6+c.shared.length)) (leB 0 n && ltB n c.params.length && iU c n)
def Up (c:Cod) (n:Int):Bool:=leB 0 n && ltB n c.params.length && !iU c n
theorem qN {n:Int} (h:-9223372036854775808<=n/\n < 9223372036854775808):IntKind.i64.wrap n=n:=IntWalk.i64_in _ (by omega)
theorem wT {H K:AH} {c:Cod} {vp vs vi:AV} (h:dO H c vp vs vi) (hA:al H K) {j:Nat} (hj:j < c.params.length):∃ i k,(∀ kk,aG aa 62 vp (.int kk (j:Int))=some (.ptr i k))/\(∀ L,ak (K++L) i k 1=some [.str (c.params[j]'hj).name])/\(∀ L,ak (K++L) i (k+1) 1=some [.bool (c.params[j]'hj).buf])/\(∀ L,ak (K++L) i k 2=some (iO (c.params[j]'hj)))/\iU c (j:Int)=(c.params[j]'hj).buf:=by
 obtain ⟨i,k,hi,hr⟩:=h.p.ix j (iO (c.params[j]'hj)) (by rw [aI,aj hj]; rfl)
 refine ⟨i,k,hi,fun L=>A6 hr hA L rfl,fun L=>H6 hr hA L 1 rfl,fun L=>jB hr hA L,?_⟩
 unfold iU
 rw [Int.toNat_natCast,aj hj]
theorem WH {H:AH} {c:Cod} {vp vs vi:AV} (h:dO H c vp vs vi) {n:Int} (hn:eD n):Ev aa C0 W0 133 [.agg (bF c vp vs vi),.int .i32 n] H=some (.bool (Mk c n),H):=by
 obtain ⟨tm,ht,g0,g1,g2⟩:=tm2 (.agg (bF c vp vs vi)) (.int .i32 n) 32 (by decide)
 rw [VF,ht]
 rw [<-af (ro H)]
 unfold Mk
 obtain ⟨n0,n1⟩:=hn
 have hlp:=h.ro.lp
 have hls:=h.ro.ls
 have hsb:=h.ns
 have hpb:=h.np
 have hwn:IntKind.i64.wrap n=n:=qN (by omega)
 cases h6:leB 6 n with
 | true =>
   have hw6:IntKind.i64.wrap (6+(c.shared.length:Int))=6+(c.shared.length:Int):=qN (by omega)
   simp (maxSteps:=4000000) -implicitDefEqProofs only [L7,Tryz.f133,aP,g0,g1,g2,hlp,hls,r5,↓az,h6,hwn,hw6,↓ao,an,eu,sevalprocAttr]
 | false =>
   cases h0:leB 0 n with
   | false=>simp (maxSteps:=4000000) -implicitDefEqProofs only [L7,Tryz.f133,aP,g0,g1,g2,hlp,hls,r5,↓az,h6,h0,hwn,↓ao,an,eu,sevalprocAttr]
   | true =>
     cases hl:ltB n c.params.length with
     | false=>simp (maxSteps:=4000000) -implicitDefEqProofs only [L7,Tryz.f133,aP,g0,g1,g2,hlp,hls,r5,↓az,h6,h0,hl,hwn,↓ao,an,eu,sevalprocAttr]
     | true =>
       rw [dp] at h0
       obtain ⟨j,rfl⟩:∃ j:Nat,n=j:=⟨n.toNat,by omega⟩
       have hj:j < c.params.length:=by have:=(dC _ _).1 hl; omega
       obtain ⟨i,k,hi,hr0,hr1,hr2,hb⟩:=wT h.ro (al.refl _) hj
       have h0':leB 0 (j:Int)=true:=yQ (by omega)
       simp (maxSteps:=4000000) -implicitDefEqProofs only [L7,Tryz.f133,aP,g0,g1,g2,hlp,hls,r5,↓az,h6,h0',hl,hwn,hi,hr1,hb,↓ao,an,eu,sevalprocAttr]
theorem WJ {H:AH} {c:Cod} {vp vs vi:AV} (h:dO H c vp vs vi) {n:Int} (hn:eD n):Ev aa C0 W0 123 [.agg (bF c vp vs vi),.int .i32 n] H=some (.bool (Mk c n),H):=by
 obtain ⟨tm,ht,g0,g1,g2⟩:=tm2 (.agg (bF c vp vs vi)) (.int .i32 n) 32 (by decide)
 rw [VJ,ht]
 rw [<-af (ro H)]
 unfold Mk
 obtain ⟨n0,n1⟩:=hn
 have hlp:=h.ro.lp
 have hls:=h.ro.ls
 have hsb:=h.ns
 have hpb:=h.np
 have hwn:IntKind.i64.wrap n=n:=qN (by omega)
 cases h6:leB 6 n with
 | true =>
   have hw6:IntKind.i64.wrap (n - 6)=n - 6:=qN (by omega)
   have he:ltB (n - 6) (c.shared.length:Int)=ltB n (6+(c.shared.length:Int)):=by rw [fA,dC,dC]; omega
   simp (maxSteps:=4000000) -implicitDefEqProofs only [L8,Tryz.f123,aP,g0,g1,g2,hlp,hls,r5,↓az,h6,hwn,hw6,he,↓ao,an,eu,sevalprocAttr]
 | false =>
   cases h0:leB 0 n with
   | false=>simp (maxSteps:=4000000) -implicitDefEqProofs only [L8,Tryz.f123,aP,g0,g1,g2,hlp,hls,r5,↓az,h6,h0,hwn,↓ao,an,eu,sevalprocAttr]
   | true =>
     cases hl:ltB n c.params.length with
     | false=>simp (maxSteps:=4000000) -implicitDefEqProofs only [L8,Tryz.f123,aP,g0,g1,g2,hlp,hls,r5,↓az,h6,h0,hl,hwn,↓ao,an,eu,sevalprocAttr]
     | true =>
       rw [dp] at h0
       obtain ⟨j,rfl⟩:∃ j:Nat,n=j:=⟨n.toNat,by omega⟩
       have hj:j < c.params.length:=by have:=(dC _ _).1 hl; omega
       obtain ⟨i,k,hi,hr0,hr1,hr2,hb⟩:=wT h.ro (al.refl _) hj
       have h0':leB 0 (j:Int)=true:=yQ (by omega)
       simp (maxSteps:=4000000) -implicitDefEqProofs only [L8,Tryz.f123,aP,g0,g1,g2,hlp,hls,r5,↓az,h6,h0',hl,hwn,hi,hr1,hb,↓ao,an,eu,sevalprocAttr]
theorem st3 (H:AH) (i k:Nat) (x:AV):stA aa 3 H i k x=if x.cells.length=1 then bp H i k x.cells else none:=by kernel_rfl
theorem st4 (H:AH) (i k:Nat) (x:AV):stA aa 4 H i k x=if x.cells.length=1 then bp H i k x.cells else none:=by kernel_rfl
theorem fB (H:AH) (i k:Nat) (x:AV):stA aa 21 H i k x=if x.cells.length=1 then bp H i k x.cells else none:=by kernel_rfl
theorem Q8 (H:AH) (i k:Nat) (x:AV):stA aa 25 H i k x=if x.cells.length=1 then bp H i k x.cells else none:=by kernel_rfl
theorem Ui (H:AH) (i k:Nat) (x:AV):stA aa 30 H i k x=if x.cells.length=1 then bp H i k x.cells else none:=by kernel_rfl
theorem XY (H:AH) (i k:Nat) (x:AV):stA aa 31 H i k x=if x.cells.length=1 then bp H i k x.cells else none:=by kernel_rfl
theorem fE (H:AH) (i k:Nat) (x:AV):stA aa 32 H i k x=if x.cells.length=1 then bp H i k x.cells else none:=by kernel_rfl
theorem XX (H:AH) (i k:Nat) (x:AV):stA aa 62 H i k x=if x.cells.length=1 then bp H i k x.cells else none:=by kernel_rfl
theorem XW (H:AH) (i k:Nat) (x:AV):stA aa 63 H i k x=if x.cells.length=1 then bp H i k x.cells else none:=by kernel_rfl
theorem XV (H:AH) (i k:Nat) (x:AV):stA aa 64 H i k x=if x.cells.length=1 then bp H i k x.cells else none:=by kernel_rfl
theorem XZ (H:AH) (i k:Nat) (x:AV):stA aa 27 H i k x=if x.cells.length=7 then bp H i k x.cells else none:=by kernel_rfl
theorem Uj (H:AH) (i k:Nat) (x:AV):stA aa 29 H i k x=if x.cells.length=10 then bp H i k x.cells else none:=by kernel_rfl
theorem d7 (H:AH) (i k:Nat) (x:AV):stA aa 34 H i k x=if x.cells.length=9 then bp H i k x.cells else none:=by kernel_rfl
theorem Uh (H:AH) (i k:Nat) (x:AV):stA aa 66 H i k x=if x.cells.length=5 then bp H i k x.cells else none:=by kernel_rfl
theorem vu (H:AH) (i k:Nat) (x:AV):stA aa 74 H i k x=if x.cells.length=2 then bp H i k x.cells else none:=by kernel_rfl
theorem HO (H:AH) (i k:Nat) (x:AV):stA aa 77 H i k x=if x.cells.length=2 then bp H i k x.cells else none:=by kernel_rfl
theorem Ug (H:AH) (i k:Nat) (x:AV):stA aa 80 H i k x=if x.cells.length=8 then bp H i k x.cells else none:=by kernel_rfl
theorem mB (H:AH) (i k:Nat) (x:AV):stA aa 152 H i k x=if x.cells.length=12 then bp H i k x.cells else none:=by kernel_rfl
theorem Uk (H:AH) (i k:Nat) (x:AV):stA aa 153 H i k x=if x.cells.length=192 then bp H i k x.cells else none:=by kernel_rfl
theorem z30:ep aa 30=some (.nilSlice):=by kernel_rfl
theorem z80:ep aa 80=some (.agg [I 0,I 0,I 0,I 0,I 0,.int .i32 0,I 0,I 0]):=by kernel_rfl
theorem z74:ep aa 74=some (.agg [.str eS,.bool false]):=by kernel_rfl
theorem z77:ep aa 77=some (.agg [.str eS,I 0]):=by kernel_rfl
theorem z66:ep aa 66=some (.agg [.str eS,.nilSlice,.nilSlice,I 0,.nilSlice]):=by kernel_rfl
theorem sg:ep aa 152=some (.agg [.bool false,.bool false,.bool false,.bool false,.bool false,.bool false,.bool false,.bool false,.bool false,.bool false,.bool false,I 0]):=by kernel_rfl
def Hu:List AV:=(aA 16 [AV.bool false,AV.bool false,AV.bool false,AV.bool false,AV.bool false,AV.bool false,AV.bool false,AV.bool false,AV.bool false,AV.bool false,AV.bool false,I 0]).flatten
theorem FY:ep aa 153=some (.agg Hu):=by kernel_rfl
theorem SlS.one {T es:Nat} {H:AH} {v:AV} {rows:List (List AV)} (h:SlS T es H v rows):v.one=true:=by
 rcases h.old with ⟨e,_⟩ | ⟨i,k,c,x,e,h',_⟩ <;> rw [e] <;> rfl
theorem SlS.cells {T es:Nat} {H:AH} {v:AV} {rows:List (List AV)} (h:SlS T es H v rows):v.cells=[v]:=by
 rcases h.old with ⟨e,_⟩ | ⟨i,k,c,x,e,h',_⟩ <;> rw [e] <;> rfl
theorem AZ:∀ (vs cs:List AV),vs.length=cs.length->spl cs 0 vs=vs
 | [],[],_=>rfl
 | [],_::_,h=>by simp at h
 | _::_,[],h=>by simp at h
 | v::vs,c::cs,h=>by
   have key:∀ (vs cs:List AV) (c:AV) (k:Nat),spl (c::cs) (k+1) vs=c::spl cs k vs:=by
     intro vs
     induction vs with
     | nil=>intro cs c k; rfl
     | cons v vs ih=>intro cs c k; simp only [spl,List.set_cons_succ]; rw [ih]
   simp only [spl,kg]
   rw [key,AZ vs cs (by simpa using h)]
theorem MP (H L:AH) (cs vs:List AV) (e:TypeId) (hl:vs.length=cs.length) (ho:vs.all AV.one=true):bp (H++.cells cs e::L) H.length 0 vs=some (H++.cells vs e::L):=by
 unfold bp
 rw [aw (ax _),dI,g7]
 simp only
 rw [if_pos ⟨by omega,ho⟩,List.set_append_right _ _ (ax _),dI,kg,AZ vs cs hl]
theorem mN (i k:Nat) (kk:IntKind) (n:Int):aG aa 153 (.ptr i k) (.int kk n)=if 0<=n/\n < 16 then some (.ptr i (k+n.toNat * 12)) else none:=by kernel_rfl
def Bz (k:Int):Bool:=eqB k 8 || eqB k 10
def Ab (k:Int):Int:=if k=2 then 3 else if k=3 then 20 else if k=4 then 4 else 0
def kTo (k:Int):Bool:=eqB k 13 || eqB k 14
def By (k:Int):Bool:=eqB k 14
def u6 (k:Int):Bool:=eqB k 0
def BB (k:Int):Bool:=eqB k 6 || eqB k 7 || eqB k 8
def Bw (k:Int):Bool:=eqB k 5
def BA (k:Int):Bool:=eqB k 9 || eqB k 10
def Bx (k:Int):Bool:=eqB k 11 || eqB k 12
def Rb (k:Int):List AV:=[.bool (kD k),.bool (kA k),.bool (kB k),.bool (BB k),.bool (Bz k),.bool (BA k),.bool (Bx k),.bool (Bw k),.bool (u6 k),.bool (kTo k),.bool (By k),I (Ab k)]
theorem Yj:∀ k:Fin 16,(fZ.drop (k.val * 12)).take 12=Rb (k.val:Int):=by
 intro ⟨k,hk⟩
 have:k=0∨k=1∨k=2∨k=3∨k=4∨k=5∨k=6∨k=7∨k=8∨k=9∨k=10∨k=11∨k=12∨k=13∨k=14∨k=15:=by omega
 rcases this with h | h | h | h | h | h | h | h | h | h | h | h | h | h | h | h <;> subst h <;> rfl
theorem JP (H L:AH) (A B:bo) {j:Nat} (hj:j < 16):ak (H++A::B::.cells fZ 153::L) (H.length+2) (0+j * 12) 12=some (Rb (j:Int)):=by
 rw [lk]
 unfold ak
 simp only [List.getElem?_cons_succ,g7]
 have hl:fZ.length=192:=rfl
 rw [if_pos (by rw [hl]; omega),Nat.zero_add,Yj ⟨j,hj⟩]
def Ae (c:Cod) (word array param barrier loc:Bool) (n:Int):Bool:=br word true (br array (Mk c n) (br param (Up c n) (br barrier (leB 0 n && leB n 400) (br loc (leB 0 n && ltB n c.loc) (eqB n 0)))))
def qP (c:Cod) (x:Ins):Bool:=leB 0 x.kind && ltB x.kind 16 && br (Bz x.kind) (rq x.op) (cP (ltB 0 (Ab x.kind)) x.op (Ab x.kind)) && cP (kD x.kind) x.d 16 && cP (kA x.kind) x.a 16 && cP (kB x.kind) x.b 16 &&
 Ae c (u6 x.kind) (BB x.kind) (Bw x.kind) (BA x.kind) (Bx x.kind) x.imm && cP (kTo x.kind) x.to c.insns.length && cP (By x.kind) x.join (c.insns.length+1)
theorem eP (i k:Nat):aN aa 152 (.ptr i k) 0=some (.ptr i k):=by kernel_rfl
theorem eO (i k:Nat):aN aa 152 (.ptr i k) 1=some (.ptr i (k+1)):=by kernel_rfl
theorem eM (i k:Nat):aN aa 152 (.ptr i k) 2=some (.ptr i (k+2)):=by kernel_rfl
theorem eL (i k:Nat):aN aa 152 (.ptr i k) 3=some (.ptr i (k+3)):=by kernel_rfl
theorem eK (i k:Nat):aN aa 152 (.ptr i k) 4=some (.ptr i (k+4)):=by kernel_rfl
theorem eJ (i k:Nat):aN aa 152 (.ptr i k) 5=some (.ptr i (k+5)):=by kernel_rfl
theorem eI (i k:Nat):aN aa 152 (.ptr i k) 6=some (.ptr i (k+6)):=by kernel_rfl
theorem eH (i k:Nat):aN aa 152 (.ptr i k) 7=some (.ptr i (k+7)):=by kernel_rfl
theorem eG (i k:Nat):aN aa 152 (.ptr i k) 8=some (.ptr i (k+8)):=by kernel_rfl
theorem eF (i k:Nat):aN aa 152 (.ptr i k) 9=some (.ptr i (k+9)):=by kernel_rfl
theorem dG (i k:Nat):aN aa 152 (.ptr i k) 10=some (.ptr i (k+10)):=by kernel_rfl
theorem dF (i k:Nat):aN aa 152 (.ptr i k) 11=some (.ptr i (k+11)):=by kernel_rfl
theorem WN {H:AH} {c:Cod} {vp vs vi:AV} (h:dO H c vp vs vi) (fd fa fb far ff fbr fl fp fw ft fj:Bool) (fo:Int) {n:Int} (hn:eD n):Ev aa C0 W0 107 [.agg (bF c vp vs vi),.agg [.bool fd,.bool fa,.bool fb,.bool far,.bool ff,.bool fbr,.bool fl,.bool fp,.bool fw,.bool ft,.bool fj,I fo],.int .i32 n] H=some (.bool (Ae c fw far fp fbr fl n),H):=by
 obtain ⟨tm,ht,g0,g1,g2,g3⟩:=tm3 (.agg (bF c vp vs vi)) (.agg [.bool fd,.bool fa,.bool fb,.bool far,.bool ff,.bool fbr,.bool fl,.bool fp,.bool fw,.bool ft,.bool fj,I fo]) (.int .i32 n) 61 (by decide)
 rw [VP,ht]
 rw [<-af (ro H)]
 unfold Ae
 have hn':=hn
 obtain ⟨n0,n1⟩:=hn
 have hlp:=h.ro.lp
 have hls:=h.ro.ls
 have hpb:=h.np
 have hwn:IntKind.i64.wrap n=n:=qN (by omega)
 cases fw with
 | true=>simp (maxSteps:=4000000) -implicitDefEqProofs only [AA,Tryz.f107,aP,g0,g1,g2,g3,hlp,hls,hwn,r5,↓az,eP,eO,eM,eL,eK,eJ,eI,eH,eG,eF,dG,dF,↓ao,an,eu,sevalprocAttr]
 | false =>
   cases far with
   | true =>
     have h133:=fun L=>WH (h.ro.aX (al.app _ L)) hn'
     simp only [bF] at h133
     simp (maxSteps:=4000000) -implicitDefEqProofs only [AA,Tryz.f107,aP,g0,g1,g2,g3,hlp,hls,hwn,r5,↓az,eP,eO,eM,eL,eK,eJ,eI,eH,eG,eF,dG,dF,↓Wi,h133,↓ao,an,eu,sevalprocAttr]
   | false =>
     cases fp with
     | true =>
       unfold Up
       cases h0:leB 0 n with
       | false=>simp (maxSteps:=4000000) -implicitDefEqProofs only [AA,Tryz.f107,aP,g0,g1,g2,g3,hlp,hls,hwn,r5,↓az,eP,eO,eM,eL,eK,eJ,eI,eH,eG,eF,dG,dF,h0,↓ao,an,eu,sevalprocAttr]
       | true =>
         cases hl:ltB n c.params.length with
         | false=>simp (maxSteps:=4000000) -implicitDefEqProofs only [AA,Tryz.f107,aP,g0,g1,g2,g3,hlp,hls,hwn,r5,↓az,eP,eO,eM,eL,eK,eJ,eI,eH,eG,eF,dG,dF,h0,hl,↓ao,an,eu,sevalprocAttr]
         | true =>
           rw [dp] at h0
           obtain ⟨j,rfl⟩:∃ j:Nat,n=j:=⟨n.toNat,by omega⟩
           have hj:j < c.params.length:=by have:=(dC _ _).1 hl; omega
           obtain ⟨i,k,hi,hr0,hr1,hr2,hb⟩:=wT h.ro (al.refl _) hj
           have h0':leB 0 (j:Int)=true:=yQ (by omega)
           simp (maxSteps:=4000000) -implicitDefEqProofs only [AA,Tryz.f107,aP,g0,g1,g2,g3,hlp,hls,hwn,r5,↓az,eP,eO,eM,eL,eK,eJ,eI,eH,eG,eF,dG,dF,h0',hl,hi,hr1,hb,↓ao,an,eu,sevalprocAttr]
     | false =>
       cases fbr with
       | true=>cases h0:leB 0 n <;> simp (maxSteps:=4000000) -implicitDefEqProofs only [AA,Tryz.f107,aP,g0,g1,g2,g3,hlp,hls,hwn,r5,↓az,eP,eO,eM,eL,eK,eJ,eI,eH,eG,eF,dG,dF,h0,↓ao,an,eu,sevalprocAttr]
       | false =>
         cases fl with
         | true=>cases h0:leB 0 n <;> simp (maxSteps:=4000000) -implicitDefEqProofs only [AA,Tryz.f107,aP,g0,g1,g2,g3,hlp,hls,hwn,r5,↓az,eP,eO,eM,eL,eK,eJ,eI,eH,eG,eF,dG,dF,h0,↓ao,an,eu,sevalprocAttr]
         | false=>simp (maxSteps:=4000000) -implicitDefEqProofs only [AA,Tryz.f107,aP,g0,g1,g2,g3,hlp,hls,hwn,r5,↓az,eP,eO,eM,eL,eK,eJ,eI,eH,eG,eF,dG,dF,↓ao,an,eu,sevalprocAttr]
end Go.Dv
