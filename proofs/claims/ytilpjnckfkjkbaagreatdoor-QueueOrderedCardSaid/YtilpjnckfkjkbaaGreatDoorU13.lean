/- Part 13 of the walks (own work). -/
import Derived.Test.YtilpjnckfkjkbaaGreatDoorU12
open Bool renaming eq_iff_iff→gI,false_and→bd,true_and→bf
open ByteArray renaming ext→WW
open List renaming append_assoc→aD,append_nil→af,getElem?_append_right→al,getElem?_cons_zero→iD,getElem?_eq_getElem→aj,getElem?_map→aO,length_append→ai,length_map→ao,length_set→aq,replicate→au,set_cons_zero→kK
open Nat renaming le_refl→aw,reduceAdd→bg,reduceEqDiff→aQ,reduceLT→aR,reduceLeDiff→aK,sub_self→d9,zero_le→aV
open Option renaming map_eq_some_iff→ah
open Option.some renaming inj→aB
open Go.Proofs.Tryz renaming prog→aa
set_option maxRecDepth 100000
set_option maxHeartbeats 4000000
set_option linter.unusedSimpArgs false
set_option linter.unusedVariables false
open Go.Proofs.Tryz (f104 f107 f119 f123 f133 f96 f97 f98)
namespace Go.Dv
open Go.Proofs
attribute [local congr] aA bC aT bB bD
theorem zH (H L:AH):Ev aa C0 W0 130 [] (H++L)=some (.map (H.length+L.length),H++(L++[.map uD 25])):=by rw [Jr,ai,aD]
def eS:ByteArray:=⟨#[]⟩
theorem Oa {s:ByteArray} (h:sEq s eS=false):0 < s.size:=by
 rcases Nat.eq_zero_or_pos s.size with c | c
 · have:s=eS:=WW (by
     have:s.data.size=0:=c
     rw [Array.size_eq_zero_iff] at this; exact this)
   rw [this] at h
   have h2:sEq eS eS=true:=by rw [qC]
   rw [h2] at h; cases h
 · exact c
def yD (s:ByteArray):Bool:=ck (fun j=>yC (jV s (j:Int))) s.size 0
def sY (s:ByteArray):Bool:=!sEq s eS && wu (jV s 0) && yD s
def lR (s:ByteArray):Bool:=sY s && leB s.size 16 && !sIn dG s
theorem B1 {H:AH} {s:ByteArray}  (hN:s.size < 2 ^ 60):∀ (d j:Nat) (tm:List AV) (K:AH) (Z:Option (bk × St)),EvC aa C0 W0 plN LQ (tm,K)=Z->s.size - j=d->j<=s.size->an H K->tm.length=23->tm.getD 0 uA=.str s->tm.getD 3 uA=I ((j:Nat):Int) ->
   ∃ X Y K1 K2,Z=br (ck (fun j=>yC (jV s (j:Int))) (s.size) (j)) (some (.exit 0,(X,K1))) (some (.ret,(Y,K2)))/\(X.length=23/\an H K1/\X.getD 0 uA=.str s)/\Y.length=23/\Y.getD 2 uA=.bool false:=by
 intro d;induction d with
 | zero =>
   intro j tm K Z hZ hd hj hA hlen h0 h3;subst hZ;have hjl:j=s.size:=by omega
   have hlt:ltB (j:Int) (s.size:Nat)=false:=cw (by omega);rw [dk (by omega),Gv];simp (maxSteps:=4000000) -implicitDefEqProofs only [za,f119,aP,hlen,h0,h3,hlt,ln9,↓aG,aF,eu,reduceCtorEq,reduceIte,aR,aQ,bg,aK];exact ⟨_,tm.set 2 (.bool false),_,K,rfl,⟨by first | exact hlen | simp only [aq,hlen],hA,by first | exact h0 | simp only [hlen,h0,gB,sevalprocAttr]⟩,by simp only [ls,hlen],by simp only [hlen,dK,aR]⟩
 | succ d ih =>
   intro j tm K Z hZ hd hj hA hlen h0 h3;subst hZ;have hjN:j < s.size:=by omega
   have hlt:ltB (j:Int) (s.size:Nat)=true:=cu (by omega);have hw:=b6 (j:=j) (by omega);have hjj:((0:Int)<=(j:Int)/\(j:Int) < (s.size:Int))=True:=eq_true (by omega);rw [cK hjN,Gv];rw [<-af K];cases hp:(yC (jV s (j:Int))) with
   | true =>simp only [bf];simp (maxSteps:=4000000) -implicitDefEqProofs only [za,f119,aP,hlen,h0,h3,hlt,hw,ln9,hjj,↓fW AN,↓TB,TH,hp,↓aG,aF,eu,reduceCtorEq,reduceIte,aR,aQ,bg,aK];exact ih (j+1) _ _ _ rfl (by omega) (by omega) (by first | exact hA | exact hA.bX _ | exact (hA.bX _).bX _ | exact hA) (by simp only [ls,hlen]) (by simp only [hlen,h0,gB,sevalprocAttr]) (by simp only [hlen,h3,gB,sevalprocAttr])
   | false =>simp only [bd];simp (maxSteps:=4000000) -implicitDefEqProofs only [za,f119,aP,hlen,h0,h3,hlt,hw,ln9,hjj,↓fW AN,↓TB,TH,hp,↓aG,aF,eu,reduceCtorEq,reduceIte,aR,aQ,bg,aK];exact ⟨tm,_,K,_,rfl,⟨hlen,hA,h0⟩,by simp only [ls,hlen],by simp only [hlen,gB,sevalprocAttr]⟩
theorem Ip {H:AH} {s:ByteArray}  (hN:s.size < 2 ^ 60):∀ (d j:Nat) (tm:List AV) (K:AH) (Z:Option (bk × St)),EvC aa C0 W0 plN LS (tm,K)=Z->s.size - j=d->j<=s.size->an H K->tm.length=33->tm.getD 0 uA=.str s->tm.getD 23 uA=I s.size->tm.getD 24 uA=I ((j:Nat):Int) ->
   ∃ X Y K1 K2,Z=br (ck (fun j=>yC (jV s (j:Int))) (s.size) (j)) (some (.exit 0,(X,K1))) (some (.ret,(Y,K2)))/\(X.length=33/\an H K1/\X.getD 0 uA=.str s/\X.getD 23 uA=I s.size)/\Y.length=33/\Y.getD 2 uA=.bool false:=by
 intro d;induction d with
 | zero =>
   intro j tm K Z hZ hd hj hA hlen h0 h23 h24;subst hZ;have hjl:j=s.size:=by omega
   have hlt:ltB (j:Int) (s.size:Nat)=false:=cw (by omega);rw [dk (by omega),Gx];simp (maxSteps:=4000000) -implicitDefEqProofs only [zb,f104,aP,hlen,h0,h23,h24,hlt,↓aG,aF,eu,reduceCtorEq,reduceIte,aR,aQ,bg,aK];exact ⟨_,tm.set 2 (.bool false),_,K,rfl,⟨by first | exact hlen | simp only [aq,hlen],hA,by first | exact h0 | simp only [hlen,h0,gB,sevalprocAttr],by first | exact h23 | simp only [hlen,h23,gB,sevalprocAttr]⟩,by simp only [ls,hlen],by simp only [hlen,dK,aR]⟩
 | succ d ih =>
   intro j tm K Z hZ hd hj hA hlen h0 h23 h24;subst hZ;have hjN:j < s.size:=by omega
   have hlt:ltB (j:Int) (s.size:Nat)=true:=cu (by omega);have hw:=b6 (j:=j) (by omega);have hjj:((0:Int)<=(j:Int)/\(j:Int) < (s.size:Int))=True:=eq_true (by omega);rw [cK hjN,Gx];rw [<-af K];cases hp:(yC (jV s (j:Int))) with
   | true =>simp only [bf];simp (maxSteps:=4000000) -implicitDefEqProofs only [zb,f104,aP,hlen,h0,h23,h24,hlt,hw,hjj,↓fW AN,↓TC,TI,hp,↓aG,aF,eu,reduceCtorEq,reduceIte,aR,aQ,bg,aK];exact ih (j+1) _ _ _ rfl (by omega) (by omega) (by first | exact hA | exact hA.bX _ | exact (hA.bX _).bX _ | exact hA) (by simp only [ls,hlen]) (by simp only [hlen,h0,gB,sevalprocAttr]) (by simp only [hlen,h23,gB,sevalprocAttr]) (by simp only [hlen,h24,gB,sevalprocAttr])
   | false =>simp only [bd];simp (maxSteps:=4000000) -implicitDefEqProofs only [zb,f104,aP,hlen,h0,h23,h24,hlt,hw,hjj,↓fW AN,↓TC,TI,hp,↓aG,aF,eu,reduceCtorEq,reduceIte,aR,aQ,bg,aK];exact ⟨tm,_,K,_,rfl,⟨hlen,hA,h0,h23⟩,by simp only [ls,hlen],by simp only [hlen,gB,sevalprocAttr]⟩
theorem MW {s:ByteArray} (hN:s.size < 2 ^ 60) (H:AH):Ev aa C0 W0 119 [.str s] H=some (.bool (sY s),H):=by
 obtain ⟨tm,ht,g0,g1⟩:=tm1 (.str s) 23 (by decide);rw [Zu,ht];rw [<-af (ro H)];unfold sY yD;cases hs:sEq s eS with
 | true =>simp (maxSteps:=4000000) -implicitDefEqProofs only [RF,f119,aP,g0,g1,show (⟨#[]⟩:ByteArray)=eS from rfl,hs,↓aG,aF,eu,reduceCtorEq,reduceIte,aR,aQ,bg,aK]
 | false =>
   have h0:((0:Int)<=0/\(0:Int) < (s.size:Int))=True:=eq_true (by have:=Oa hs; omega);cases hl:wu (jV s 0) with
   | false =>simp (maxSteps:=4000000) -implicitDefEqProofs only [RF,f119,aP,g0,g1,show (⟨#[]⟩:ByteArray)=eS from rfl,hs,h0,↓fW AN,↓Ma,MV,hl,↓aG,aF,eu,reduceCtorEq,reduceIte,aR,aQ,bg,aK]
   | true =>simp (maxSteps:=4000000) -implicitDefEqProofs only [RF,f119,aP,g0,g1,show (⟨#[]⟩:ByteArray)=eS from rfl,hs,h0,↓fW AN,↓Ma,MV,hl,↓aG,aF,eu,reduceCtorEq,reduceIte,aR,aQ,bg,aK];generalize hX:EvC aa C0 W0 _ (Code.loop _) _=Z;obtain ⟨X,Y,K1,K2,he,xs,y0,y1⟩:=B1 (s:=s) hN _ 0 _ _ _ hX rfl (aV _) (an.app _ _) (by simp only [ls,g0]) (by simp only [g0,g1,gB,sevalprocAttr]; try rfl) (by simp only [g0,gB,sevalprocAttr]; try rfl);subst he;simp (maxSteps:=4000000) +contextual -implicitDefEqProofs only [xs.1,y0,y1,↓aG,aF,eu,reduceCtorEq,reduceIte,aR,aQ,bg,aK];cases ck (fun j=>yC (jV s (j:Int))) s.size 0 <;> rfl
def yp (s:ByteArray):Bool:=!sEq s eS && !ltB 16 s.size && wu (jV s 0) && !sIn dG s && yD s
theorem QV (s:ByteArray):yp s=lR s:=by
 unfold yp lR sY;have:leB (s.size:Int) 16=!ltB 16 (s.size:Int):=by rw [gI,Bool.not_eq_true',dC,fZ]
 rw [this];cases sEq s eS <;> cases ltB 16 (s.size:Int) <;> cases wu (jV s 0) <;> cases sIn dG s <;> cases yD s <;> rfl
theorem MX {s:ByteArray} (hN:s.size < 2 ^ 60) (H:AH):Ev aa C0 W0 104 [.str s] H=some (.bool (lR s),H):=by
 rw [<-QV];obtain ⟨tm,ht,g0,g1⟩:=tm1 (.str s) 33 (by decide);rw [Zz,ht];rw [<-af (ro H)];unfold yp yD;have hlk:=Sk (H:=ro H++[.map uD 25]) (i:=(ro H).length) (l:=dG) (c:=25) (by rw [al (aw _),d9]; rfl) s;cases hs:sEq s eS with
 | true=>simp (maxSteps:=4000000) -implicitDefEqProofs only [I1,f104,aP,g0,g1,show (⟨#[]⟩:ByteArray)=eS from rfl,hs,ln9,↓aG,aF,eu,reduceCtorEq,reduceIte,aR,aQ,bg,aK]
 | false =>
   have h0:((0:Int)<=0/\(0:Int) < (s.size:Int))=True:=eq_true (by have:=Oa hs; omega);cases hl:ltB 16 (s.size:Int) with
   | true=>simp (maxSteps:=4000000) -implicitDefEqProofs only [I1,f104,aP,g0,g1,show (⟨#[]⟩:ByteArray)=eS from rfl,hs,ln9,hl,↓aG,aF,eu,reduceCtorEq,reduceIte,aR,aQ,bg,aK]
   | false =>
     cases hp:wu (jV s 0) with
     | false=>simp (maxSteps:=4000000) -implicitDefEqProofs only [I1,f104,aP,g0,g1,show (⟨#[]⟩:ByteArray)=eS from rfl,hs,ln9,hl,h0,hp,↓fW AN,↓Gq,Gt,↓aG,aF,eu,reduceCtorEq,reduceIte,aR,aQ,bg,aK]
     | true =>
       cases hw:sIn dG s with
       | true=>simp (maxSteps:=4000000) -implicitDefEqProofs only [I1,f104,aP,g0,g1,show (⟨#[]⟩:ByteArray)=eS from rfl,hs,ln9,hl,h0,hp,hw,↓fW AN,↓Gq,Gt,↓TD,zH,hlk,↓aG,aF,eu,reduceCtorEq,reduceIte,aR,aQ,bg,aK]
       | false =>simp (maxSteps:=4000000) -implicitDefEqProofs only [I1,f104,aP,g0,g1,show (⟨#[]⟩:ByteArray)=eS from rfl,hs,ln9,hl,h0,hp,hw,↓fW AN,↓Gq,Gt,↓TD,zH,hlk,↓aG,aF,eu,reduceCtorEq,reduceIte,aR,aQ,bg,aK];generalize hX:EvC aa C0 W0 _ (Code.loop _) _=Z;obtain ⟨X,Y,K1,K2,he,xs,y0,y1⟩:=Ip (s:=s) hN _ 0 _ _ _ hX rfl (aV _) (an.app _ _) (by simp only [ls,g0]) (by simp only [g0,g1,gB,sevalprocAttr]; try rfl) (by simp only [g0,ln9,gB,sevalprocAttr]; try rfl) (by simp only [g0,gB,sevalprocAttr]; try rfl);subst he;simp (maxSteps:=4000000) +contextual -implicitDefEqProofs only [xs.1,y0,y1,↓aG,aF,eu,reduceCtorEq,reduceIte,aR,aQ,bg,aK];cases ck (fun j=>yC (jV s (j:Int))) s.size 0 <;> rfl
theorem aa9 (H:AH):bn aa none 164 25 [(0,AV.str { data:=#[102,117,110,99] }),(1,AV.str { data:=#[107,101,114,110,101,108] }),(2,AV.str { data:=#[98,117,102,102,101,114] }),(3,AV.str { data:=#[105,110,116] }),(4,AV.str { data:=#[115,104,97,114,101,100] }),(5,AV.str { data:=#[108,101,116] }),(6,AV.str { data:=#[105,102] }),(7,AV.str { data:=#[101,108,115,101] }),(8,AV.str { data:=#[119,104,105,108,101] }),(9,AV.str { data:=#[98,114,101,97,107] }),(10,AV.str { data:=#[99,111,110,116,105,110,117,101] }),(11,AV.str { data:=#[114,101,116,117,114,110] }),(12,AV.str { data:=#[98,97,114,114,105,101,114] }),(13,AV.str { data:=#[97,116,111,109,105,99] }),(14,AV.str { data:=#[99,111,108,108,101,99,116] }),(15,AV.str { data:=#[116,105,100] }),(16,AV.str { data:=#[98,105,100] }),(17,AV.str { data:=#[100,105,109] }),(18,AV.str { data:=#[103,114,105,100] }),(19,AV.str { data:=#[109,105,110] }),(20,AV.str { data:=#[109,97,120] }),(21,AV.str { data:=#[97,100,100] }),(22,AV.str { data:=#[97,110,100] }),(23,AV.str { data:=#[111,114] }),(24,AV.str { data:=#[120,111,114] })] H=some (.slice H.length 0 1 25 25 true,H++[.cells (dG.map .str) 9]):=by kernel_rfl
theorem aav (H:AH):Ev aa C0 W0 121 [] H=some (.slice H.length 0 1 25 25 true,H++[.cells (dG.map .str) 9]):=by
 have g0:(([]:List AV)++au (2 - ([]:List AV).length) uA).length=2:=by simp
 rw [Zs];generalize ([]:List AV)++au (2 - ([]:List AV).length) uA=tm at *;simp (maxSteps:=4000000) -implicitDefEqProofs only [aaS,Tryz.f121,aP,g0,aa9,↓aG,aF,eu,reduceCtorEq,reduceIte,aR,aQ,bg,aK]
theorem VL (H:AH) (i j:Nat) (h:j < 25) (kk:IntKind):aC aa 164 (.slice i 0 1 25 25 true) (.int kk j)=some (.ptr i (0+j * 1)):=by rw [TA,if_pos (by refine ⟨by omega,by omega,rfl⟩)]; rfl
theorem HE (H:AH):SlS 164 1 (H++[.cells (dG.map .str) 9]) (.slice H.length 0 1 25 25 true) (dG.map fun w=>[AV.str w]) where
 len:=fun G=>by rw [Sj]; rfl
 ix:=fun j r hr=>by
   rw [aO] at hr
   obtain ⟨w,hw,rfl⟩:=ah.1 hr
   have hj:j < 25:=aI hw
   refine ⟨H.length,0+j * 1,VL H _ j hj,?_⟩
   rw [gj]
   unfold ak
   simp only [iD]
   have hl:(dG.map AV.str).length=25:=rfl
   rw [if_pos (by rw [hl]; omega)]
   congr 1
   have hj':j < (dG.map AV.str).length:=by rw [hl]; exact hj
   rw [show 0+j * 1=j by omega,List.drop_eq_getElem_cons hj',List.take_succ_cons,List.take_zero,List.getElem_map]
   congr 2
   have hj2:j < dG.length:=hj
   rw [aj hj2] at hw
   exact aB hw
 old:=.inr ⟨_,_,_,_,rfl,by unfold okC; rw [al (aw _),d9]; rfl,by rw [qb,gj]; rfl⟩
theorem Z9 {s:ByteArray} (hN:s.size < 2 ^ 60) (H:AH):Ev aa C0 W0 96 [.str s] H=some (.bool (lR s),H):=by
 obtain ⟨tm,ht,g0,g1⟩:=tm1 (.str s) 16 (by decide);rw [acu,ht];rw [<-af (ro H)];unfold lR;have hin:=fun (L:AH)=>aaw (s:=s) (HE (ro H++L)) (by decide);have hw:=fun (L:AH)=>aav (ro H++L);simp only [ai,aD] at hin hw;have hin:=hin [];simp only [List.length_nil,Nat.add_zero,List.nil_append] at hin;cases hs:sY s with
 | false=>simp (maxSteps:=4000000) -implicitDefEqProofs only [c96,f96,aP,g0,g1,hs,↓Mc,MW hN,↓aG,aF,eu,reduceCtorEq,reduceIte,aR,aQ,bg,aK]
 | true =>
   cases hl:leB (s.size:Int) 16 with
   | false=>simp (maxSteps:=4000000) -implicitDefEqProofs only [c96,f96,aP,g0,g1,hs,↓Mc,MW hN,ln9,hl,↓aG,aF,eu,reduceCtorEq,reduceIte,aR,aQ,bg,aK]
   | true=>simp (maxSteps:=4000000) -implicitDefEqProofs only [c96,f96,aP,g0,g1,hs,↓Mc,MW hN,ln9,hl,↓Z4,hw,↓Z5,hin,↓aG,aF,eu,reduceCtorEq,reduceIte,aR,aQ,bg,aK]
end Go.Dv
namespace Go.Dv
open Go.Proofs
attribute [local congr] aA bC aT bB bD
structure Prm where
 name:ByteArray
 buf:Bool
structure Arr where
 name:ByteArray
 size:Int
structure Ins where
 kind:Int
 op:Int
 d:Int
 a:Int
 b:Int
 imm:Int
 to:Int
 join:Int
structure Cod where
 name:ByteArray
 params:List Prm
 shared:List Arr
 loc:Int
 insns:List Ins
def jl (p:Prm):List AV:=[.str p.name,.bool p.buf]
def kp (a:Arr):List AV:=[.str a.name,I a.size]
def eQ (x:Ins):List AV:=[I x.kind,I x.op,I x.d,I x.a,I x.b,.int .i32 x.imm,I x.to,I x.join]
def bO (c:Cod) (vp vs vi:AV):List AV:=[.str c.name,vp,vs,I c.loc,vi]
def fk (n:Int):Prop:=-2147483648<=n/\n < 2147483648
structure eW (H:AH) (c:Cod) (vp vs vi:AV):Prop where
 p:SlS 62 2 H vp (c.params.map jl)
 s:SlS 63 2 H vs (c.shared.map kp)
 i:SlS 64 8 H vi (c.insns.map eQ)
 np:c.params.length < 2 ^ 50
 ns:c.shared.length < 2 ^ 50
 ni:c.insns.length < 2 ^ 50
 nm:c.name.size < 2 ^ 60
 pn:∀ p∈c.params,p.name.size < 2 ^ 60
 sn:∀ a∈c.shared,a.name.size < 2 ^ 60
 im:∀ x∈c.insns,fk x.imm
theorem eW.ro {H:AH} {c:Cod} {vp vs vi:AV} (h:eW H c vp vs vi):eW (ro H) c vp vs vi:={ h with p:=h.p.ro,s:=h.s.ro,i:=h.i.ro }
theorem eW.aZ {H K:AH} {c:Cod} {vp vs vi:AV} (h:eW H c vp vs vi) (hA:an H K):eW K c vp vs vi:={ h with p:=h.p.same hA,s:=h.s.same hA,i:=h.i.same hA }
theorem eW.lp {H:AH} {c:Cod} {vp vs vi:AV} (h:eW H c vp vs vi) (G:AH):d4 aa 62 G vp=some (I c.params.length):=by have:=h.p.len G; rwa [ao] at this
theorem eW.ls {H:AH} {c:Cod} {vp vs vi:AV} (h:eW H c vp vs vi) (G:AH):d4 aa 63 G vs=some (I c.shared.length):=by have:=h.s.len G; rwa [ao] at this
theorem eW.li {H:AH} {c:Cod} {vp vs vi:AV} (h:eW H c vp vs vi) (G:AH):d4 aa 64 G vi=some (I c.insns.length):=by have:=h.i.len G; rwa [ao] at this
def rX (n:Int):Bool:=eqB n 0 || eqB n 6 || eqB n 7 || eqB n 18 || eqB n 19 || eqB n 5
theorem TL (b:Bool) (k:IntKind) (x x':Int) (y y':Bool) (H:AH):br b (some (AV.tuple [.int k x,.bool y],H)) (some (AV.tuple [.int k x',.bool y'],H))=some (.tuple [.int k (br b x x'),.bool (br b y y')],H):=by cases b <;> rfl
theorem By (H G:AH) (b:Bool) (k:IntKind) (n:Int):kM true H (.tuple [.int k n,.bool b],G)=some (.tuple [.int k n,.bool b],H):=rfl
def dr (u:Bool) (n l:Int):Bool:=br u (leB 0 n && ltB n l) (eqB n 0)
theorem aat (n:Int) (H:AH):∃ v,Ev aa C0 W0 132 [I n] H=some (.tuple [.int .i32 v,.bool (rX n)],H):=by obtain ⟨tm,ht,g0,g1⟩:=tm1 (I n) 15 (by decide);rw [Zm,ht];rw [<-af (ro H)];unfold rX;simp (maxSteps:=4000000) +contextual -implicitDefEqProofs only [aaO,Tryz.f132,aP,g0,g1,TL,By,↓aG,aF,eu,sevalprocAttr];refine ⟨_,congrArg (fun b=>some (AV.tuple [.int .i32 _,.bool b],H)) ?_⟩;cases eqB n 0 <;> cases eqB n 6 <;> cases eqB n 7 <;> cases eqB n 18 <;> cases eqB n 19 <;> cases eqB n 5 <;> rfl
theorem aar (n:Int) (H:AH):∃ v,Ev aa C0 W0 151 [I n] H=some (.tuple [.int .i32 v,.bool (rX n)],H):=by obtain ⟨tm,ht,g0,g1⟩:=tm1 (I n) 15 (by decide);rw [Zi,ht];rw [<-af (ro H)];unfold rX;simp (maxSteps:=4000000) +contextual -implicitDefEqProofs only [aaL,Tryz.f151,aP,g0,g1,TL,By,↓aG,aF,eu,sevalprocAttr];refine ⟨_,congrArg (fun b=>some (AV.tuple [.int .i32 _,.bool b],H)) ?_⟩;cases eqB n 0 <;> cases eqB n 6 <;> cases eqB n 7 <;> cases eqB n 18 <;> cases eqB n 19 <;> cases eqB n 5 <;> rfl
theorem nF (n:Int) (H:AH):Ev aa C0 W0 105 [I n] H=some (.bool (rX n),H):=by obtain ⟨v,hv⟩:=aat n (ro H++[]);obtain ⟨tm,ht,g0,g1⟩:=tm1 (I n) 11 (by decide);rw [Zy,ht];rw [<-af (ro H)];simp (maxSteps:=4000000) +contextual -implicitDefEqProofs only [aaV,Tryz.f105,aP,g0,g1,↓Z3,hv,By,↓aG,aF,eu,sevalprocAttr]
theorem lV (n:Int) (H:AH):Ev aa C0 W0 122 [I n] H=some (.bool (rX n),H):=by obtain ⟨v,hv⟩:=aar n (ro H++[]);obtain ⟨tm,ht,g0,g1⟩:=tm1 (I n) 11 (by decide);rw [Zq,ht];rw [<-af (ro H)];simp (maxSteps:=4000000) +contextual -implicitDefEqProofs only [aaR,Tryz.f122,aP,g0,g1,↓Z0,hv,By,↓aG,aF,eu,sevalprocAttr]
theorem nE (u:Bool) (n l:Int) (H:AH):Ev aa C0 W0 106 [.bool u,I n,I l] H=some (.bool (dr u n l),H):=by
 obtain ⟨tm,ht,g0,g1,g2,g3⟩:=tm3 (.bool u) (I n) (I l) 18 (by decide);rw [Zx,ht];rw [<-af (ro H)];simp (maxSteps:=4000000) +contextual -implicitDefEqProofs only [aaU,Tryz.f106,aP,g0,g1,g2,g3,↓aG,aF,eu,sevalprocAttr];unfold dr;refine congrArg (fun b=>some (AV.bool b,H)) ?_;cases u <;>
 cases leB 0 n <;>
 cases ltB n l <;>
 cases eqB n 0 <;>
 rfl
theorem IL (u:Bool) (n:Int) (H:AH):Ev aa C0 W0 98 [I n,.bool u] H=some (.bool (dr u n 16),H):=by
 obtain ⟨tm,ht,g0,g1,g2⟩:=tm2 (I n) (.bool u) 15 (by decide);rw [acs,ht];rw [<-af (ro H)];simp (maxSteps:=4000000) +contextual -implicitDefEqProofs only [c98,f98,aP,g0,g1,g2,↓aG,aF,eu,sevalprocAttr];unfold dr;refine congrArg (fun b=>some (AV.bool b,H)) ?_;cases u <;>
 cases leB 0 n <;>
 cases ltB n 16 <;>
 cases eqB n 0 <;>
 rfl
def kD (k:Int):Bool:=eqB k 0 || eqB k 4 || eqB k 5 || eqB k 11 || eqB k 1 || eqB k 2 || eqB k 6 || eqB k 10 || eqB k 3
def kA (k:Int):Bool:=eqB k 1 || eqB k 2 || eqB k 6 || eqB k 10 || eqB k 3 || eqB k 7 || eqB k 8 || eqB k 12 || eqB k 14
def kB (k:Int):Bool:=eqB k 3 || eqB k 7 || eqB k 8
theorem BE {k:Int} (h0:0<=k) (h1:k < 16) {p:Int->Prop} (a0:p 0) (a1:p 1) (a2:p 2) (a3:p 3) (a4:p 4) (a5:p 5) (a6:p 6) (a7:p 7) (a8:p 8) (a9:p 9) (a10:p 10) (a11:p 11) (a12:p 12) (a13:p 13) (a14:p 14) (a15:p 15):p k:=by
 have:k=0∨k=1∨k=2∨k=3∨k=4∨k=5∨k=6∨k=7∨k=8∨k=9∨k=10∨k=11∨k=12∨k=13∨k=14∨k=15:=by omega
 rcases this with h | h | h | h | h | h | h | h | h | h | h | h | h | h | h | h <;> rw [h] <;> assumption
theorem ad7 {k:Int} (h0:0<=k) (h1:k < 16) (H:AH):Ev aa C0 W0 97 [I k] H=some (.tuple [.bool (kD k),.bool (kA k),.bool (kB k)],H):=by
 refine BE (p:=fun k=>Ev aa C0 W0 97 [I k] H=some (.tuple [.bool (kD k),.bool (kA k),.bool (kB k)],H)) h0 h1 ?_ ?_ ?_ ?_ ?_ ?_ ?_ ?_ ?_ ?_ ?_ ?_ ?_ ?_ ?_ ?_
 · obtain ⟨tm,ht,g0,g1⟩:=tm1 (I 0) 24 (by decide);rw [rG,ht];rw [<-af (ro H)];simp (maxSteps:=4000000) -implicitDefEqProofs only [c97,f97,aP,g0,g1,eqQ,↓aG,aF,eu,sevalprocAttr];rfl
 · obtain ⟨tm,ht,g0,g1⟩:=tm1 (I 1) 24 (by decide);rw [rG,ht];rw [<-af (ro H)];simp (maxSteps:=4000000) -implicitDefEqProofs only [c97,f97,aP,g0,g1,eqQ,↓aG,aF,eu,sevalprocAttr];rfl
 · obtain ⟨tm,ht,g0,g1⟩:=tm1 (I 2) 24 (by decide);rw [rG,ht];rw [<-af (ro H)];simp (maxSteps:=4000000) -implicitDefEqProofs only [c97,f97,aP,g0,g1,eqQ,↓aG,aF,eu,sevalprocAttr];rfl
 · obtain ⟨tm,ht,g0,g1⟩:=tm1 (I 3) 24 (by decide);rw [rG,ht];rw [<-af (ro H)];simp (maxSteps:=4000000) -implicitDefEqProofs only [c97,f97,aP,g0,g1,eqQ,↓aG,aF,eu,sevalprocAttr];rfl
 · obtain ⟨tm,ht,g0,g1⟩:=tm1 (I 4) 24 (by decide);rw [rG,ht];rw [<-af (ro H)];simp (maxSteps:=4000000) -implicitDefEqProofs only [c97,f97,aP,g0,g1,eqQ,↓aG,aF,eu,sevalprocAttr];rfl
 · obtain ⟨tm,ht,g0,g1⟩:=tm1 (I 5) 24 (by decide);rw [rG,ht];rw [<-af (ro H)];simp (maxSteps:=4000000) -implicitDefEqProofs only [c97,f97,aP,g0,g1,eqQ,↓aG,aF,eu,sevalprocAttr];rfl
 · obtain ⟨tm,ht,g0,g1⟩:=tm1 (I 6) 24 (by decide);rw [rG,ht];rw [<-af (ro H)];simp (maxSteps:=4000000) -implicitDefEqProofs only [c97,f97,aP,g0,g1,eqQ,↓aG,aF,eu,sevalprocAttr];rfl
 · obtain ⟨tm,ht,g0,g1⟩:=tm1 (I 7) 24 (by decide);rw [rG,ht];rw [<-af (ro H)];simp (maxSteps:=4000000) -implicitDefEqProofs only [c97,f97,aP,g0,g1,eqQ,↓aG,aF,eu,sevalprocAttr];rfl
 · obtain ⟨tm,ht,g0,g1⟩:=tm1 (I 8) 24 (by decide);rw [rG,ht];rw [<-af (ro H)];simp (maxSteps:=4000000) -implicitDefEqProofs only [c97,f97,aP,g0,g1,eqQ,↓aG,aF,eu,sevalprocAttr];rfl
 · obtain ⟨tm,ht,g0,g1⟩:=tm1 (I 9) 24 (by decide);rw [rG,ht];rw [<-af (ro H)];simp (maxSteps:=4000000) -implicitDefEqProofs only [c97,f97,aP,g0,g1,eqQ,↓aG,aF,eu,sevalprocAttr];rfl
 · obtain ⟨tm,ht,g0,g1⟩:=tm1 (I 10) 24 (by decide);rw [rG,ht];rw [<-af (ro H)];simp (maxSteps:=4000000) -implicitDefEqProofs only [c97,f97,aP,g0,g1,eqQ,↓aG,aF,eu,sevalprocAttr];rfl
 · obtain ⟨tm,ht,g0,g1⟩:=tm1 (I 11) 24 (by decide);rw [rG,ht];rw [<-af (ro H)];simp (maxSteps:=4000000) -implicitDefEqProofs only [c97,f97,aP,g0,g1,eqQ,↓aG,aF,eu,sevalprocAttr];rfl
 · obtain ⟨tm,ht,g0,g1⟩:=tm1 (I 12) 24 (by decide);rw [rG,ht];rw [<-af (ro H)];simp (maxSteps:=4000000) -implicitDefEqProofs only [c97,f97,aP,g0,g1,eqQ,↓aG,aF,eu,sevalprocAttr];rfl
 · obtain ⟨tm,ht,g0,g1⟩:=tm1 (I 13) 24 (by decide);rw [rG,ht];rw [<-af (ro H)];simp (maxSteps:=4000000) -implicitDefEqProofs only [c97,f97,aP,g0,g1,eqQ,↓aG,aF,eu,sevalprocAttr];rfl
 · obtain ⟨tm,ht,g0,g1⟩:=tm1 (I 14) 24 (by decide);rw [rG,ht];rw [<-af (ro H)];simp (maxSteps:=4000000) -implicitDefEqProofs only [c97,f97,aP,g0,g1,eqQ,↓aG,aF,eu,sevalprocAttr];rfl
 · obtain ⟨tm,ht,g0,g1⟩:=tm1 (I 15) 24 (by decide);rw [rG,ht];rw [<-af (ro H)];simp (maxSteps:=4000000) -implicitDefEqProofs only [c97,f97,aP,g0,g1,eqQ,↓aG,aF,eu,sevalprocAttr];rfl
end Go.Dv
namespace Go.Dv
theorem r5:(type_of% @bO.eq_1)/\(type_of% @eQ.eq_1)/\(type_of% @jl.eq_1)/\(type_of% @kp.eq_1)/\(type_of% @Bh.eq_1):=⟨@bO.eq_1,@eQ.eq_1,@jl.eq_1,@kp.eq_1,@Bh.eq_1⟩
theorem zzD:(type_of% @r5)/\(type_of% @aF)/\(type_of% @eu):=⟨@r5,@aF,@eu⟩
end Go.Dv
namespace Go.Dv
open Go.Proofs
attribute [local congr] aA bC aT bB bD
def iS (c:Cod) (n:Int):Bool:=match c.params[n.toNat]? with
 | some p=>p.buf
 | none=>false
def OB (c:Cod) (n:Int):Bool:=br (leB 6 n) (ltB n (6+c.shared.length)) (leB 0 n && ltB n c.params.length && iS c n)
def X0 (c:Cod) (n:Int):Bool:=leB 0 n && ltB n c.params.length && !iS c n
theorem pw {n:Int} (h:-9223372036854775808<=n/\n < 9223372036854775808):IntKind.i64.wrap n=n:=IntWalk.i64_in _ (by omega)
theorem xW {H K:AH} {c:Cod} {vp vs vi:AV} (h:eW H c vp vs vi) (hA:an H K) {j:Nat} (hj:j < c.params.length):∃ i k,(∀ kk,aC aa 62 vp (.int kk (j:Int))=some (.ptr i k))/\(∀ L,ak (K++L) i k 1=some [.str (c.params[j]'hj).name])/\(∀ L,ak (K++L) i (k+1) 1=some [.bool (c.params[j]'hj).buf])/\(∀ L,ak (K++L) i k 2=some (jl (c.params[j]'hj)))/\iS c (j:Int)=(c.params[j]'hj).buf:=by obtain ⟨i,k,hi,hr⟩:=h.p.ix j (jl (c.params[j]'hj)) (by rw [aO,aj hj]; rfl);refine ⟨i,k,hi,fun L=>xL hr hA L rfl,fun L=>B5 hr hA L 1 rfl,fun L=>iH hr hA L,?_⟩;unfold iS;rw [Int.toNat_natCast,aj hj]
theorem aas {H:AH} {c:Cod} {vp vs vi:AV} (h:eW H c vp vs vi) {n:Int} (hn:fk n):Ev aa C0 W0 133 [.agg (bO c vp vs vi),.int .i32 n] H=some (.bool (OB c n),H):=by
 obtain ⟨tm,ht,g0,g1,g2⟩:=tm2 (.agg (bO c vp vs vi)) (.int .i32 n) 32 (by decide);rw [Zl,ht];rw [<-af (ro H)];unfold OB;obtain ⟨n0,n1⟩:=hn;have hlp:=h.ro.lp;have hls:=h.ro.ls;have hsb:=h.ns;have hpb:=h.np;have hwn:IntKind.i64.wrap n=n:=pw (by omega);cases h6:leB 6 n with
 | true =>have hw6:IntKind.i64.wrap (6+(c.shared.length:Int))=6+(c.shared.length:Int):=pw (by omega);simp (maxSteps:=4000000) -implicitDefEqProofs only [Oi,f133,aP,g0,g1,g2,hlp,hls,r5,↓ba,h6,hwn,hw6,↓aG,aF,eu,sevalprocAttr]
 | false =>
   cases h0:leB 0 n with
   | false=>simp (maxSteps:=4000000) -implicitDefEqProofs only [Oi,f133,aP,g0,g1,g2,hlp,hls,r5,↓ba,h6,h0,hwn,↓aG,aF,eu,sevalprocAttr]
   | true =>
     cases hl:ltB n c.params.length with
     | false=>simp (maxSteps:=4000000) -implicitDefEqProofs only [Oi,f133,aP,g0,g1,g2,hlp,hls,r5,↓ba,h6,h0,hl,hwn,↓aG,aF,eu,sevalprocAttr]
     | true =>
       rw [dC] at h0;obtain ⟨j,rfl⟩:∃ j:Nat,n=j:=⟨n.toNat,by omega⟩;have hj:j < c.params.length:=by have:=(dB _ _).1 hl; omega
       obtain ⟨i,k,hi,hr0,hr1,hr2,hb⟩:=xW h.ro (an.refl _) hj;have h0':leB 0 (j:Int)=true:=z3 (by omega);simp (maxSteps:=4000000) -implicitDefEqProofs only [Oi,f133,aP,g0,g1,g2,hlp,hls,r5,↓ba,h6,h0',hl,hwn,hi,hr1,hb,↓aG,aF,eu,sevalprocAttr]
theorem aau {H:AH} {c:Cod} {vp vs vi:AV} (h:eW H c vp vs vi) {n:Int} (hn:fk n):Ev aa C0 W0 123 [.agg (bO c vp vs vi),.int .i32 n] H=some (.bool (OB c n),H):=by
 obtain ⟨tm,ht,g0,g1,g2⟩:=tm2 (.agg (bO c vp vs vi)) (.int .i32 n) 32 (by decide);rw [Zp,ht];rw [<-af (ro H)];unfold OB;obtain ⟨n0,n1⟩:=hn;have hlp:=h.ro.lp;have hls:=h.ro.ls;have hsb:=h.ns;have hpb:=h.np;have hwn:IntKind.i64.wrap n=n:=pw (by omega);cases h6:leB 6 n with
 | true =>
   have hw6:IntKind.i64.wrap (n - 6)=n - 6:=pw (by omega);have he:ltB (n - 6) (c.shared.length:Int)=ltB n (6+(c.shared.length:Int)):=by rw [gI,dB,dB]; omega
   simp (maxSteps:=4000000) -implicitDefEqProofs only [Oj,f123,aP,g0,g1,g2,hlp,hls,r5,↓ba,h6,hwn,hw6,he,↓aG,aF,eu,sevalprocAttr]
 | false =>
   cases h0:leB 0 n with
   | false=>simp (maxSteps:=4000000) -implicitDefEqProofs only [Oj,f123,aP,g0,g1,g2,hlp,hls,r5,↓ba,h6,h0,hwn,↓aG,aF,eu,sevalprocAttr]
   | true =>
     cases hl:ltB n c.params.length with
     | false=>simp (maxSteps:=4000000) -implicitDefEqProofs only [Oj,f123,aP,g0,g1,g2,hlp,hls,r5,↓ba,h6,h0,hl,hwn,↓aG,aF,eu,sevalprocAttr]
     | true =>
       rw [dC] at h0;obtain ⟨j,rfl⟩:∃ j:Nat,n=j:=⟨n.toNat,by omega⟩;have hj:j < c.params.length:=by have:=(dB _ _).1 hl; omega
       obtain ⟨i,k,hi,hr0,hr1,hr2,hb⟩:=xW h.ro (an.refl _) hj;have h0':leB 0 (j:Int)=true:=z3 (by omega);simp (maxSteps:=4000000) -implicitDefEqProofs only [Oj,f123,aP,g0,g1,g2,hlp,hls,r5,↓ba,h6,h0',hl,hwn,hi,hr1,hb,↓aG,aF,eu,sevalprocAttr]
theorem st3 (H:AH) (i k:Nat) (x:AV):stA aa 3 H i k x=if x.cells.length=1 then bj H i k x.cells else none:=by kernel_rfl
theorem st4 (H:AH) (i k:Nat) (x:AV):stA aa 4 H i k x=if x.cells.length=1 then bj H i k x.cells else none:=by kernel_rfl
theorem fT (H:AH) (i k:Nat) (x:AV):stA aa 21 H i k x=if x.cells.length=1 then bj H i k x.cells else none:=by kernel_rfl
theorem abO (H:AH) (i k:Nat) (x:AV):stA aa 25 H i k x=if x.cells.length=1 then bj H i k x.cells else none:=by kernel_rfl
theorem XP (H:AH) (i k:Nat) (x:AV):stA aa 30 H i k x=if x.cells.length=1 then bj H i k x.cells else none:=by kernel_rfl
theorem abL (H:AH) (i k:Nat) (x:AV):stA aa 31 H i k x=if x.cells.length=1 then bj H i k x.cells else none:=by kernel_rfl
theorem fX (H:AH) (i k:Nat) (x:AV):stA aa 32 H i k x=if x.cells.length=1 then bj H i k x.cells else none:=by kernel_rfl
theorem abJ (H:AH) (i k:Nat) (x:AV):stA aa 62 H i k x=if x.cells.length=1 then bj H i k x.cells else none:=by kernel_rfl
theorem abI (H:AH) (i k:Nat) (x:AV):stA aa 63 H i k x=if x.cells.length=1 then bj H i k x.cells else none:=by kernel_rfl
theorem abH (H:AH) (i k:Nat) (x:AV):stA aa 64 H i k x=if x.cells.length=1 then bj H i k x.cells else none:=by kernel_rfl
theorem abN (H:AH) (i k:Nat) (x:AV):stA aa 27 H i k x=if x.cells.length=7 then bj H i k x.cells else none:=by kernel_rfl
theorem abM (H:AH) (i k:Nat) (x:AV):stA aa 29 H i k x=if x.cells.length=10 then bj H i k x.cells else none:=by kernel_rfl
theorem ed (H:AH) (i k:Nat) (x:AV):stA aa 34 H i k x=if x.cells.length=9 then bj H i k x.cells else none:=by kernel_rfl
theorem Uy (H:AH) (i k:Nat) (x:AV):stA aa 66 H i k x=if x.cells.length=5 then bj H i k x.cells else none:=by kernel_rfl
theorem wm (H:AH) (i k:Nat) (x:AV):stA aa 74 H i k x=if x.cells.length=2 then bj H i k x.cells else none:=by kernel_rfl
theorem JE (H:AH) (i k:Nat) (x:AV):stA aa 77 H i k x=if x.cells.length=2 then bj H i k x.cells else none:=by kernel_rfl
theorem XO (H:AH) (i k:Nat) (x:AV):stA aa 80 H i k x=if x.cells.length=8 then bj H i k x.cells else none:=by kernel_rfl
theorem ng (H:AH) (i k:Nat) (x:AV):stA aa 152 H i k x=if x.cells.length=12 then bj H i k x.cells else none:=by kernel_rfl
theorem XQ (H:AH) (i k:Nat) (x:AV):stA aa 153 H i k x=if x.cells.length=192 then bj H i k x.cells else none:=by kernel_rfl
theorem z30:d8 aa 30=some (.nilSlice):=by kernel_rfl
theorem z80:d8 aa 80=some (.agg [I 0,I 0,I 0,I 0,I 0,.int .i32 0,I 0,I 0]):=by kernel_rfl
theorem z74:d8 aa 74=some (.agg [.str eS,.bool false]):=by kernel_rfl
theorem z77:d8 aa 77=some (.agg [.str eS,I 0]):=by kernel_rfl
theorem z66:d8 aa 66=some (.agg [.str eS,.nilSlice,.nilSlice,I 0,.nilSlice]):=by kernel_rfl
theorem sL:d8 aa 152=some (.agg [.bool false,.bool false,.bool false,.bool false,.bool false,.bool false,.bool false,.bool false,.bool false,.bool false,.bool false,I 0]):=by kernel_rfl
def Jn:List AV:=(au 16 [AV.bool false,AV.bool false,AV.bool false,AV.bool false,AV.bool false,AV.bool false,AV.bool false,AV.bool false,AV.bool false,AV.bool false,AV.bool false,I 0]).flatten
theorem HD:d8 aa 153=some (.agg Jn):=by kernel_rfl
theorem SlS.one {T es:Nat} {H:AH} {v:AV} {rows:List (List AV)} (h:SlS T es H v rows):v.one=true:=by rcases h.old with ⟨e,_⟩ | ⟨i,k,c,x,e,h',_⟩ <;> rw [e] <;> rfl
theorem SlS.cells {T es:Nat} {H:AH} {v:AV} {rows:List (List AV)} (h:SlS T es H v rows):v.cells=[v]:=by rcases h.old with ⟨e,_⟩ | ⟨i,k,c,x,e,h',_⟩ <;> rw [e] <;> rfl
theorem mG:∀ (vs cs:List AV),vs.length=cs.length->spl cs 0 vs=vs
 | [],[],_=>rfl
 | [],_::_,h=>by simp at h
 | _::_,[],h=>by simp at h
 | v::vs,c::cs,h=>by
   have key:∀ (vs cs:List AV) (c:AV) (k:Nat),spl (c::cs) (k+1) vs=c::spl cs k vs:=by
     intro vs
     induction vs with
     | nil=>intro cs c k; rfl
     | cons v vs ih=>intro cs c k; simp only [spl,List.set_cons_succ]; rw [ih]
   simp only [spl,kK]
   rw [key,mG vs cs (by simpa using h)]
theorem Pa (H L:AH) (cs vs:List AV) (e:TypeId) (hl:vs.length=cs.length) (ho:vs.all AV.one=true):bj (H++.cells cs e::L) H.length 0 vs=some (H++.cells vs e::L):=by unfold bj;rw [al (aw _),d9,iD];simp only;rw [if_pos ⟨by omega,ho⟩,List.set_append_right _ _ (aw _),d9,kK,mG vs cs hl]
theorem nw (i k:Nat) (kk:IntKind) (n:Int):aC aa 153 (.ptr i k) (.int kk n)=if 0<=n/\n < 16 then some (.ptr i (k+n.toNat * 12)) else none:=by kernel_rfl
def CF (k:Int):Bool:=eqB k 8 || eqB k 10
def Bj (k:Int):Int:=if k=2 then 3 else if k=3 then 20 else if k=4 then 4 else 0
def kTo (k:Int):Bool:=eqB k 13 || eqB k 14
def CE (k:Int):Bool:=eqB k 14
def vU (k:Int):Bool:=eqB k 0
def CH (k:Int):Bool:=eqB k 6 || eqB k 7 || eqB k 8
def CC (k:Int):Bool:=eqB k 5
def CG (k:Int):Bool:=eqB k 9 || eqB k 10
def CD (k:Int):Bool:=eqB k 11 || eqB k 12
def UG (k:Int):List AV:=[.bool (kD k),.bool (kA k),.bool (kB k),.bool (CH k),.bool (CF k),.bool (CG k),.bool (CD k),.bool (CC k),.bool (vU k),.bool (kTo k),.bool (CE k),I (Bj k)]
theorem ab8:∀ k:Fin 16,(gN.drop (k.val * 12)).take 12=UG (k.val:Int):=by
 intro ⟨k,hk⟩;have:k=0∨k=1∨k=2∨k=3∨k=4∨k=5∨k=6∨k=7∨k=8∨k=9∨k=10∨k=11∨k=12∨k=13∨k=14∨k=15:=by omega
 rcases this with h | h | h | h | h | h | h | h | h | h | h | h | h | h | h | h <;> subst h <;> rfl
theorem LW (H L:AH) (A B:bm) {j:Nat} (hj:j < 16):ak (H++A::B::.cells gN 153::L) (H.length+2) (0+j * 12) 12=some (UG (j:Int)):=by rw [jE];unfold ak;simp only [List.getElem?_cons_succ,iD];have hl:gN.length=192:=rfl;rw [if_pos (by rw [hl]; omega),Nat.zero_add,ab8 ⟨j,hj⟩]
def Bm (c:Cod) (word array param barrier loc:Bool) (n:Int):Bool:=br word true (br array (OB c n) (br param (X0 c n) (br barrier (leB 0 n && leB n 400) (br loc (leB 0 n && ltB n c.loc) (eqB n 0)))))
def tG (c:Cod) (x:Ins):Bool:=leB 0 x.kind && ltB x.kind 16 && br (CF x.kind) (rX x.op) (dr (ltB 0 (Bj x.kind)) x.op (Bj x.kind)) && dr (kD x.kind) x.d 16 && dr (kA x.kind) x.a 16 && dr (kB x.kind) x.b 16 &&
 Bm c (vU x.kind) (CH x.kind) (CC x.kind) (CG x.kind) (CD x.kind) x.imm && dr (kTo x.kind) x.to c.insns.length && dr (CE x.kind) x.join (c.insns.length+1)
theorem fi (i k:Nat):aL aa 152 (.ptr i k) 0=some (.ptr i k):=by kernel_rfl
theorem fh (i k:Nat):aL aa 152 (.ptr i k) 1=some (.ptr i (k+1)):=by kernel_rfl
theorem fg (i k:Nat):aL aa 152 (.ptr i k) 2=some (.ptr i (k+2)):=by kernel_rfl
theorem fe (i k:Nat):aL aa 152 (.ptr i k) 3=some (.ptr i (k+3)):=by kernel_rfl
theorem fc (i k:Nat):aL aa 152 (.ptr i k) 4=some (.ptr i (k+4)):=by kernel_rfl
theorem e9 (i k:Nat):aL aa 152 (.ptr i k) 5=some (.ptr i (k+5)):=by kernel_rfl
theorem e8 (i k:Nat):aL aa 152 (.ptr i k) 6=some (.ptr i (k+6)):=by kernel_rfl
theorem e7 (i k:Nat):aL aa 152 (.ptr i k) 7=some (.ptr i (k+7)):=by kernel_rfl
theorem eZ (i k:Nat):aL aa 152 (.ptr i k) 8=some (.ptr i (k+8)):=by kernel_rfl
theorem eY (i k:Nat):aL aa 152 (.ptr i k) 9=some (.ptr i (k+9)):=by kernel_rfl
theorem eh (i k:Nat):aL aa 152 (.ptr i k) 10=some (.ptr i (k+10)):=by kernel_rfl
theorem eg (i k:Nat):aL aa 152 (.ptr i k) 11=some (.ptr i (k+11)):=by kernel_rfl
theorem aay {H:AH} {c:Cod} {vp vs vi:AV} (h:eW H c vp vs vi) (fd fa fb far ff fbr fl fp fw ft fj:Bool) (fo:Int) {n:Int} (hn:fk n):Ev aa C0 W0 107 [.agg (bO c vp vs vi),.agg [.bool fd,.bool fa,.bool fb,.bool far,.bool ff,.bool fbr,.bool fl,.bool fp,.bool fw,.bool ft,.bool fj,I fo],.int .i32 n] H=some (.bool (Bm c fw far fp fbr fl n),H):=by
 obtain ⟨tm,ht,g0,g1,g2,g3⟩:=tm3 (.agg (bO c vp vs vi)) (.agg [.bool fd,.bool fa,.bool fb,.bool far,.bool ff,.bool fbr,.bool fl,.bool fp,.bool fw,.bool ft,.bool fj,I fo]) (.int .i32 n) 61 (by decide);rw [Zw,ht];rw [<-af (ro H)];unfold Bm;have hn':=hn;obtain ⟨n0,n1⟩:=hn;have hlp:=h.ro.lp;have hls:=h.ro.ls;have hpb:=h.np;have hwn:IntKind.i64.wrap n=n:=pw (by omega);cases fw with
 | true=>simp (maxSteps:=4000000) -implicitDefEqProofs only [BH,f107,aP,g0,g1,g2,g3,hlp,hls,hwn,r5,↓ba,fi,fh,fg,fe,fc,e9,e8,e7,eZ,eY,eh,eg,↓aG,aF,eu,sevalprocAttr]
 | false =>
   cases far with
   | true =>have h133:=fun L=>aas (h.ro.aZ (an.app _ L)) hn';simp only [bO] at h133;simp (maxSteps:=4000000) -implicitDefEqProofs only [BH,f107,aP,g0,g1,g2,g3,hlp,hls,hwn,r5,↓ba,fi,fh,fg,fe,fc,e9,e8,e7,eZ,eY,eh,eg,↓Z1,h133,↓aG,aF,eu,sevalprocAttr]
   | false =>
     cases fp with
     | true =>
       unfold X0;cases h0:leB 0 n with
       | false=>simp (maxSteps:=4000000) -implicitDefEqProofs only [BH,f107,aP,g0,g1,g2,g3,hlp,hls,hwn,r5,↓ba,fi,fh,fg,fe,fc,e9,e8,e7,eZ,eY,eh,eg,h0,↓aG,aF,eu,sevalprocAttr]
       | true =>
         cases hl:ltB n c.params.length with
         | false=>simp (maxSteps:=4000000) -implicitDefEqProofs only [BH,f107,aP,g0,g1,g2,g3,hlp,hls,hwn,r5,↓ba,fi,fh,fg,fe,fc,e9,e8,e7,eZ,eY,eh,eg,h0,hl,↓aG,aF,eu,sevalprocAttr]
         | true =>
           rw [dC] at h0;obtain ⟨j,rfl⟩:∃ j:Nat,n=j:=⟨n.toNat,by omega⟩;have hj:j < c.params.length:=by have:=(dB _ _).1 hl; omega
           obtain ⟨i,k,hi,hr0,hr1,hr2,hb⟩:=xW h.ro (an.refl _) hj;have h0':leB 0 (j:Int)=true:=z3 (by omega);simp (maxSteps:=4000000) -implicitDefEqProofs only [BH,f107,aP,g0,g1,g2,g3,hlp,hls,hwn,r5,↓ba,fi,fh,fg,fe,fc,e9,e8,e7,eZ,eY,eh,eg,h0',hl,hi,hr1,hb,↓aG,aF,eu,sevalprocAttr]
     | false =>
       cases fbr with
       | true=>cases h0:leB 0 n <;> simp (maxSteps:=4000000) -implicitDefEqProofs only [BH,f107,aP,g0,g1,g2,g3,hlp,hls,hwn,r5,↓ba,fi,fh,fg,fe,fc,e9,e8,e7,eZ,eY,eh,eg,h0,↓aG,aF,eu,sevalprocAttr]
       | false =>
         cases fl with
         | true=>cases h0:leB 0 n <;> simp (maxSteps:=4000000) -implicitDefEqProofs only [BH,f107,aP,g0,g1,g2,g3,hlp,hls,hwn,r5,↓ba,fi,fh,fg,fe,fc,e9,e8,e7,eZ,eY,eh,eg,h0,↓aG,aF,eu,sevalprocAttr]
         | false=>simp (maxSteps:=4000000) -implicitDefEqProofs only [BH,f107,aP,g0,g1,g2,g3,hlp,hls,hwn,r5,↓ba,fi,fh,fg,fe,fc,e9,e8,e7,eZ,eY,eh,eg,↓aG,aF,eu,sevalprocAttr]
end Go.Dv
