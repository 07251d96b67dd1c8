/- Part 13 of the walks (own work). -/
import Derived.Test.YtilpjnckfkjkbaaGreatDoorT12
open Bool renaming eq_iff_iff→fM,false_and→bc,true_and→bd
open ByteArray renaming ext→VB
open List renaming append_assoc→aG,append_nil→af,getElem?_append_right→al,getElem?_cons_zero→iq,getElem?_eq_getElem→aj,getElem?_map→aM,length_append→ai,length_map→ar,length_set→aq,replicate→ay,set_cons_zero→kz
open Nat renaming le_refl→ax,reduceAdd→aZ,reduceEqDiff→aO,reduceLT→aQ,reduceLeDiff→aK,sub_self→dR
open Option renaming map_eq_some_iff→ah
open Option.some renaming inj→aE
open Go.Proofs.Tryz renaming prog→aa
set_option maxRecDepth 100000
set_option maxHeartbeats 4000000
set_option linter.unusedSimpArgs false
set_option linter.unusedVariables false
namespace Go.Dv
open Go.Proofs
attribute [local congr] aF bC aY bB bD
theorem zq (H L:AH):Ev aa C0 W0 130 [] (H++L)=some (.map (H.length+L.length),H++(L++[.map ue 25])):=by rw [IB,ai,aG]
def eS:ByteArray:=⟨#[]⟩
theorem MV {s:ByteArray} (h:sEq s eS=false):0 < s.size:=by
 rcases Nat.eq_zero_or_pos s.size with c | c
 · have:s=eS:=VB (by
     have:s.data.size=0:=c
     rw [Array.size_eq_zero_iff] at this; exact this)
   rw [this] at h
   have h2:sEq eS eS=true:=by rw [qv]
   rw [h2] at h; cases h
 · exact c
def yn (s:ByteArray):Bool:=cd (fun j=>ym (jP s (j:Int))) s.size 0
def sP (s:ByteArray):Bool:=!sEq s eS && vS (jP s 0) && yn s
def lJ (s:ByteArray):Bool:=sP s && leB s.size 16 && !sIn dr s
theorem BI {H:AH} {s:ByteArray}  (hN:s.size < 2 ^ 60):∀ (d j:Nat) (tm:List AV) (K:AH) (Z:Option (bs × St)),EvC aa C0 W0 plN KE (tm,K)=Z->s.size - j=d->j<=s.size->au H K->tm.length=23->tm.getD 0 uA=.str s->tm.getD 3 uA=I ((j:Nat):Int) ->
   ∃ X Y K1 K2,Z=br (cd (fun j=>ym (jP s (j:Int))) (s.size) (j)) (some (.exit 0,(X,K1))) (some (.ret,(Y,K2)))/\(X.length=23/\au H K1/\X.getD 0 uA=.str s)/\Y.length=23/\Y.getD 2 uA=.bool false:=by
 intro d
 induction d with
 | zero =>
   intro j tm K Z hZ hd hj hA hlen h0 h3
   subst hZ
   have hjl:j=s.size:=by omega
   have hlt:ltB (j:Int) (s.size:Nat)=false:=cH (by omega)
   rw [di (by omega),FZ]
   simp (maxSteps:=4000000) -implicitDefEqProofs only [yO,Tryz.f119,aP,hlen,h0,h3,hlt,ln9,↓ao,an,eu,reduceCtorEq,reduceIte,aQ,aO,aZ,aK]
   exact ⟨_,tm.set 2 (.bool false),_,K,rfl,⟨by first | exact hlen | simp only [aq,hlen],hA,by first | exact h0 | simp only [hlen,h0,gB,sevalprocAttr]⟩,by simp only [ls,hlen],by simp only [hlen,dv,aQ]⟩
 | succ d ih =>
   intro j tm K Z hZ hd hj hA hlen h0 h3
   subst hZ
   have hjN:j < s.size:=by omega
   have hlt:ltB (j:Int) (s.size:Nat)=true:=cD (by omega)
   have hw:=cp (j:=j) (by omega)
   have hjj:((0:Int)<=(j:Int)/\(j:Int) < (s.size:Int))=True:=eq_true (by omega)
   rw [cI hjN,FZ]
   rw [<-af K]
   cases hp:(ym (jP s (j:Int))) with
   | true =>
     simp only [bd]
     simp (maxSteps:=4000000) -implicitDefEqProofs only [yO,Tryz.f119,aP,hlen,h0,h3,hlt,hw,ln9,hjj,↓fL Az,↓Sf,Sk,hp,↓ao,an,eu,reduceCtorEq,reduceIte,aQ,aO,aZ,aK]
     exact ih (j+1) _ _ _ rfl (by omega) (by omega) (by first | exact hA | exact hA.bS _ | exact (hA.bS _).bS _ | exact hA) (by simp only [ls,hlen]) (by simp only [hlen,h0,gB,sevalprocAttr]) (by simp only [hlen,h3,gB,sevalprocAttr])
   | false =>
     simp only [bc]
     simp (maxSteps:=4000000) -implicitDefEqProofs only [yO,Tryz.f119,aP,hlen,h0,h3,hlt,hw,ln9,hjj,↓fL Az,↓Sf,Sk,hp,↓ao,an,eu,reduceCtorEq,reduceIte,aQ,aO,aZ,aK]
     exact ⟨tm,_,K,_,rfl,⟨hlen,hA,h0⟩,by simp only [ls,hlen],by simp only [hlen,gB,sevalprocAttr]⟩
theorem Hx {H:AH} {s:ByteArray}  (hN:s.size < 2 ^ 60):∀ (d j:Nat) (tm:List AV) (K:AH) (Z:Option (bs × St)),EvC aa C0 W0 plN KG (tm,K)=Z->s.size - j=d->j<=s.size->au H K->tm.length=33->tm.getD 0 uA=.str s->tm.getD 23 uA=I s.size->tm.getD 24 uA=I ((j:Nat):Int) ->
   ∃ X Y K1 K2,Z=br (cd (fun j=>ym (jP s (j:Int))) (s.size) (j)) (some (.exit 0,(X,K1))) (some (.ret,(Y,K2)))/\(X.length=33/\au H K1/\X.getD 0 uA=.str s/\X.getD 23 uA=I s.size)/\Y.length=33/\Y.getD 2 uA=.bool false:=by
 intro d
 induction d with
 | zero =>
   intro j tm K Z hZ hd hj hA hlen h0 h23 h24
   subst hZ
   have hjl:j=s.size:=by omega
   have hlt:ltB (j:Int) (s.size:Nat)=false:=cH (by omega)
   rw [di (by omega),F1]
   simp (maxSteps:=4000000) -implicitDefEqProofs only [yP,Tryz.f104,aP,hlen,h0,h23,h24,hlt,↓ao,an,eu,reduceCtorEq,reduceIte,aQ,aO,aZ,aK]
   exact ⟨_,tm.set 2 (.bool false),_,K,rfl,⟨by first | exact hlen | simp only [aq,hlen],hA,by first | exact h0 | simp only [hlen,h0,gB,sevalprocAttr],by first | exact h23 | simp only [hlen,h23,gB,sevalprocAttr]⟩,by simp only [ls,hlen],by simp only [hlen,dv,aQ]⟩
 | succ d ih =>
   intro j tm K Z hZ hd hj hA hlen h0 h23 h24
   subst hZ
   have hjN:j < s.size:=by omega
   have hlt:ltB (j:Int) (s.size:Nat)=true:=cD (by omega)
   have hw:=cp (j:=j) (by omega)
   have hjj:((0:Int)<=(j:Int)/\(j:Int) < (s.size:Int))=True:=eq_true (by omega)
   rw [cI hjN,F1]
   rw [<-af K]
   cases hp:(ym (jP s (j:Int))) with
   | true =>
     simp only [bd]
     simp (maxSteps:=4000000) -implicitDefEqProofs only [yP,Tryz.f104,aP,hlen,h0,h23,h24,hlt,hw,hjj,↓fL Az,↓Sg,Sl,hp,↓ao,an,eu,reduceCtorEq,reduceIte,aQ,aO,aZ,aK]
     exact ih (j+1) _ _ _ rfl (by omega) (by omega) (by first | exact hA | exact hA.bS _ | exact (hA.bS _).bS _ | exact hA) (by simp only [ls,hlen]) (by simp only [hlen,h0,gB,sevalprocAttr]) (by simp only [hlen,h23,gB,sevalprocAttr]) (by simp only [hlen,h24,gB,sevalprocAttr])
   | false =>
     simp only [bc]
     simp (maxSteps:=4000000) -implicitDefEqProofs only [yP,Tryz.f104,aP,hlen,h0,h23,h24,hlt,hw,hjj,↓fL Az,↓Sg,Sl,hp,↓ao,an,eu,reduceCtorEq,reduceIte,aQ,aO,aZ,aK]
     exact ⟨tm,_,K,_,rfl,⟨hlen,hA,h0,h23⟩,by simp only [ls,hlen],by simp only [hlen,gB,sevalprocAttr]⟩
theorem LO {s:ByteArray} (hN:s.size < 2 ^ 60) (H:AH):Ev aa C0 W0 119 [.str s] H=some (.bool (sP s),H):=by
 obtain ⟨tm,ht,g0,g1⟩:=tm1 (.str s) 23 (by decide)
 rw [Ye,ht]
 rw [<-af (ro H)]
 unfold sP yn
 cases hs:sEq s eS with
 | true =>
   simp (maxSteps:=4000000) -implicitDefEqProofs only [Qv,Tryz.f119,aP,g0,g1,show (⟨#[]⟩:ByteArray)=eS from rfl,hs,↓ao,an,eu,reduceCtorEq,reduceIte,aQ,aO,aZ,aK]
 | false =>
   have h0:((0:Int)<=0/\(0:Int) < (s.size:Int))=True:=eq_true (by have:=MV hs; omega)
   cases hl:vS (jP s 0) with
   | false =>
     simp (maxSteps:=4000000) -implicitDefEqProofs only [Qv,Tryz.f119,aP,g0,g1,show (⟨#[]⟩:ByteArray)=eS from rfl,hs,h0,↓fL Az,↓KV,LN,hl,↓ao,an,eu,reduceCtorEq,reduceIte,aQ,aO,aZ,aK]
   | true =>
     simp (maxSteps:=4000000) -implicitDefEqProofs only [Qv,Tryz.f119,aP,g0,g1,show (⟨#[]⟩:ByteArray)=eS from rfl,hs,h0,↓fL Az,↓KV,LN,hl,↓ao,an,eu,reduceCtorEq,reduceIte,aQ,aO,aZ,aK]
     generalize hX:EvC aa C0 W0 _ (Code.loop _) _=Z
     obtain ⟨X,Y,K1,K2,he,xs,y0,y1⟩:=BI (s:=s) hN (s.size) 0 _ _ _ hX (by omega) (by omega) (au.app _ _) (by simp only [ls,g0]) (by simp only [g0,g1,gB,sevalprocAttr]; try rfl) (by simp only [g0,gB,sevalprocAttr]; try rfl)
     subst he
     simp (maxSteps:=4000000) +contextual -implicitDefEqProofs only [xs.1,y0,y1,↓ao,an,eu,reduceCtorEq,reduceIte,aQ,aO,aZ,aK]
     cases cd (fun j=>ym (jP s (j:Int))) s.size 0 <;> rfl
def xZ (s:ByteArray):Bool:=!sEq s eS && !ltB 16 s.size && vS (jP s 0) && !sIn dr s && yn s
theorem PK (s:ByteArray):xZ s=lJ s:=by
 unfold xZ lJ sP
 have:leB (s.size:Int) 16=!ltB 16 (s.size:Int):=by
   rw [fM,Bool.not_eq_true',dn,fS]
 rw [this]
 cases sEq s eS <;> cases ltB 16 (s.size:Int) <;> cases vS (jP s 0) <;> cases sIn dr s <;> cases yn s <;> rfl
theorem LP {s:ByteArray} (hN:s.size < 2 ^ 60) (H:AH):Ev aa C0 W0 104 [.str s] H=some (.bool (lJ s),H):=by
 rw [<-PK]
 obtain ⟨tm,ht,g0,g1⟩:=tm1 (.str s) 33 (by decide)
 rw [Yj,ht]
 rw [<-af (ro H)]
 unfold xZ yn
 have hlk:=Rb (H:=ro H++[.map ue 25]) (i:=(ro H).length) (l:=dr) (c:=25) (by rw [al (ax _),dR]; rfl) s
 cases hs:sEq s eS with
 | true=>simp (maxSteps:=4000000) -implicitDefEqProofs only [Ic,Tryz.f104,aP,g0,g1,show (⟨#[]⟩:ByteArray)=eS from rfl,hs,ln9,↓ao,an,eu,reduceCtorEq,reduceIte,aQ,aO,aZ,aK]
 | false =>
   have h0:((0:Int)<=0/\(0:Int) < (s.size:Int))=True:=eq_true (by have:=MV hs; omega)
   cases hl:ltB 16 (s.size:Int) with
   | true=>simp (maxSteps:=4000000) -implicitDefEqProofs only [Ic,Tryz.f104,aP,g0,g1,show (⟨#[]⟩:ByteArray)=eS from rfl,hs,ln9,hl,↓ao,an,eu,reduceCtorEq,reduceIte,aQ,aO,aZ,aK]
   | false =>
     cases hp:vS (jP s 0) with
     | false=>simp (maxSteps:=4000000) -implicitDefEqProofs only [Ic,Tryz.f104,aP,g0,g1,show (⟨#[]⟩:ByteArray)=eS from rfl,hs,ln9,hl,h0,hp,↓fL Az,↓FV,FX,↓ao,an,eu,reduceCtorEq,reduceIte,aQ,aO,aZ,aK]
     | true =>
       cases hw:sIn dr s with
       | true=>simp (maxSteps:=4000000) -implicitDefEqProofs only [Ic,Tryz.f104,aP,g0,g1,show (⟨#[]⟩:ByteArray)=eS from rfl,hs,ln9,hl,h0,hp,hw,↓fL Az,↓FV,FX,↓Sh,zq,hlk,↓ao,an,eu,reduceCtorEq,reduceIte,aQ,aO,aZ,aK]
       | false =>
         simp (maxSteps:=4000000) -implicitDefEqProofs only [Ic,Tryz.f104,aP,g0,g1,show (⟨#[]⟩:ByteArray)=eS from rfl,hs,ln9,hl,h0,hp,hw,↓fL Az,↓FV,FX,↓Sh,zq,hlk,↓ao,an,eu,reduceCtorEq,reduceIte,aQ,aO,aZ,aK]
         generalize hX:EvC aa C0 W0 _ (Code.loop _) _=Z
         obtain ⟨X,Y,K1,K2,he,xs,y0,y1⟩:=Hx (s:=s) hN (s.size) 0 _ _ _ hX (by omega) (by omega) (au.app _ _) (by simp only [ls,g0]) (by simp only [g0,g1,gB,sevalprocAttr]; try rfl) (by simp only [g0,ln9,gB,sevalprocAttr]; try rfl) (by simp only [g0,gB,sevalprocAttr]; try rfl)
         subst he
         simp (maxSteps:=4000000) +contextual -implicitDefEqProofs only [xs.1,y0,y1,↓ao,an,eu,reduceCtorEq,reduceIte,aQ,aO,aZ,aK]
         cases cd (fun j=>ym (jP s (j:Int))) s.size 0 <;> rfl
theorem ZQ (H:AH):bk aa none 164 25 [(0,AV.str { data:=#[102,117,110,99] }),(1,AV.str { data:=#[107,101,114,110,101,108] }),(2,AV.str { data:=#[98,117,102,102,101,114] }),(3,AV.str { data:=#[105,110,116] }),(4,AV.str { data:=#[115,104,97,114,101,100] }),(5,AV.str { data:=#[108,101,116] }),(6,AV.str { data:=#[105,102] }),(7,AV.str { data:=#[101,108,115,101] }),(8,AV.str { data:=#[119,104,105,108,101] }),(9,AV.str { data:=#[98,114,101,97,107] }),(10,AV.str { data:=#[99,111,110,116,105,110,117,101] }),(11,AV.str { data:=#[114,101,116,117,114,110] }),(12,AV.str { data:=#[98,97,114,114,105,101,114] }),(13,AV.str { data:=#[97,116,111,109,105,99] }),(14,AV.str { data:=#[99,111,108,108,101,99,116] }),(15,AV.str { data:=#[116,105,100] }),(16,AV.str { data:=#[98,105,100] }),(17,AV.str { data:=#[100,105,109] }),(18,AV.str { data:=#[103,114,105,100] }),(19,AV.str { data:=#[109,105,110] }),(20,AV.str { data:=#[109,97,120] }),(21,AV.str { data:=#[97,100,100] }),(22,AV.str { data:=#[97,110,100] }),(23,AV.str { data:=#[111,114] }),(24,AV.str { data:=#[120,111,114] })] H=some (.slice H.length 0 1 25 25 true,H++[.cells (dr.map .str) 9]):=by kernel_rfl
theorem Zb (H:AH):Ev aa C0 W0 121 [] H=some (.slice H.length 0 1 25 25 true,H++[.cells (dr.map .str) 9]):=by
 have g0:(([]:List AV)++ay (2 - ([]:List AV).length) uA).length=2:=by simp
 rw [Yc]
 generalize ([]:List AV)++ay (2 - ([]:List AV).length) uA=tm at *
 simp (maxSteps:=4000000) -implicitDefEqProofs only [Zz,Tryz.f121,aP,g0,ZQ,↓ao,an,eu,reduceCtorEq,reduceIte,aQ,aO,aZ,aK]
theorem UB (H:AH) (i j:Nat) (h:j < 25) (kk:IntKind):aD aa 164 (.slice i 0 1 25 25 true) (.int kk j)=some (.ptr i (0+j * 1)):=by
 rw [Se,if_pos (by refine ⟨by omega,by omega,rfl⟩)]; rfl
theorem GV (H:AH):SlS 164 1 (H++[.cells (dr.map .str) 9]) (.slice H.length 0 1 25 25 true) (dr.map fun w=>[AV.str w]) where
 len:=fun G=>by rw [Ra]; rfl
 ix:=fun j r hr=>by
   rw [aM] at hr
   obtain ⟨w,hw,rfl⟩:=ah.1 hr
   have hj:j < 25:=aJ hw
   refine ⟨H.length,0+j * 1,UB H _ j hj,?_⟩
   rw [gu]
   unfold ak
   simp only [iq]
   have hl:(dr.map AV.str).length=25:=rfl
   rw [if_pos (by rw [hl]; omega)]
   congr 1
   have hj':j < (dr.map AV.str).length:=by rw [hl]; exact hj
   rw [show 0+j * 1=j by omega,List.drop_eq_getElem_cons hj',List.take_succ_cons,List.take_zero,List.getElem_map]
   congr 2
   have hj2:j < dr.length:=hj
   rw [aj hj2] at hw
   exact aE hw
 old:=.inr ⟨_,_,_,_,rfl,by unfold okC; rw [al (ax _),dR]; rfl,by rw [rP,gu]; rfl⟩
theorem YO {s:ByteArray} (hN:s.size < 2 ^ 60) (H:AH):Ev aa C0 W0 96 [.str s] H=some (.bool (lJ s),H):=by
 obtain ⟨tm,ht,g0,g1⟩:=tm1 (.str s) 16 (by decide)
 rw [aa5,ht]
 rw [<-af (ro H)]
 unfold lJ
 have hin:=fun (L:AH)=>Zc (s:=s) (GV (ro H++L)) (by decide)
 have hw:=fun (L:AH)=>Zb (ro H++L)
 simp only [ai,aG] at hin hw
 have hin:=hin []
 simp only [List.length_nil,Nat.add_zero,List.nil_append] at hin
 cases hs:sP s with
 | false=>simp (maxSteps:=4000000) -implicitDefEqProofs only [c96,Tryz.f96,aP,g0,g1,hs,↓KW,LO hN,↓ao,an,eu,reduceCtorEq,reduceIte,aQ,aO,aZ,aK]
 | true =>
   cases hl:leB (s.size:Int) 16 with
   | false=>simp (maxSteps:=4000000) -implicitDefEqProofs only [c96,Tryz.f96,aP,g0,g1,hs,↓KW,LO hN,ln9,hl,↓ao,an,eu,reduceCtorEq,reduceIte,aQ,aO,aZ,aK]
   | true=>simp (maxSteps:=4000000) -implicitDefEqProofs only [c96,Tryz.f96,aP,g0,g1,hs,↓KW,LO hN,ln9,hl,↓YJ,hw,↓YK,hin,↓ao,an,eu,reduceCtorEq,reduceIte,aQ,aO,aZ,aK]
end Go.Dv
namespace Go.Dv
open Go.Proofs
attribute [local congr] aF bC aY bB bD
structure Prm where
 name:ByteArray
 buf:Bool
structure Arr where
 name:ByteArray
 size:Int
structure Ins where
 kind:Int
 op:Int
 d:Int
 a:Int
 b:Int
 imm:Int
 to:Int
 join:Int
structure Cod where
 name:ByteArray
 params:List Prm
 shared:List Arr
 loc:Int
 insns:List Ins
def ja (p:Prm):List AV:=[.str p.name,.bool p.buf]
def kg (a:Arr):List AV:=[.str a.name,I a.size]
def eK (x:Ins):List AV:=[I x.kind,I x.op,I x.d,I x.a,I x.b,.int .i32 x.imm,I x.to,I x.join]
def bI (c:Cod) (vp vs vi:AV):List AV:=[.str c.name,vp,vs,I c.loc,vi]
def e9 (n:Int):Prop:=-2147483648<=n/\n < 2147483648
structure eO (H:AH) (c:Cod) (vp vs vi:AV):Prop where
 p:SlS 62 2 H vp (c.params.map ja)
 s:SlS 63 2 H vs (c.shared.map kg)
 i:SlS 64 8 H vi (c.insns.map eK)
 np:c.params.length < 2 ^ 50
 ns:c.shared.length < 2 ^ 50
 ni:c.insns.length < 2 ^ 50
 nm:c.name.size < 2 ^ 60
 pn:∀ p∈c.params,p.name.size < 2 ^ 60
 sn:∀ a∈c.shared,a.name.size < 2 ^ 60
 im:∀ x∈c.insns,e9 x.imm
theorem eO.ro {H:AH} {c:Cod} {vp vs vi:AV} (h:eO H c vp vs vi):eO (ro H) c vp vs vi:={ h with p:=h.p.ro,s:=h.s.ro,i:=h.i.ro }
theorem eO.bg {H K:AH} {c:Cod} {vp vs vi:AV} (h:eO H c vp vs vi) (hA:au H K):eO K c vp vs vi:={ h with p:=h.p.same hA,s:=h.s.same hA,i:=h.i.same hA }
theorem eO.lp {H:AH} {c:Cod} {vp vs vi:AV} (h:eO H c vp vs vi) (G:AH):dQ aa 62 G vp=some (I c.params.length):=by have:=h.p.len G; rwa [ar] at this
theorem eO.ls {H:AH} {c:Cod} {vp vs vi:AV} (h:eO H c vp vs vi) (G:AH):dQ aa 63 G vs=some (I c.shared.length):=by have:=h.s.len G; rwa [ar] at this
theorem eO.li {H:AH} {c:Cod} {vp vs vi:AV} (h:eO H c vp vs vi) (G:AH):dQ aa 64 G vi=some (I c.insns.length):=by have:=h.i.len G; rwa [ar] at this
def rN (n:Int):Bool:=eqB n 0 || eqB n 6 || eqB n 7 || eqB n 18 || eqB n 19 || eqB n 5
theorem Su (b:Bool) (k:IntKind) (x x':Int) (y y':Bool) (H:AH):br b (some (AV.tuple [.int k x,.bool y],H)) (some (AV.tuple [.int k x',.bool y'],H))=some (.tuple [.int k (br b x x'),.bool (br b y y')],H):=by cases b <;> rfl
theorem Bg (H G:AH) (b:Bool) (k:IntKind) (n:Int):kF true H (.tuple [.int k n,.bool b],G)=some (.tuple [.int k n,.bool b],H):=rfl
def da (u:Bool) (n l:Int):Bool:=br u (leB 0 n && ltB n l) (eqB n 0)
theorem Y9 (n:Int) (H:AH):∃ v,Ev aa C0 W0 132 [I n] H=some (.tuple [.int .i32 v,.bool (rN n)],H):=by
 obtain ⟨tm,ht,g0,g1⟩:=tm1 (I n) 15 (by decide)
 rw [X7,ht]
 rw [<-af (ro H)]
 unfold rN
 simp (maxSteps:=4000000) +contextual -implicitDefEqProofs only [Zv,Tryz.f132,aP,g0,g1,Su,Bg,↓ao,an,eu,sevalprocAttr]
 refine ⟨_,congrArg (fun b=>some (AV.tuple [.int .i32 _,.bool b],H)) ?_⟩
 cases eqB n 0 <;> cases eqB n 6 <;> cases eqB n 7 <;> cases eqB n 18 <;> cases eqB n 19 <;> cases eqB n 5 <;> rfl
theorem Y7 (n:Int) (H:AH):∃ v,Ev aa C0 W0 151 [I n] H=some (.tuple [.int .i32 v,.bool (rN n)],H):=by
 obtain ⟨tm,ht,g0,g1⟩:=tm1 (I n) 15 (by decide)
 rw [XZ,ht]
 rw [<-af (ro H)]
 unfold rN
 simp (maxSteps:=4000000) +contextual -implicitDefEqProofs only [Zs,Tryz.f151,aP,g0,g1,Su,Bg,↓ao,an,eu,sevalprocAttr]
 refine ⟨_,congrArg (fun b=>some (AV.tuple [.int .i32 _,.bool b],H)) ?_⟩
 cases eqB n 0 <;> cases eqB n 6 <;> cases eqB n 7 <;> cases eqB n 18 <;> cases eqB n 19 <;> cases eqB n 5 <;> rfl
theorem nt (n:Int) (H:AH):Ev aa C0 W0 105 [I n] H=some (.bool (rN n),H):=by
 obtain ⟨v,hv⟩:=Y9 n (ro H++[])
 obtain ⟨tm,ht,g0,g1⟩:=tm1 (I n) 11 (by decide)
 rw [Yi,ht]
 rw [<-af (ro H)]
 simp (maxSteps:=4000000) +contextual -implicitDefEqProofs only [ZC,Tryz.f105,aP,g0,g1,↓YI,hv,Bg,↓ao,an,eu,sevalprocAttr]
theorem lO (n:Int) (H:AH):Ev aa C0 W0 122 [I n] H=some (.bool (rN n),H):=by
 obtain ⟨v,hv⟩:=Y7 n (ro H++[])
 obtain ⟨tm,ht,g0,g1⟩:=tm1 (I n) 11 (by decide)
 rw [Yb,ht]
 rw [<-af (ro H)]
 simp (maxSteps:=4000000) +contextual -implicitDefEqProofs only [Zy,Tryz.f122,aP,g0,g1,↓YG,hv,Bg,↓ao,an,eu,sevalprocAttr]
theorem nr (u:Bool) (n l:Int) (H:AH):Ev aa C0 W0 106 [.bool u,I n,I l] H=some (.bool (da u n l),H):=by
 obtain ⟨tm,ht,g0,g1,g2,g3⟩:=tm3 (.bool u) (I n) (I l) 18 (by decide)
 rw [Yh,ht]
 rw [<-af (ro H)]
 simp (maxSteps:=4000000) +contextual -implicitDefEqProofs only [ZB,Tryz.f106,aP,g0,g1,g2,g3,↓ao,an,eu,sevalprocAttr]
 unfold da
 refine congrArg (fun b=>some (AV.bool b,H)) ?_
 cases u <;>
 cases leB 0 n <;>
 cases ltB n l <;>
 cases eqB n 0 <;>
 rfl
theorem HV (u:Bool) (n:Int) (H:AH):Ev aa C0 W0 98 [I n,.bool u] H=some (.bool (da u n 16),H):=by
 obtain ⟨tm,ht,g0,g1,g2⟩:=tm2 (I n) (.bool u) 15 (by decide)
 rw [aa4,ht]
 rw [<-af (ro H)]
 simp (maxSteps:=4000000) +contextual -implicitDefEqProofs only [c98,Tryz.f98,aP,g0,g1,g2,↓ao,an,eu,sevalprocAttr]
 unfold da
 refine congrArg (fun b=>some (AV.bool b,H)) ?_
 cases u <;>
 cases leB 0 n <;>
 cases ltB n 16 <;>
 cases eqB n 0 <;>
 rfl
def kD (k:Int):Bool:=eqB k 0 || eqB k 4 || eqB k 5 || eqB k 11 || eqB k 1 || eqB k 2 || eqB k 6 || eqB k 10 || eqB k 3
def kA (k:Int):Bool:=eqB k 1 || eqB k 2 || eqB k 6 || eqB k 10 || eqB k 3 || eqB k 7 || eqB k 8 || eqB k 12 || eqB k 14
def kB (k:Int):Bool:=eqB k 3 || eqB k 7 || eqB k 8
theorem Bl {k:Int} (h0:0<=k) (h1:k < 16) {p:Int->Prop} (a0:p 0) (a1:p 1) (a2:p 2) (a3:p 3) (a4:p 4) (a5:p 5) (a6:p 6) (a7:p 7) (a8:p 8) (a9:p 9) (a10:p 10) (a11:p 11) (a12:p 12) (a13:p 13) (a14:p 14) (a15:p 15):p k:=by
 have:k=0∨k=1∨k=2∨k=3∨k=4∨k=5∨k=6∨k=7∨k=8∨k=9∨k=10∨k=11∨k=12∨k=13∨k=14∨k=15:=by omega
 rcases this with h | h | h | h | h | h | h | h | h | h | h | h | h | h | h | h <;> rw [h] <;> assumption
theorem acs {k:Int} (h0:0<=k) (h1:k < 16) (H:AH):Ev aa C0 W0 97 [I k] H=some (.tuple [.bool (kD k),.bool (kA k),.bool (kB k)],H):=by
 refine Bl (p:=fun k=>Ev aa C0 W0 97 [I k] H=some (.tuple [.bool (kD k),.bool (kA k),.bool (kB k)],H)) h0 h1 ?_ ?_ ?_ ?_ ?_ ?_ ?_ ?_ ?_ ?_ ?_ ?_ ?_ ?_ ?_ ?_
 · obtain ⟨tm,ht,g0,g1⟩:=tm1 (I 0) 24 (by decide)
   rw [rr,ht]
   rw [<-af (ro H)]
   simp (maxSteps:=4000000) -implicitDefEqProofs only [c97,Tryz.f97,aP,g0,g1,eqQ,↓ao,an,eu,sevalprocAttr]
   rfl
 · obtain ⟨tm,ht,g0,g1⟩:=tm1 (I 1) 24 (by decide)
   rw [rr,ht]
   rw [<-af (ro H)]
   simp (maxSteps:=4000000) -implicitDefEqProofs only [c97,Tryz.f97,aP,g0,g1,eqQ,↓ao,an,eu,sevalprocAttr]
   rfl
 · obtain ⟨tm,ht,g0,g1⟩:=tm1 (I 2) 24 (by decide)
   rw [rr,ht]
   rw [<-af (ro H)]
   simp (maxSteps:=4000000) -implicitDefEqProofs only [c97,Tryz.f97,aP,g0,g1,eqQ,↓ao,an,eu,sevalprocAttr]
   rfl
 · obtain ⟨tm,ht,g0,g1⟩:=tm1 (I 3) 24 (by decide)
   rw [rr,ht]
   rw [<-af (ro H)]
   simp (maxSteps:=4000000) -implicitDefEqProofs only [c97,Tryz.f97,aP,g0,g1,eqQ,↓ao,an,eu,sevalprocAttr]
   rfl
 · obtain ⟨tm,ht,g0,g1⟩:=tm1 (I 4) 24 (by decide)
   rw [rr,ht]
   rw [<-af (ro H)]
   simp (maxSteps:=4000000) -implicitDefEqProofs only [c97,Tryz.f97,aP,g0,g1,eqQ,↓ao,an,eu,sevalprocAttr]
   rfl
 · obtain ⟨tm,ht,g0,g1⟩:=tm1 (I 5) 24 (by decide)
   rw [rr,ht]
   rw [<-af (ro H)]
   simp (maxSteps:=4000000) -implicitDefEqProofs only [c97,Tryz.f97,aP,g0,g1,eqQ,↓ao,an,eu,sevalprocAttr]
   rfl
 · obtain ⟨tm,ht,g0,g1⟩:=tm1 (I 6) 24 (by decide)
   rw [rr,ht]
   rw [<-af (ro H)]
   simp (maxSteps:=4000000) -implicitDefEqProofs only [c97,Tryz.f97,aP,g0,g1,eqQ,↓ao,an,eu,sevalprocAttr]
   rfl
 · obtain ⟨tm,ht,g0,g1⟩:=tm1 (I 7) 24 (by decide)
   rw [rr,ht]
   rw [<-af (ro H)]
   simp (maxSteps:=4000000) -implicitDefEqProofs only [c97,Tryz.f97,aP,g0,g1,eqQ,↓ao,an,eu,sevalprocAttr]
   rfl
 · obtain ⟨tm,ht,g0,g1⟩:=tm1 (I 8) 24 (by decide)
   rw [rr,ht]
   rw [<-af (ro H)]
   simp (maxSteps:=4000000) -implicitDefEqProofs only [c97,Tryz.f97,aP,g0,g1,eqQ,↓ao,an,eu,sevalprocAttr]
   rfl
 · obtain ⟨tm,ht,g0,g1⟩:=tm1 (I 9) 24 (by decide)
   rw [rr,ht]
   rw [<-af (ro H)]
   simp (maxSteps:=4000000) -implicitDefEqProofs only [c97,Tryz.f97,aP,g0,g1,eqQ,↓ao,an,eu,sevalprocAttr]
   rfl
 · obtain ⟨tm,ht,g0,g1⟩:=tm1 (I 10) 24 (by decide)
   rw [rr,ht]
   rw [<-af (ro H)]
   simp (maxSteps:=4000000) -implicitDefEqProofs only [c97,Tryz.f97,aP,g0,g1,eqQ,↓ao,an,eu,sevalprocAttr]
   rfl
 · obtain ⟨tm,ht,g0,g1⟩:=tm1 (I 11) 24 (by decide)
   rw [rr,ht]
   rw [<-af (ro H)]
   simp (maxSteps:=4000000) -implicitDefEqProofs only [c97,Tryz.f97,aP,g0,g1,eqQ,↓ao,an,eu,sevalprocAttr]
   rfl
 · obtain ⟨tm,ht,g0,g1⟩:=tm1 (I 12) 24 (by decide)
   rw [rr,ht]
   rw [<-af (ro H)]
   simp (maxSteps:=4000000) -implicitDefEqProofs only [c97,Tryz.f97,aP,g0,g1,eqQ,↓ao,an,eu,sevalprocAttr]
   rfl
 · obtain ⟨tm,ht,g0,g1⟩:=tm1 (I 13) 24 (by decide)
   rw [rr,ht]
   rw [<-af (ro H)]
   simp (maxSteps:=4000000) -implicitDefEqProofs only [c97,Tryz.f97,aP,g0,g1,eqQ,↓ao,an,eu,sevalprocAttr]
   rfl
 · obtain ⟨tm,ht,g0,g1⟩:=tm1 (I 14) 24 (by decide)
   rw [rr,ht]
   rw [<-af (ro H)]
   simp (maxSteps:=4000000) -implicitDefEqProofs only [c97,Tryz.f97,aP,g0,g1,eqQ,↓ao,an,eu,sevalprocAttr]
   rfl
 · obtain ⟨tm,ht,g0,g1⟩:=tm1 (I 15) 24 (by decide)
   rw [rr,ht]
   rw [<-af (ro H)]
   simp (maxSteps:=4000000) -implicitDefEqProofs only [c97,Tryz.f97,aP,g0,g1,eqQ,↓ao,an,eu,sevalprocAttr]
   rfl
end Go.Dv
namespace Go.Dv
theorem r5:(type_of% @bI.eq_1)/\(type_of% @eK.eq_1)/\(type_of% @ja.eq_1)/\(type_of% @kg.eq_1)/\(type_of% @AU.eq_1):=⟨@bI.eq_1,@eK.eq_1,@ja.eq_1,@kg.eq_1,@AU.eq_1⟩
end Go.Dv
namespace Go.Dv
open Go.Proofs
attribute [local congr] aF bC aY bB bD
def iK (c:Cod) (n:Int):Bool:=match c.params[n.toNat]? with
 | some p=>p.buf
 | none=>false
def Ni (c:Cod) (n:Int):Bool:=br (leB 6 n) (ltB n (6+c.shared.length)) (leB 0 n && ltB n c.params.length && iK c n)
def Wz (c:Cod) (n:Int):Bool:=leB 0 n && ltB n c.params.length && !iK c n
theorem qZ {n:Int} (h:-9223372036854775808<=n/\n < 9223372036854775808):IntKind.i64.wrap n=n:=IntWalk.i64_in _ (by omega)
theorem xF {H K:AH} {c:Cod} {vp vs vi:AV} (h:eO H c vp vs vi) (hA:au H K) {j:Nat} (hj:j < c.params.length):∃ i k,(∀ kk,aD aa 62 vp (.int kk (j:Int))=some (.ptr i k))/\(∀ L,ak (K++L) i k 1=some [.str (c.params[j]'hj).name])/\(∀ L,ak (K++L) i (k+1) 1=some [.bool (c.params[j]'hj).buf])/\(∀ L,ak (K++L) i k 2=some (ja (c.params[j]'hj)))/\iK c (j:Int)=(c.params[j]'hj).buf:=by
 obtain ⟨i,k,hi,hr⟩:=h.p.ix j (ja (c.params[j]'hj)) (by rw [aM,aj hj]; rfl)
 refine ⟨i,k,hi,fun L=>zA hr hA L rfl,fun L=>Fi hr hA L 1 rfl,fun L=>iZ hr hA L,?_⟩
 unfold iK
 rw [Int.toNat_natCast,aj hj]
theorem Y8 {H:AH} {c:Cod} {vp vs vi:AV} (h:eO H c vp vs vi) {n:Int} (hn:e9 n):Ev aa C0 W0 133 [.agg (bI c vp vs vi),.int .i32 n] H=some (.bool (Ni c n),H):=by
 obtain ⟨tm,ht,g0,g1,g2⟩:=tm2 (.agg (bI c vp vs vi)) (.int .i32 n) 32 (by decide)
 rw [X5,ht]
 rw [<-af (ro H)]
 unfold Ni
 obtain ⟨n0,n1⟩:=hn
 have hlp:=h.ro.lp
 have hls:=h.ro.ls
 have hsb:=h.ns
 have hpb:=h.np
 have hwn:IntKind.i64.wrap n=n:=qZ (by omega)
 cases h6:leB 6 n with
 | true =>
   have hw6:IntKind.i64.wrap (6+(c.shared.length:Int))=6+(c.shared.length:Int):=qZ (by omega)
   simp (maxSteps:=4000000) -implicitDefEqProofs only [M4,Tryz.f133,aP,g0,g1,g2,hlp,hls,r5,↓az,h6,hwn,hw6,↓ao,an,eu,sevalprocAttr]
 | false =>
   cases h0:leB 0 n with
   | false=>simp (maxSteps:=4000000) -implicitDefEqProofs only [M4,Tryz.f133,aP,g0,g1,g2,hlp,hls,r5,↓az,h6,h0,hwn,↓ao,an,eu,sevalprocAttr]
   | true =>
     cases hl:ltB n c.params.length with
     | false=>simp (maxSteps:=4000000) -implicitDefEqProofs only [M4,Tryz.f133,aP,g0,g1,g2,hlp,hls,r5,↓az,h6,h0,hl,hwn,↓ao,an,eu,sevalprocAttr]
     | true =>
       rw [dn] at h0
       obtain ⟨j,rfl⟩:∃ j:Nat,n=j:=⟨n.toNat,by omega⟩
       have hj:j < c.params.length:=by have:=(dm _ _).1 hl; omega
       obtain ⟨i,k,hi,hr0,hr1,hr2,hb⟩:=xF h.ro (au.refl _) hj
       have h0':leB 0 (j:Int)=true:=zN (by omega)
       simp (maxSteps:=4000000) -implicitDefEqProofs only [M4,Tryz.f133,aP,g0,g1,g2,hlp,hls,r5,↓az,h6,h0',hl,hwn,hi,hr1,hb,↓ao,an,eu,sevalprocAttr]
theorem Za {H:AH} {c:Cod} {vp vs vi:AV} (h:eO H c vp vs vi) {n:Int} (hn:e9 n):Ev aa C0 W0 123 [.agg (bI c vp vs vi),.int .i32 n] H=some (.bool (Ni c n),H):=by
 obtain ⟨tm,ht,g0,g1,g2⟩:=tm2 (.agg (bI c vp vs vi)) (.int .i32 n) 32 (by decide)
 rw [Ya,ht]
 rw [<-af (ro H)]
 unfold Ni
 obtain ⟨n0,n1⟩:=hn
 have hlp:=h.ro.lp
 have hls:=h.ro.ls
 have hsb:=h.ns
 have hpb:=h.np
 have hwn:IntKind.i64.wrap n=n:=qZ (by omega)
 cases h6:leB 6 n with
 | true =>
   have hw6:IntKind.i64.wrap (n - 6)=n - 6:=qZ (by omega)
   have he:ltB (n - 6) (c.shared.length:Int)=ltB n (6+(c.shared.length:Int)):=by rw [fM,dm,dm]; omega
   simp (maxSteps:=4000000) -implicitDefEqProofs only [M5,Tryz.f123,aP,g0,g1,g2,hlp,hls,r5,↓az,h6,hwn,hw6,he,↓ao,an,eu,sevalprocAttr]
 | false =>
   cases h0:leB 0 n with
   | false=>simp (maxSteps:=4000000) -implicitDefEqProofs only [M5,Tryz.f123,aP,g0,g1,g2,hlp,hls,r5,↓az,h6,h0,hwn,↓ao,an,eu,sevalprocAttr]
   | true =>
     cases hl:ltB n c.params.length with
     | false=>simp (maxSteps:=4000000) -implicitDefEqProofs only [M5,Tryz.f123,aP,g0,g1,g2,hlp,hls,r5,↓az,h6,h0,hl,hwn,↓ao,an,eu,sevalprocAttr]
     | true =>
       rw [dn] at h0
       obtain ⟨j,rfl⟩:∃ j:Nat,n=j:=⟨n.toNat,by omega⟩
       have hj:j < c.params.length:=by have:=(dm _ _).1 hl; omega
       obtain ⟨i,k,hi,hr0,hr1,hr2,hb⟩:=xF h.ro (au.refl _) hj
       have h0':leB 0 (j:Int)=true:=zN (by omega)
       simp (maxSteps:=4000000) -implicitDefEqProofs only [M5,Tryz.f123,aP,g0,g1,g2,hlp,hls,r5,↓az,h6,h0',hl,hwn,hi,hr1,hb,↓ao,an,eu,sevalprocAttr]
theorem st3 (H:AH) (i k:Nat) (x:AV):stA aa 3 H i k x=if x.cells.length=1 then bh H i k x.cells else none:=by kernel_rfl
theorem st4 (H:AH) (i k:Nat) (x:AV):stA aa 4 H i k x=if x.cells.length=1 then bh H i k x.cells else none:=by kernel_rfl
theorem fJ (H:AH) (i k:Nat) (x:AV):stA aa 21 H i k x=if x.cells.length=1 then bh H i k x.cells else none:=by kernel_rfl
theorem aav (H:AH) (i k:Nat) (x:AV):stA aa 25 H i k x=if x.cells.length=1 then bh H i k x.cells else none:=by kernel_rfl
theorem Ws (H:AH) (i k:Nat) (x:AV):stA aa 30 H i k x=if x.cells.length=1 then bh H i k x.cells else none:=by kernel_rfl
theorem aas (H:AH) (i k:Nat) (x:AV):stA aa 31 H i k x=if x.cells.length=1 then bh H i k x.cells else none:=by kernel_rfl
theorem fN (H:AH) (i k:Nat) (x:AV):stA aa 32 H i k x=if x.cells.length=1 then bh H i k x.cells else none:=by kernel_rfl
theorem aaq (H:AH) (i k:Nat) (x:AV):stA aa 62 H i k x=if x.cells.length=1 then bh H i k x.cells else none:=by kernel_rfl
theorem aap (H:AH) (i k:Nat) (x:AV):stA aa 63 H i k x=if x.cells.length=1 then bh H i k x.cells else none:=by kernel_rfl
theorem aao (H:AH) (i k:Nat) (x:AV):stA aa 64 H i k x=if x.cells.length=1 then bh H i k x.cells else none:=by kernel_rfl
theorem aau (H:AH) (i k:Nat) (x:AV):stA aa 27 H i k x=if x.cells.length=7 then bh H i k x.cells else none:=by kernel_rfl
theorem aat (H:AH) (i k:Nat) (x:AV):stA aa 29 H i k x=if x.cells.length=10 then bh H i k x.cells else none:=by kernel_rfl
theorem ed (H:AH) (i k:Nat) (x:AV):stA aa 34 H i k x=if x.cells.length=9 then bh H i k x.cells else none:=by kernel_rfl
theorem Tl (H:AH) (i k:Nat) (x:AV):stA aa 66 H i k x=if x.cells.length=5 then bh H i k x.cells else none:=by kernel_rfl
theorem vQ (H:AH) (i k:Nat) (x:AV):stA aa 74 H i k x=if x.cells.length=2 then bh H i k x.cells else none:=by kernel_rfl
theorem IQ (H:AH) (i k:Nat) (x:AV):stA aa 77 H i k x=if x.cells.length=2 then bh H i k x.cells else none:=by kernel_rfl
theorem Wr (H:AH) (i k:Nat) (x:AV):stA aa 80 H i k x=if x.cells.length=8 then bh H i k x.cells else none:=by kernel_rfl
theorem mW (H:AH) (i k:Nat) (x:AV):stA aa 152 H i k x=if x.cells.length=12 then bh H i k x.cells else none:=by kernel_rfl
theorem Wt (H:AH) (i k:Nat) (x:AV):stA aa 153 H i k x=if x.cells.length=192 then bh H i k x.cells else none:=by kernel_rfl
theorem z30:dP aa 30=some (.nilSlice):=by kernel_rfl
theorem z80:dP aa 80=some (.agg [I 0,I 0,I 0,I 0,I 0,.int .i32 0,I 0,I 0]):=by kernel_rfl
theorem z74:dP aa 74=some (.agg [.str eS,.bool false]):=by kernel_rfl
theorem z77:dP aa 77=some (.agg [.str eS,I 0]):=by kernel_rfl
theorem z66:dP aa 66=some (.agg [.str eS,.nilSlice,.nilSlice,I 0,.nilSlice]):=by kernel_rfl
theorem sE:dP aa 152=some (.agg [.bool false,.bool false,.bool false,.bool false,.bool false,.bool false,.bool false,.bool false,.bool false,.bool false,.bool false,I 0]):=by kernel_rfl
def Iy:List AV:=(ay 16 [AV.bool false,AV.bool false,AV.bool false,AV.bool false,AV.bool false,AV.bool false,AV.bool false,AV.bool false,AV.bool false,AV.bool false,AV.bool false,I 0]).flatten
theorem GU:dP aa 153=some (.agg Iy):=by kernel_rfl
theorem SlS.one {T es:Nat} {H:AH} {v:AV} {rows:List (List AV)} (h:SlS T es H v rows):v.one=true:=by
 rcases h.old with ⟨e,_⟩ | ⟨i,k,c,x,e,h',_⟩ <;> rw [e] <;> rfl
theorem SlS.cells {T es:Nat} {H:AH} {v:AV} {rows:List (List AV)} (h:SlS T es H v rows):v.cells=[v]:=by
 rcases h.old with ⟨e,_⟩ | ⟨i,k,c,x,e,h',_⟩ <;> rw [e] <;> rfl
theorem nN:∀ (vs cs:List AV),vs.length=cs.length->spl cs 0 vs=vs
 | [],[],_=>rfl
 | [],_::_,h=>by simp at h
 | _::_,[],h=>by simp at h
 | v::vs,c::cs,h=>by
   have key:∀ (vs cs:List AV) (c:AV) (k:Nat),spl (c::cs) (k+1) vs=c::spl cs k vs:=by
     intro vs
     induction vs with
     | nil=>intro cs c k; rfl
     | cons v vs ih=>intro cs c k; simp only [spl,List.set_cons_succ]; rw [ih]
   simp only [spl,kz]
   rw [key,nN vs cs (by simpa using h)]
theorem NQ (H L:AH) (cs vs:List AV) (e:TypeId) (hl:vs.length=cs.length) (ho:vs.all AV.one=true):bh (H++.cells cs e::L) H.length 0 vs=some (H++.cells vs e::L):=by
 unfold bh
 rw [al (ax _),dR,iq]
 simp only
 rw [if_pos ⟨by omega,ho⟩,List.set_append_right _ _ (ax _),dR,kz,nN vs cs hl]
theorem m9 (i k:Nat) (kk:IntKind) (n:Int):aD aa 153 (.ptr i k) (.int kk n)=if 0<=n/\n < 16 then some (.ptr i (k+n.toNat * 12)) else none:=by kernel_rfl
def Ci (k:Int):Bool:=eqB k 8 || eqB k 10
def AX (k:Int):Int:=if k=2 then 3 else if k=3 then 20 else if k=4 then 4 else 0
def kTo (k:Int):Bool:=eqB k 13 || eqB k 14
def Ch (k:Int):Bool:=eqB k 14
def vD (k:Int):Bool:=eqB k 0
def Ck (k:Int):Bool:=eqB k 6 || eqB k 7 || eqB k 8
def Cf (k:Int):Bool:=eqB k 5
def Cj (k:Int):Bool:=eqB k 9 || eqB k 10
def Cg (k:Int):Bool:=eqB k 11 || eqB k 12
def Tp (k:Int):List AV:=[.bool (kD k),.bool (kA k),.bool (kB k),.bool (Ck k),.bool (Ci k),.bool (Cj k),.bool (Cg k),.bool (Cf k),.bool (vD k),.bool (kTo k),.bool (Ch k),I (AX k)]
theorem aaN:∀ k:Fin 16,(gG.drop (k.val * 12)).take 12=Tp (k.val:Int):=by
 intro ⟨k,hk⟩
 have:k=0∨k=1∨k=2∨k=3∨k=4∨k=5∨k=6∨k=7∨k=8∨k=9∨k=10∨k=11∨k=12∨k=13∨k=14∨k=15:=by omega
 rcases this with h | h | h | h | h | h | h | h | h | h | h | h | h | h | h | h <;> subst h <;> rfl
theorem KK (H L:AH) (A B:bl) {j:Nat} (hj:j < 16):ak (H++A::B::.cells gG 153::L) (H.length+2) (0+j * 12) 12=some (Tp (j:Int)):=by
 rw [jN]
 unfold ak
 simp only [List.getElem?_cons_succ,iq]
 have hl:gG.length=192:=rfl
 rw [if_pos (by rw [hl]; omega),Nat.zero_add,aaN ⟨j,hj⟩]
def A0 (c:Cod) (word array param barrier loc:Bool) (n:Int):Bool:=br word true (br array (Ni c n) (br param (Wz c n) (br barrier (leB 0 n && leB n 400) (br loc (leB 0 n && ltB n c.loc) (eqB n 0)))))
def tw (c:Cod) (x:Ins):Bool:=leB 0 x.kind && ltB x.kind 16 && br (Ci x.kind) (rN x.op) (da (ltB 0 (AX x.kind)) x.op (AX x.kind)) && da (kD x.kind) x.d 16 && da (kA x.kind) x.a 16 && da (kB x.kind) x.b 16 &&
 A0 c (vD x.kind) (Ck x.kind) (Cf x.kind) (Cj x.kind) (Cg x.kind) x.imm && da (kTo x.kind) x.to c.insns.length && da (Ch x.kind) x.join (c.insns.length+1)
theorem e8 (i k:Nat):aN aa 152 (.ptr i k) 0=some (.ptr i k):=by kernel_rfl
theorem e7 (i k:Nat):aN aa 152 (.ptr i k) 1=some (.ptr i (k+1)):=by kernel_rfl
theorem eZ (i k:Nat):aN aa 152 (.ptr i k) 2=some (.ptr i (k+2)):=by kernel_rfl
theorem eY (i k:Nat):aN aa 152 (.ptr i k) 3=some (.ptr i (k+3)):=by kernel_rfl
theorem eX (i k:Nat):aN aa 152 (.ptr i k) 4=some (.ptr i (k+4)):=by kernel_rfl
theorem eW (i k:Nat):aN aa 152 (.ptr i k) 5=some (.ptr i (k+5)):=by kernel_rfl
theorem eV (i k:Nat):aN aa 152 (.ptr i k) 6=some (.ptr i (k+6)):=by kernel_rfl
theorem eU (i k:Nat):aN aa 152 (.ptr i k) 7=some (.ptr i (k+7)):=by kernel_rfl
theorem eT (i k:Nat):aN aa 152 (.ptr i k) 8=some (.ptr i (k+8)):=by kernel_rfl
theorem eR (i k:Nat):aN aa 152 (.ptr i k) 9=some (.ptr i (k+9)):=by kernel_rfl
theorem dX (i k:Nat):aN aa 152 (.ptr i k) 10=some (.ptr i (k+10)):=by kernel_rfl
theorem dW (i k:Nat):aN aa 152 (.ptr i k) 11=some (.ptr i (k+11)):=by kernel_rfl
theorem Ze {H:AH} {c:Cod} {vp vs vi:AV} (h:eO H c vp vs vi) (fd fa fb far ff fbr fl fp fw ft fj:Bool) (fo:Int) {n:Int} (hn:e9 n):Ev aa C0 W0 107 [.agg (bI c vp vs vi),.agg [.bool fd,.bool fa,.bool fb,.bool far,.bool ff,.bool fbr,.bool fl,.bool fp,.bool fw,.bool ft,.bool fj,I fo],.int .i32 n] H=some (.bool (A0 c fw far fp fbr fl n),H):=by
 obtain ⟨tm,ht,g0,g1,g2,g3⟩:=tm3 (.agg (bI c vp vs vi)) (.agg [.bool fd,.bool fa,.bool fb,.bool far,.bool ff,.bool fbr,.bool fl,.bool fp,.bool fw,.bool ft,.bool fj,I fo]) (.int .i32 n) 61 (by decide)
 rw [Yg,ht]
 rw [<-af (ro H)]
 unfold A0
 have hn':=hn
 obtain ⟨n0,n1⟩:=hn
 have hlp:=h.ro.lp
 have hls:=h.ro.ls
 have hpb:=h.np
 have hwn:IntKind.i64.wrap n=n:=qZ (by omega)
 cases fw with
 | true=>simp (maxSteps:=4000000) -implicitDefEqProofs only [Bo,Tryz.f107,aP,g0,g1,g2,g3,hlp,hls,hwn,r5,↓az,e8,e7,eZ,eY,eX,eW,eV,eU,eT,eR,dX,dW,↓ao,an,eu,sevalprocAttr]
 | false =>
   cases far with
   | true =>
     have h133:=fun L=>Y8 (h.ro.bg (au.app _ L)) hn'
     simp only [bI] at h133
     simp (maxSteps:=4000000) -implicitDefEqProofs only [Bo,Tryz.f107,aP,g0,g1,g2,g3,hlp,hls,hwn,r5,↓az,e8,e7,eZ,eY,eX,eW,eV,eU,eT,eR,dX,dW,↓YH,h133,↓ao,an,eu,sevalprocAttr]
   | false =>
     cases fp with
     | true =>
       unfold Wz
       cases h0:leB 0 n with
       | false=>simp (maxSteps:=4000000) -implicitDefEqProofs only [Bo,Tryz.f107,aP,g0,g1,g2,g3,hlp,hls,hwn,r5,↓az,e8,e7,eZ,eY,eX,eW,eV,eU,eT,eR,dX,dW,h0,↓ao,an,eu,sevalprocAttr]
       | true =>
         cases hl:ltB n c.params.length with
         | false=>simp (maxSteps:=4000000) -implicitDefEqProofs only [Bo,Tryz.f107,aP,g0,g1,g2,g3,hlp,hls,hwn,r5,↓az,e8,e7,eZ,eY,eX,eW,eV,eU,eT,eR,dX,dW,h0,hl,↓ao,an,eu,sevalprocAttr]
         | true =>
           rw [dn] at h0
           obtain ⟨j,rfl⟩:∃ j:Nat,n=j:=⟨n.toNat,by omega⟩
           have hj:j < c.params.length:=by have:=(dm _ _).1 hl; omega
           obtain ⟨i,k,hi,hr0,hr1,hr2,hb⟩:=xF h.ro (au.refl _) hj
           have h0':leB 0 (j:Int)=true:=zN (by omega)
           simp (maxSteps:=4000000) -implicitDefEqProofs only [Bo,Tryz.f107,aP,g0,g1,g2,g3,hlp,hls,hwn,r5,↓az,e8,e7,eZ,eY,eX,eW,eV,eU,eT,eR,dX,dW,h0',hl,hi,hr1,hb,↓ao,an,eu,sevalprocAttr]
     | false =>
       cases fbr with
       | true=>cases h0:leB 0 n <;> simp (maxSteps:=4000000) -implicitDefEqProofs only [Bo,Tryz.f107,aP,g0,g1,g2,g3,hlp,hls,hwn,r5,↓az,e8,e7,eZ,eY,eX,eW,eV,eU,eT,eR,dX,dW,h0,↓ao,an,eu,sevalprocAttr]
       | false =>
         cases fl with
         | true=>cases h0:leB 0 n <;> simp (maxSteps:=4000000) -implicitDefEqProofs only [Bo,Tryz.f107,aP,g0,g1,g2,g3,hlp,hls,hwn,r5,↓az,e8,e7,eZ,eY,eX,eW,eV,eU,eT,eR,dX,dW,h0,↓ao,an,eu,sevalprocAttr]
         | false=>simp (maxSteps:=4000000) -implicitDefEqProofs only [Bo,Tryz.f107,aP,g0,g1,g2,g3,hlp,hls,hwn,r5,↓az,e8,e7,eZ,eY,eX,eW,eV,eU,eT,eR,dX,dW,↓ao,an,eu,sevalprocAttr]
end Go.Dv
