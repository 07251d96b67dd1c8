/- Part 22 of the walks (own work). -/
import Derived.Test.YtilpjnckfkjkbaaGreatDoorS21
import Derived.Test.YtilpjnckfkjkbaaGreatDoorS14
open Bool renaming and_eq_true→aD,eq_iff_iff→fA,false_and→bd,not_eq_false'→iB,not_eq_true→oT,not_eq_true'→ba,or_eq_false_iff→qV,or_eq_true→gM,true_and→aZ
open Int renaming le_refl→Tv,natCast_nonneg→uO
open List renaming append_nil→af,getElem?_append_right→aw,getElem?_eq_getElem→aj,getElem?_take_of_lt→nY,length_append→ai,length_set→ar,mem_iff_getElem?→pY,mem_map→bY,take_of_length_le→bt
open Nat renaming add_sub_cancel_left→bE,le_add_right→cm,le_refl→ax,lt_trans→dB,reduceLT→aM,sub_self→dI
open Option.some renaming inj→aC
open Go.Proofs.Tryz renaming prog→aa
set_option maxRecDepth 100000
set_option maxHeartbeats 4000000
set_option linter.unusedSimpArgs false
set_option linter.unusedVariables false
namespace Go.Dv
open Go.Proofs
attribute [local congr] aH bP bj bO bQ
theorem M9 (l:List ByteArray) (s:ByteArray):sIn l s=true↔s∈l:=by
 unfold sIn
 induction l with
 | nil=>simp
 | cons x l ih =>
   rw [List.contains_cons,gM,ih,List.mem_cons]
   rw [zQ,qg]
theorem zb {l:List ByteArray} {i:Nat} (hi:i < l.length):xH l i=!sIn (l.take i) (fQ l i):=by
 rw [fA]
 unfold xH
 rw [dy,ba,<-oT,M9]
 have hn:∀ k,k < l.length->l[k]? =some (fQ l k):=fun k hk=>by
   unfold fQ
   rw [gde,aj hk]; rfl
 constructor
 · intro h hm
   obtain ⟨k,hk⟩:=pY.1 hm
   have hki:k < i:=by
     have:=aJ hk
     rw [List.length_take] at this; omega
   rw [nY hki,hn k (by omega)] at hk
   have:=h k hki
   rw [ba,aC hk] at this
   have e:sEq (fQ l i) (fQ l i)=true:=by rw [qg]
   rw [e] at this; cases this
 · intro h k hk
   rw [ba,<-oT,qg]
   intro e
   refine h (pY.2 ⟨k,?_⟩)
   rw [nY hk,hn k (by omega),e]
theorem OB {p s:List ByteArray} {j:Nat} (h:j < p.length):fQ (p++s) j=fQ p j:=by
 unfold fQ
 rw [gde,gde,List.getElem?_append_left h]
theorem OA {p s:List ByteArray} (j:Nat):fQ (p++s) (p.length+j)=fQ s j:=by
 unfold fQ
 rw [gde,gde,aw (cm _ _),bE]
def o5 (c:Cod):List ByteArray:=pNs c++sNs c
def szP (c:Cod) (j:Nat):Bool:=!ltB (jO c j) 1 && !ltB 64 (jO c j)
theorem Jf (c:Cod):(bA (fun j=>szP c j) c.shared.length 0 && bA (fun j=>pA (o5 c) j) (o5 c).length 0)=(bA (fun j=>vA c j) c.params.length 0 && bA (fun j=>vw c j) c.shared.length 0):=by
 have hlen:(o5 c).length=c.params.length+c.shared.length:=by unfold o5; rw [ai,kJ,sy]
 have hpar:∀ j,j < c.params.length->pA (o5 c) j=vA c j:=fun j hj=>by
   unfold pA vA
   rw [zb (by omega)]
   unfold o5
   rw [OB (by rw [kJ]; exact hj),List.take_append_of_le_length (by rw [kJ]; omega)]
 have hshr:∀ j,j < c.shared.length->(szP c j && pA (o5 c) (c.params.length+j))=vw c j:=fun j hj=>by
   unfold pA vw szP
   rw [zb (by omega)]
   unfold o5
   have e:=kJ c
   rw [<-e,OA j,List.take_append,bt (cm _ _),bE]
   cases lA (fQ (sNs c) j) <;> cases sIn (pNs c++List.take j (sNs c)) (fQ (sNs c) j) <;> cases ltB (jO c j) 1 <;> cases ltB 64 (jO c j) <;> rfl
 rw [fA,aD,aD,dy,dy,dy,dy,hlen]
 constructor
 · intro ⟨h1,h2⟩
   refine ⟨fun j hj=>?_,fun j hj=>?_⟩
   · rw [<-hpar j hj]; exact h2 j (by omega)
   · rw [<-hshr j hj,h1 j hj,h2 _ (by omega)]; rfl
 · intro ⟨h1,h2⟩
   have hs:∀ j,j < c.shared.length->szP c j=true/\pA (o5 c) (c.params.length+j)=true:=fun j hj=>by
     have:=h2 j hj
     rw [<-hshr j hj,aD] at this; exact this
   refine ⟨fun j hj=>(hs j hj).1,fun j hj=>?_⟩
   rcases Nat.lt_or_ge j c.params.length with c1 | c1
   · rw [hpar j c1]; exact h1 j c1
   · have:=(hs (j - c.params.length) (by omega)).2
     rwa [Nat.add_sub_cancel' c1] at this
def BH (c:Cod):Bool:=lA c.name && !ltB 6 (c.params.length:Int) && !ltB 4 (c.shared.length:Int) && (bA (fun j=>szP c j) c.shared.length 0 && bA (fun j=>pA (o5 c) j) (o5 c).length 0)
theorem Z7 {H:AH} {c:Cod} {vp vs vi:AV} (h:dO H c vp vs vi):Ev aa C0 W0 66 [.agg (bF c vp vs vi)] H=some (.bool (BH c),H):=by
 obtain ⟨tm,ht,g0,g1⟩:=tm1 (.agg (bF c vp vs vi)) 98 (by decide)
 rw [YS,ht]
 rw [<-af (ro H)]
 unfold BH
 have hlp:=h.ro.lp
 have hls:=h.ro.ls
 have h96:=fun L=>Wp h.nm L
 cases h0:lA c.name with
 | false=>simp (maxSteps:=4000000) -implicitDefEqProofs only [c66,Tryz.f66,aP,g0,g1,hlp,hls,↓DJ,h96,r5,↓az,h0,↓ao,an,eu,sevalprocAttr]
 | true =>
   cases h1:ltB 6 (c.params.length:Int) with
   | true=>simp (maxSteps:=4000000) -implicitDefEqProofs only [c66,Tryz.f66,aP,g0,g1,hlp,hls,↓DJ,h96,r5,↓az,h0,h1,↓ao,an,eu,sevalprocAttr]
   | false =>
     cases h2:ltB 4 (c.shared.length:Int) with
     | true=>simp (maxSteps:=4000000) -implicitDefEqProofs only [c66,Tryz.f66,aP,g0,g1,hlp,hls,↓DJ,h96,r5,↓az,h0,h1,h2,↓ao,an,eu,sevalprocAttr]
     | false =>
       simp (maxSteps:=4000000) -implicitDefEqProofs only [c66,Tryz.f66,aP,g0,g1,hlp,hls,↓DJ,h96,r5,↓az,h0,h1,h2,↓ao,an,eu,sevalprocAttr]
       have hG:dO (ro H++[bo.cells (bF c vp vs vi) 66]) c vp vs vi:=h.ro.aX (al.app _ _)
       have hq:(ro H++[bo.cells (bF c vp vs vi) 66])[(ro H).length]? =some (.cells (bF c vp vs vi) 66):=by rw [aw (ax _),dI]; rfl
       have hb:c.params.length<=6:=by rw [fe] at h1; omega
       have hb2:c.shared.length<=4:=by rw [fe] at h2; omega
       generalize hX:EvC aa C0 W0 _ (Code.loop _) _=Z
       obtain ⟨X,K1,he,i0,iA,i1,ix,v,i3,io⟩:=Gg (q:=(ro H).length) hX hG hq hb (by omega) ⟨by simp only [ls,g0],al.refl _,by simp only [g0,gB,sevalprocAttr]; try rfl,by simp only [g0,gB,sevalprocAttr]; try rfl,.nilSlice,by simp only [g0,gB,sevalprocAttr]; try rfl,.nil⟩
       subst he
       simp (maxSteps:=4000000) -implicitDefEqProofs only [aP,i0,i1,i3,↓ao,an,eu,sevalprocAttr]
       generalize hX2:EvC aa C0 W0 _ (Code.loop _) _=Z
       obtain ⟨X2,K2,Y2,L2,he,hi2,y0,y1⟩:=Gf (q:=(ro H).length) hX2 hG hq hb hb2 (by omega) ⟨by simp only [ls,i0],iA,by simp only [i0,i1,gB,sevalprocAttr]; try rfl,by simp only [i0,gB,sevalprocAttr]; try rfl,v,by simp only [i0,i3,gB,sevalprocAttr]; try rfl,by rw [List.take_zero,af]; rw [bt (by rw [kJ]; exact ax _)] at io; exact io⟩
       subst he
       unfold szP
       cases hf:bA (fun j=>!ltB (jO c j) 1 && !ltB 64 (jO c j)) c.shared.length 0 with
       | false=>simp (maxSteps:=4000000) -implicitDefEqProofs only [y0,y1,hf,↓ao,an,eu,sevalprocAttr]
       | true =>
         obtain ⟨j0,jA,j1,jx,v2,j3,jo⟩:=hi2 hf
         rw [bt (by rw [sy]; exact ax _)] at jo
         have hsl:SlS 164 1 K2 v2 ((o5 c).map fun s=>[AV.str s]):=jo.sls
         have hln:(o5 c).length=c.params.length+c.shared.length:=by unfold o5; rw [ai,kJ,sy]
         have hz:∀ s∈o5 c,s.size < 2 ^ 60:=by
           intro s hs
           unfold o5 pNs sNs at hs
           rw [List.mem_append,bY,bY] at hs
           rcases hs with ⟨p,hp,rfl⟩ | ⟨p,hp,rfl⟩
           · exact h.pn p hp
           · exact h.sn p hp
         simp (maxSteps:=4000000) -implicitDefEqProofs only [aP,hf,j0,j1,j3,↓ao,an,eu,sevalprocAttr]
         generalize hX3:EvC aa C0 W0 _ (Code.loop _) _=Z
         obtain ⟨X3,K3,Y3,L3,he,hi3,z0,z1⟩:=Sa hX3 hsl hz (by omega) ⟨by simp only [ls,j0],al.refl _,by simp only [j0,j3,gB,sevalprocAttr]; try rfl,by simp only [j0,gB,sevalprocAttr]; try rfl⟩
         subst he
         cases hf2:bA (fun j=>pA (o5 c) j) (o5 c).length 0 with
         | false=>simp (maxSteps:=4000000) -implicitDefEqProofs only [z0,z1,hf2,↓ao,an,eu,sevalprocAttr]
         | true =>
           have k0:=(hi3 hf2).1
           simp (maxSteps:=4000000) -implicitDefEqProofs only [k0,hf2,↓ao,an,eu,sevalprocAttr]
def CY (c:Cod):Bool:=BH c && !ltB c.loc 0 && !ltB 64 c.loc && !ltB (c.insns.length:Int) 1 && !ltB 2000 (c.insns.length:Int) && allI c && EE c
theorem HC (c:Cod):CY c=iK c:=by
 unfold CY iK BH y5
 rw [Jf]
 ac_rfl
theorem H3 {G:AH} {c:Cod} {vp vs vi:AV} {q:Nat} (h:dO G c vp vs vi) (hq:G[q]? =some (.cells (bF c vp vs vi) 66)) (hN:c.insns.length < 2 ^ 60):∀ (d j:Nat) (tm:List AV) (K:AH),c.insns.length - j=d->j<=c.insns.length->al G K->tm.length=60->tm.getD 1 uA=.ptr q 0->tm.getD 3 uA=I c.insns.length->tm.getD 4 uA=I ((j:Nat):Int) ->
   ∃ X Y K1 K2,EvC aa C0 W0 zZ JA (tm,K)=br (bA (fun j=>qP c (k6 c j)) (c.insns.length) (j)) (some (.exit 0,(X,K1))) (some (.ret,(Y,K2)))/\(X.length=60/\al G K1/\X.getD 1 uA=.ptr q 0/\X.getD 3 uA=I c.insns.length)/\Y.length=60/\Y.getD 2 uA=.bool false:=by
 intro d
 induction d with
 | zero =>
   intro j tm K hd hj hA hlen h1 h3 h4
   have hjl:j=c.insns.length:=by omega
   subst hjl
   have hlt:ltB (((c.insns.length:Nat)):Int) (c.insns.length:Nat)=false:=db (by omega)
   rw [cN (ax _),Lo]
   simp (maxSteps:=4000000) -implicitDefEqProofs only [Cq,Tryz.f37,aP,hlen,h1,h3,h4,hlt,↓ao,an,eu,sevalprocAttr]
   exact ⟨_,tm.set 2 (.bool false),_,K,rfl,⟨by first | exact hlen | simp only [ar,hlen],hA,by first | exact h1 | simp only [hlen,h1,gB,sevalprocAttr],by first | exact h3 | simp only [hlen,h3,gB,sevalprocAttr]⟩,by simp only [ls,hlen],by simp only [hlen,dq,aM]⟩
 | succ d ih =>
   intro j tm K hd hj hA hlen h1 h3 h4
   have hjN:j < c.insns.length:=by omega
   have hlt:ltB (j:Int) (c.insns.length:Nat)=true:=cQ (by omega)
   have hw:=cD (j:=j) (by omega)
   obtain ⟨i,k,hix,hrd0,hrd2⟩:=Ad h hA hjN
   have h67:=fun L=>Z6 ((h.aX hA).aX (al.app K L)) (JS h hjN)
   have hbq:∀ L k n,ak (K++L) q k n=if k+n<=(bF c vp vs vi).length then some (((bF c vp vs vi).drop k).take n) else none:=fun L k n=>eQ (hA.get hq) L k n
   simp only [ew,bF] at h67
   rw [ch hjN,Lo]
   rw [<-af K]
   cases hp:(qP c (k6 c j)) with
   | true =>
     simp only [aZ]
     simp (maxSteps:=4000000) -implicitDefEqProofs only [Cq,Tryz.f37,aP,hlen,h1,h3,h4,hlt,hw,Er,PS,hix,hrd2,hbq,↓V1,h67,hp,r5,↓az,↓ao,an,eu,sevalprocAttr]
     exact ih (j+1) _ _ (by omega) (by omega) (by first | exact hA | exact hA.bS _ | exact (hA.bS _).bS _) (by simp only [ls,hlen]) (by simp only [hlen,h1,gB,sevalprocAttr]) (by simp only [hlen,h3,gB,sevalprocAttr]) (by simp only [hlen,h4,gB,sevalprocAttr])
   | false =>
     simp only [bd]
     simp (maxSteps:=4000000) -implicitDefEqProofs only [Cq,Tryz.f37,aP,hlen,h1,h3,h4,hlt,hw,Er,PS,hix,hrd2,hbq,↓V1,h67,hp,r5,↓az,↓ao,an,eu,sevalprocAttr]
     exact ⟨tm,_,K,_,rfl,⟨hlen,hA,h1,h3⟩,by simp only [ls,hlen],by simp only [hlen,gB,sevalprocAttr]⟩
theorem F9 {G:AH} {c:Cod} {vp vs vi:AV} {q:Nat} {tm:List AV} {K:AH} {Z:Option (bu × St)} (hX:EvC aa C0 W0 zZ JA (tm,K)=Z) (h:dO G c vp vs vi) (hq:G[q]? =some (.cells (bF c vp vs vi) 66)) (hN:c.insns.length < 2 ^ 60) (hA:al G K) (hlen:tm.length=60) (h1:tm.getD 1 uA=.ptr q 0) (h3:tm.getD 3 uA=I c.insns.length) (h4:tm.getD 4 uA=I ((0:Nat):Int)) :
   ∃ X Y K1 K2,Z=br (bA (fun j=>qP c (k6 c j)) (c.insns.length) (0)) (some (.exit 0,(X,K1))) (some (.ret,(Y,K2)))/\(X.length=60/\al G K1/\X.getD 1 uA=.ptr q 0/\X.getD 3 uA=I c.insns.length)/\Y.length=60/\Y.getD 2 uA=.bool false:=by
 subst hX
 exact H3 h hq hN (c.insns.length) 0 tm K (by omega) (by omega) hA hlen h1 h3 h4
theorem aao {H:AH} {c:Cod} {vp vs vi:AV} (h:dO H c vp vs vi):Ev aa C0 W0 37 [.agg (bF c vp vs vi)] H=some (.bool (iK c),H):=by
 rw [<-HC]
 obtain ⟨tm,ht,g0,g1⟩:=tm1 (.agg (bF c vp vs vi)) 60 (by decide)
 rw [Zf,ht]
 rw [<-af (ro H)]
 unfold CY
 have hli:=h.ro.li
 have hib:=h.ni
 have h66:=fun L=>Z7 (h.ro.aX (al.app (ro H) L))
 simp only [bF] at h66
 cases h0:BH c with
 | false=>simp (maxSteps:=4000000) -implicitDefEqProofs only [c37,Tryz.f37,aP,g0,g1,hli,↓GQ,h66,r5,↓az,h0,↓ao,an,eu,sevalprocAttr]
 | true =>
   cases h1:ltB c.loc 0 with
   | true=>simp (maxSteps:=4000000) -implicitDefEqProofs only [c37,Tryz.f37,aP,g0,g1,hli,↓GQ,h66,r5,↓az,h0,h1,↓ao,an,eu,sevalprocAttr]
   | false =>
     cases h2:ltB 64 c.loc with
     | true=>simp (maxSteps:=4000000) -implicitDefEqProofs only [c37,Tryz.f37,aP,g0,g1,hli,↓GQ,h66,r5,↓az,h0,h1,h2,↓ao,an,eu,sevalprocAttr]
     | false =>
       cases h3:ltB (c.insns.length:Int) 1 with
       | true=>simp (maxSteps:=4000000) -implicitDefEqProofs only [c37,Tryz.f37,aP,g0,g1,hli,↓GQ,h66,r5,↓az,h0,h1,h2,h3,↓ao,an,eu,sevalprocAttr]
       | false =>
         cases h4:ltB 2000 (c.insns.length:Int) with
         | true=>simp (maxSteps:=4000000) -implicitDefEqProofs only [c37,Tryz.f37,aP,g0,g1,hli,↓GQ,h66,r5,↓az,h0,h1,h2,h3,h4,↓ao,an,eu,sevalprocAttr]
         | false =>
           have hn1:1<=c.insns.length:=by rw [fe] at h3; omega
           have hw1:IntKind.i64.wrap ((c.insns.length:Int) - 1)=((c.insns.length - 1:Nat):Int):=by rw [qN (by omega)]; omega
           have hG:dO (ro H++[bo.cells (bF c vp vs vi) 66]) c vp vs vi:=h.ro.aX (al.app _ _)
           have hq:(ro H++[bo.cells (bF c vp vs vi) 66])[(ro H).length]? =some (.cells (bF c vp vs vi) 66):=by rw [aw (ax _),dI]; rfl
           simp (maxSteps:=4000000) -implicitDefEqProofs only [c37,Tryz.f37,aP,g0,g1,hli,↓GQ,h66,r5,↓az,h0,h1,h2,h3,h4,↓ao,an,eu,sevalprocAttr]
           generalize hX:EvC aa C0 W0 _ (Code.loop _) _=Z
           obtain ⟨X,Y,K1,K2,he,xs,y0,y1⟩:=F9  hX hG hq (dB h.ni (by decide)) (al.refl _) (by simp only [ls,g0]) (by simp only [g0,gB,sevalprocAttr]; try rfl) (by simp only [g0,gB,sevalprocAttr]; try rfl) (by simp only [g0,gB,sevalprocAttr]; try rfl)
           subst he
           cases hf:allI c with
           | false =>
             unfold allI at hf
             simp (maxSteps:=4000000) -implicitDefEqProofs only [xs.1,y0,y1,hf,↓ao,an,eu,sevalprocAttr]
           | true =>
             unfold allI at hf
             obtain ⟨x0,xA,x1,x3⟩:=xs
             obtain ⟨i,k,hix,hrd0,hrd2⟩:=Ad hG xA (j:=c.insns.length - 1) (by omega)
             have hlk:(k6 c (c.insns.length - 1)).kind=xq c:=rfl
             rw [hlk] at hrd0
             have hbq:∀ L k n,ak (K1++L) (ro H).length k n=if k+n<=(bF c vp vs vi).length then some (((bF c vp vs vi).drop k).take n) else none:=fun L k n=>eQ (xA.get hq) L k n
             have hbq0:∀ k n,ak K1 (ro H).length k n=if k+n<=(bF c vp vs vi).length then some (((bF c vp vs vi).drop k).take n) else none:=fun k n=>by have:=hbq [] k n; rwa [af] at this
             have hrd1:=hrd0 []
             rw [af] at hrd1
             unfold EE
             cases e15:eqB (xq c) 15 <;> simp (maxSteps:=4000000) -implicitDefEqProofs only [aP,hf,x0,x1,x3,hbq0,hix,hrd1,hw1,e15,r5,↓az,↓ao,an,eu,sevalprocAttr]
def uL (cs:List Cod):Bool:=bA (fun j=>iK (cY cs j)) cs.length 0
def lf (m:List (List Int)):Bool:=bA (fun j=>!ltB 256 ((bG m j).length:Int)) m.length 0
theorem aad {H:AH} {c:Cod} {vp vs vi:AV} (h:dO H c vp vs vi):Ev aa C0 W0 58 [.agg (bF c vp vs vi)] H=some (.bool (!iK c),H):=by
 obtain ⟨tm,ht,g0,g1⟩:=tm1 (.agg (bF c vp vs vi)) 6 (by decide)
 rw [YY,ht]
 rw [<-af (ro H)]
 have h59:=fun L=>aac (h.ro.aX (al.app (ro H) L))
 simp only [bF] at h59
 simp (maxSteps:=4000000) -implicitDefEqProofs only [c58,Tryz.f58,aP,g0,g1,r5,↓az,↓ZB,h59,↓ao,an,eu,sevalprocAttr]
theorem aaa {H:AH} {v:AV} {b:List Int} (h:SlS 32 1 H v (b.map dh)):Ev aa C0 W0 61 [v] H=some (.bool (ltB 256 (b.length:Int)),H):=by
 obtain ⟨tm,ht,g0,g1⟩:=tm1 v 6 (by decide)
 rw [YV,ht]
 rw [<-af (ro H)]
 have hl:=kn h
 simp (maxSteps:=4000000) -implicitDefEqProofs only [c61,Tryz.f61,aP,g0,g1,r5,↓az,hl,↓ao,an,eu,sevalprocAttr]
theorem Yl {H:AH} {cs:List Cod} {v:AV} (h:cO H cs v) (hN:cs.length < 2 ^ 60):∀ (d j:Nat) (tm:List AV) (K:AH),cs.length - j=d->j<=cs.length->al H K->tm.length=19->tm.getD 0 uA=v->tm.getD 1 uA=.func (.func 58) [] []->tm.getD 7 uA=I cs.length->tm.getD 8 uA=I ((j:Nat):Int) ->
   ∃ X Y K1 K2,EvC aa C0 W0 plN Jv (tm,K)=br (bA (fun j=>iK (cY cs j)) (cs.length) (j)) (some (.exit 0,(X,K1))) (some (.ret,(Y,K2)))/\(X.length=19/\al H K1/\X.getD 0 uA=v/\X.getD 1 uA=.func (.func 58) [] []/\X.getD 7 uA=I cs.length)/\Y.length=19/\∃ r:Int,0<=r/\Y.getD 4 uA=I r:=by
 intro d
 induction d with
 | zero =>
   intro j tm K hd hj hA hlen h0 h1 h7 h8
   have hjl:j=cs.length:=by omega
   subst hjl
   have hlt:ltB (((cs.length:Nat)):Int) (cs.length:Nat)=false:=db (by omega)
   rw [cN (ax _),La]
   simp (maxSteps:=4000000) -implicitDefEqProofs only [Ch,Tryz.f85,aP,hlen,h0,h1,h7,h8,hlt,↓ao,an,eu,sevalprocAttr]
   exact ⟨_,tm.set 4 (I 0),_,K,rfl,⟨by first | exact hlen | simp only [ar,hlen],hA,by first | exact h0 | simp only [hlen,h0,gB,sevalprocAttr],by first | exact h1 | simp only [hlen,h1,gB,sevalprocAttr],by first | exact h7 | simp only [hlen,h7,gB,sevalprocAttr]⟩,by simp only [ls,hlen],⟨0,Tv _,by simp only [hlen,dq,aM]⟩⟩
 | succ d ih =>
   intro j tm K hd hj hA hlen h0 h1 h7 h8
   have hjN:j < cs.length:=by omega
   have hlt:ltB (j:Int) (cs.length:Nat)=true:=cQ (by omega)
   have hw:=cD (j:=j) (by omega)
   obtain ⟨i,k,vp,vs,vi,hix,hrd,hc⟩:=h.at hA hjN
   have h58:=fun L=>aad ((hc.aX hA).aX (al.app K L))
   simp only [bF] at h58 hrd
   rw [ch hjN,La]
   rw [<-af K]
   cases hp:(iK (cY cs j)) with
   | true =>
     simp only [aZ]
     simp (maxSteps:=4000000) -implicitDefEqProofs only [Ch,Tryz.f85,aP,hlen,h0,h1,h7,h8,hlt,hw,hix,hrd,↓aO,Tryz.func58,show Tryz.f58.body.isSome=true from rfl,h58,hp,r5,↓az,↓ao,an,eu,sevalprocAttr]
     exact ih (j+1) _ _ (by omega) (by omega) (by first | exact hA | exact hA.bS _ | exact (hA.bS _).bS _) (by simp only [ls,hlen]) (by simp only [hlen,h0,gB,sevalprocAttr]) (by simp only [hlen,h1,gB,sevalprocAttr]) (by simp only [hlen,h7,gB,sevalprocAttr]) (by simp only [hlen,h8,gB,sevalprocAttr])
   | false =>
     simp only [bd]
     simp (maxSteps:=4000000) -implicitDefEqProofs only [Ch,Tryz.f85,aP,hlen,h0,h1,h7,h8,hlt,hw,hix,hrd,↓aO,Tryz.func58,show Tryz.f58.body.isSome=true from rfl,h58,hp,r5,↓az,↓ao,an,eu,sevalprocAttr]
     exact ⟨tm,_,K,_,rfl,⟨hlen,hA,h0,h1,h7⟩,by simp only [ls,hlen],⟨_,uO j,by simp only [hlen,gB,sevalprocAttr]⟩⟩
theorem Vi {H:AH} {cs:List Cod} {v:AV} {tm:List AV} {K:AH} {Z:Option (bu × St)} (hX:EvC aa C0 W0 plN Jv (tm,K)=Z) (h:cO H cs v) (hN:cs.length < 2 ^ 60) (hA:al H K) (hlen:tm.length=19) (h0:tm.getD 0 uA=v) (h1:tm.getD 1 uA=.func (.func 58) [] []) (h7:tm.getD 7 uA=I cs.length) (h8:tm.getD 8 uA=I ((0:Nat):Int)) :
   ∃ X Y K1 K2,Z=br (bA (fun j=>iK (cY cs j)) (cs.length) (0)) (some (.exit 0,(X,K1))) (some (.ret,(Y,K2)))/\(X.length=19/\al H K1/\X.getD 0 uA=v/\X.getD 1 uA=.func (.func 58) [] []/\X.getD 7 uA=I cs.length)/\Y.length=19/\∃ r:Int,0<=r/\Y.getD 4 uA=I r:=by
 subst hX
 exact Yl h hN (cs.length) 0 tm K (by omega) (by omega) hA hlen h0 h1 h7 h8
theorem ZW {H:AH} {cs:List Cod} {v:AV} (h:cO H cs v):∃ r,Ev aa C0 W0 85 [v,.func (.func 58) [] []] H=some (I r,H)/\leB 0 r=!uL cs:=by
 obtain ⟨tm,ht,g0,g1,g2⟩:=tm2 v (.func (.func 58) [] []) 19 (by decide)
 rw [YF,ht]
 rw [<-af (ro H)]
 have hl:=h.ro.len
 unfold uL
 simp (maxSteps:=4000000) -implicitDefEqProofs only [c85,Tryz.f85,aP,g0,g1,g2,r5,↓az,hl,↓ao,an,eu,sevalprocAttr]
 generalize hX:EvC aa C0 W0 _ (Code.loop _) _=Z
 obtain ⟨X,Y,K1,K2,he,xs,y0,y1⟩:=Vi  hX h.ro (dB h.n (by decide)) (al.app _ _) (by simp only [ls,g0]) (by simp only [g0,g1,gB,sevalprocAttr]; try rfl) (by simp only [g0,g2,gB,sevalprocAttr]; try rfl) (by simp only [g0,gB,sevalprocAttr]; try rfl) (by simp only [g0,gB,sevalprocAttr]; try rfl)
 subst he
 obtain ⟨r,hr0,hr⟩:=y1
 cases hf:bA (fun j=>iK (cY cs j)) cs.length 0 with
 | true =>
   refine ⟨-1,?_,rfl⟩
   simp (maxSteps:=4000000) -implicitDefEqProofs only [xs.1,hf,↓ao,an,eu,sevalprocAttr]
 | false =>
   refine ⟨r,?_,by rw [(dp _ _).2 hr0]; rfl⟩
   simp (maxSteps:=4000000) -implicitDefEqProofs only [y0,hr,hf,↓ao,an,eu,sevalprocAttr]
theorem Yk {H:AH} {m:List (List Int)} {v:AV} (h:dc H m v) (hN:m.length < 2 ^ 60):∀ (d j:Nat) (tm:List AV) (K:AH),m.length - j=d->j<=m.length->al H K->tm.length=19->tm.getD 0 uA=v->tm.getD 1 uA=.func (.func 61) [] []->tm.getD 7 uA=I m.length->tm.getD 8 uA=I ((j:Nat):Int) ->
   ∃ X Y K1 K2,EvC aa C0 W0 plN Js (tm,K)=br (bA (fun j=>!ltB 256 ((bG m j).length:Int)) (m.length) (j)) (some (.exit 0,(X,K1))) (some (.ret,(Y,K2)))/\(X.length=19/\al H K1/\X.getD 0 uA=v/\X.getD 1 uA=.func (.func 61) [] []/\X.getD 7 uA=I m.length)/\Y.length=19/\∃ r:Int,0<=r/\Y.getD 4 uA=I r:=by
 intro d
 induction d with
 | zero =>
   intro j tm K hd hj hA hlen h0 h1 h7 h8
   have hjl:j=m.length:=by omega
   subst hjl
   have hlt:ltB (((m.length:Nat)):Int) (m.length:Nat)=false:=db (by omega)
   rw [cN (ax _),KY]
   simp (maxSteps:=4000000) -implicitDefEqProofs only [Cg,Tryz.f89,aP,hlen,h0,h1,h7,h8,hlt,↓ao,an,eu,sevalprocAttr]
   exact ⟨_,tm.set 4 (I 0),_,K,rfl,⟨by first | exact hlen | simp only [ar,hlen],hA,by first | exact h0 | simp only [hlen,h0,gB,sevalprocAttr],by first | exact h1 | simp only [hlen,h1,gB,sevalprocAttr],by first | exact h7 | simp only [hlen,h7,gB,sevalprocAttr]⟩,by simp only [ls,hlen],⟨0,Tv _,by simp only [hlen,dq,aM]⟩⟩
 | succ d ih =>
   intro j tm K hd hj hA hlen h0 h1 h7 h8
   have hjN:j < m.length:=by omega
   have hlt:ltB (j:Int) (m.length:Nat)=true:=cQ (by omega)
   have hw:=cD (j:=j) (by omega)
   obtain ⟨i,k,w,hix,hrd,hw32⟩:=h.at hA hjN
   have h58:=fun L=>aaa ((hw32.same hA).same (al.app K L))
   rw [ch hjN,KY]
   rw [<-af K]
   cases hp:(!ltB 256 ((bG m j).length:Int)) with
   | true =>
     simp only [aZ]
     rw [ba] at hp
     simp (maxSteps:=4000000) -implicitDefEqProofs only [Cg,Tryz.f89,aP,hlen,h0,h1,h7,h8,hlt,hw,hix,hrd,↓aO,Tryz.func61,show Tryz.f61.body.isSome=true from rfl,h58,hp,r5,↓az,↓ao,an,eu,sevalprocAttr]
     exact ih (j+1) _ _ (by omega) (by omega) (by first | exact hA | exact hA.bS _ | exact (hA.bS _).bS _) (by simp only [ls,hlen]) (by simp only [hlen,h0,gB,sevalprocAttr]) (by simp only [hlen,h1,gB,sevalprocAttr]) (by simp only [hlen,h7,gB,sevalprocAttr]) (by simp only [hlen,h8,gB,sevalprocAttr])
   | false =>
     simp only [bd]
     rw [iB] at hp
     simp (maxSteps:=4000000) -implicitDefEqProofs only [Cg,Tryz.f89,aP,hlen,h0,h1,h7,h8,hlt,hw,hix,hrd,↓aO,Tryz.func61,show Tryz.f61.body.isSome=true from rfl,h58,hp,r5,↓az,↓ao,an,eu,sevalprocAttr]
     exact ⟨tm,_,K,_,rfl,⟨hlen,hA,h0,h1,h7⟩,by simp only [ls,hlen],⟨_,uO j,by simp only [hlen,gB,sevalprocAttr]⟩⟩
theorem Vh {H:AH} {m:List (List Int)} {v:AV} {tm:List AV} {K:AH} {Z:Option (bu × St)} (hX:EvC aa C0 W0 plN Js (tm,K)=Z) (h:dc H m v) (hN:m.length < 2 ^ 60) (hA:al H K) (hlen:tm.length=19) (h0:tm.getD 0 uA=v) (h1:tm.getD 1 uA=.func (.func 61) [] []) (h7:tm.getD 7 uA=I m.length) (h8:tm.getD 8 uA=I ((0:Nat):Int)) :
   ∃ X Y K1 K2,Z=br (bA (fun j=>!ltB 256 ((bG m j).length:Int)) (m.length) (0)) (some (.exit 0,(X,K1))) (some (.ret,(Y,K2)))/\(X.length=19/\al H K1/\X.getD 0 uA=v/\X.getD 1 uA=.func (.func 61) [] []/\X.getD 7 uA=I m.length)/\Y.length=19/\∃ r:Int,0<=r/\Y.getD 4 uA=I r:=by
 subst hX
 exact Yk h hN (m.length) 0 tm K (by omega) (by omega) hA hlen h0 h1 h7 h8
theorem ZT {H:AH} {m:List (List Int)} {v:AV} (h:dc H m v):∃ r,Ev aa C0 W0 89 [v,.func (.func 61) [] []] H=some (I r,H)/\leB 0 r=!lf m:=by
 obtain ⟨tm,ht,g0,g1,g2⟩:=tm2 v (.func (.func 61) [] []) 19 (by decide)
 rw [YC,ht]
 rw [<-af (ro H)]
 have hl:=h.ro.len
 unfold lf
 simp (maxSteps:=4000000) -implicitDefEqProofs only [c89,Tryz.f89,aP,g0,g1,g2,r5,↓az,hl,↓ao,an,eu,sevalprocAttr]
 generalize hX:EvC aa C0 W0 _ (Code.loop _) _=Z
 obtain ⟨X,Y,K1,K2,he,xs,y0,y1⟩:=Vh  hX h.ro (dB h.n (by decide)) (al.app _ _) (by simp only [ls,g0]) (by simp only [g0,g1,gB,sevalprocAttr]; try rfl) (by simp only [g0,g2,gB,sevalprocAttr]; try rfl) (by simp only [g0,gB,sevalprocAttr]; try rfl) (by simp only [g0,gB,sevalprocAttr]; try rfl)
 subst he
 obtain ⟨r,hr0,hr⟩:=y1
 cases hf:bA (fun j=>!ltB 256 ((bG m j).length:Int)) m.length 0 with
 | true =>
   refine ⟨-1,?_,rfl⟩
   simp (maxSteps:=4000000) -implicitDefEqProofs only [xs.1,hf,↓ao,an,eu,sevalprocAttr]
 | false =>
   refine ⟨r,?_,by rw [(dp _ _).2 hr0]; rfl⟩
   simp (maxSteps:=4000000) -implicitDefEqProofs only [y0,hr,hf,↓ao,an,eu,sevalprocAttr]
theorem aae {H:AH} {cs:List Cod} {v:AV} (h:cO H cs v):Ev aa C0 W0 57 [v,.func (.func 58) [] []] H=some (.bool (!uL cs),H):=by
 obtain ⟨tm,ht,g0,g1,g2⟩:=tm2 v (.func (.func 58) [] []) 9 (by decide)
 rw [YZ,ht]
 rw [<-af (ro H)]
 obtain ⟨r,hr,hb⟩:=ZW (h.ro.aX (al.app (ro H) []))
 simp (maxSteps:=4000000) -implicitDefEqProofs only [c57,Tryz.f57,aP,g0,g1,g2,r5,↓az,↓Zw,hr,hb,↓ao,an,eu,sevalprocAttr]
theorem aab {H:AH} {m:List (List Int)} {v:AV} (h:dc H m v):Ev aa C0 W0 60 [v,.func (.func 61) [] []] H=some (.bool (!lf m),H):=by
 obtain ⟨tm,ht,g0,g1,g2⟩:=tm2 v (.func (.func 61) [] []) 9 (by decide)
 rw [YW,ht]
 rw [<-af (ro H)]
 obtain ⟨r,hr,hb⟩:=ZT (h.ro.aX (al.app (ro H) []))
 simp (maxSteps:=4000000) -implicitDefEqProofs only [c60,Tryz.f60,aP,g0,g1,g2,r5,↓az,↓Zv,hr,hb,↓ao,an,eu,sevalprocAttr]
def gg (l:List Int) (j:Nat):Int:=l.getD j 0
theorem AI {H K:AH} {v:AV} {l:List Int} (h:SlS 32 1 H v (l.map dh)) (hA:al H K) {j:Nat} (hj:j < l.length):∃ i k,(∀ kk,aG aa 32 v (.int kk (j:Int))=some (.ptr i k))/\(∀ L,ak (K++L) i k 1=some [.int .i32 (gg l j)]):=by
 obtain ⟨i,k,hi,hr⟩:=h.ix j (dh (gg l j)) (by
   rw [List.getElem?_map,aj hj]
   unfold gg
   rw [dr hj]; rfl)
 exact ⟨i,k,hi,fun L=>jB hr hA L⟩
theorem AG {l:List Int} (h:∀ a∈l,eD a) {j:Nat} (hj:j < l.length):eD (gg l j):=by
 unfold gg
 rw [dr hj]; exact h _ (List.getElem_mem _)
theorem zW {H K:AH} {c:Cod} {vp vs vi:AV} (h:dO H c vp vs vi) (hA:al H K) {j:Nat} (hj:j < c.params.length):∃ i k nm,(∀ kk,aG aa 62 vp (.int kk (j:Int))=some (.ptr i k))/\(∀ L,ak (K++L) i (k+1) 1=some [.bool (iU c (j:Int))])/\(∀ L,ak (K++L) i k 2=some [.str nm,.bool (iU c (j:Int))]):=by
 obtain ⟨i,k,hi,hr0,hr1,hr2,hb⟩:=wT h hA hj
 rw [hb]
 exact ⟨i,k,_,hi,hr1,hr2⟩
def jb (c:Cod) (l:List Int) (n:Int) (j:Nat):Bool:=!(iU c (j:Int) && (ltB (gg l j) 0 || leB n (gg l j)))
def zL (c:Cod) (l:List Int) (n:Int) (j:Nat):Bool:=!(iU c (j:Int) && leB n (gg l j))
def ph (c:Cod) (nm:ByteArray) (x:Itm):Bool:=sEq nm c.name && !ltB x.grid 1 && !ltB 8 x.grid && !ltB x.block 1 && !ltB 32 x.block && eqB (x.args.length:Int) (c.params.length:Int)
def u7 (c:Cod) (nm:ByteArray) (x:Itm):Bool:=ph c nm x && bA (fun j=>jb c x.args 6 j) c.params.length 0
def oY (c:Cod) (nm:ByteArray) (x:Itm) (m:List (List Int)):Bool:=u7 c nm x && !ltB 6 (m.length:Int) && lf m && bA (fun j=>zL c x.args (m.length:Int) j) c.params.length 0
def BP (c:Cod) (nm:ByteArray) (x:Itm) (n:Int):Bool:=ph c nm x && bA (fun j=>jb c x.args n j) c.params.length 0
def J0 (c:Cod) (nm:ByteArray) (x:Itm) (m:List (List Int)):Bool:=lf m && leB (m.length:Int) 6 && BP c nm x (m.length:Int)
theorem O3 (c:Cod) (nm:ByteArray) (x:Itm) (m:List (List Int)):oY c nm x m=J0 c nm x m:=by
 unfold oY J0 u7 BP
 cases ph c nm x with
 | false=>simp
 | true =>
   cases lf m with
   | false=>simp
   | true =>
     have e:leB (m.length:Int) 6=!ltB 6 (m.length:Int):=by rw [fA,ba,dp,fe]
     rw [e]
     cases h:ltB 6 (m.length:Int) with
     | true=>simp
     | false =>
       simp only [aZ,Bool.not_false,Bool.and_true]
       rw [fe] at h
       rw [fA,aD,dy,dy,dy]
       have key:∀ j,(jb c x.args 6 j=true/\zL c x.args (m.length:Int) j=true)↔jb c x.args (m.length:Int) j=true:=fun j=>by
         unfold jb zL
         cases iU c (j:Int) with
         | false=>simp
         | true =>
           simp only [aZ,ba,qV,fe,nL]
           omega
       exact ⟨fun ⟨a,b⟩ j hj=>(key j).1 ⟨a j hj,b j hj⟩,fun a=>⟨fun j hj=>((key j).2 (a j hj)).1,fun j hj=>((key j).2 (a j hj)).2⟩⟩
theorem Vp {G:AH} {c:Cod} {vp vs vi va:AV} {x:Itm} {nm:ByteArray} {q:Nat} (h:dO G c vp vs vi) (ha:SlS 32 1 G va (x.args.map dh)) (hi32:∀ a∈x.args,eD a) (hnp:x.args.length=c.params.length) (hq:G[q]? =some (.cells (cU nm x va) 126)) (hN:c.params.length < 2 ^ 60):∀ (d j:Nat) (tm:List AV) (K:AH),c.params.length - j=d->j<=c.params.length->al G K->tm.length=68->tm.getD 3 uA=.ptr q 0->tm.getD 42 uA=vp->tm.getD 43 uA=I c.params.length->tm.getD 44 uA=I ((j:Nat):Int) ->
   ∃ X Y K1 K2,EvC aa C0 W0 plN DB (tm,K)=br (bA (fun j=>jb c x.args (6) j) (c.params.length) (j)) (some (.exit 0,(X,K1))) (some (.ret,(Y,K2)))/\(X.length=68/\al G K1/\X.getD 3 uA=.ptr q 0/\X.getD 42 uA=vp/\X.getD 43 uA=I c.params.length)/\Y.length=68/\Y.getD 4 uA=.bool false:=by
 intro d
 induction d with
 | zero =>
   intro j tm K hd hj hA hlen h3 h42 h43 h44
   have hjl:j=c.params.length:=by omega
   subst hjl
   have hlt:ltB (((c.params.length:Nat)):Int) (c.params.length:Nat)=false:=db (by omega)
   rw [cN (ax _),E9]
   simp (maxSteps:=4000000) -implicitDefEqProofs only [rZ,Tryz.f108,aP,hlen,h3,h42,h43,h44,hlt,↓ao,an,eu,sevalprocAttr]
   exact ⟨_,tm.set 4 (.bool false),_,K,rfl,⟨by first | exact hlen | simp only [ar,hlen],hA,by first | exact h3 | simp only [hlen,h3,gB,sevalprocAttr],by first | exact h42 | simp only [hlen,h42,gB,sevalprocAttr],by first | exact h43 | simp only [hlen,h43,gB,sevalprocAttr]⟩,by simp only [ls,hlen],by simp only [hlen,dq,aM]⟩
 | succ d ih =>
   intro j tm K hd hj hA hlen h3 h42 h43 h44
   have hjN:j < c.params.length:=by omega
   have hlt:ltB (j:Int) (c.params.length:Nat)=true:=cQ (by omega)
   have hw:=cD (j:=j) (by omega)
   obtain ⟨i,k,pn,hix,hrd1,hrd2⟩:=zW h hA hjN
   obtain ⟨i2,k2,hix2,hra⟩:=AI ha hA (j:=j) (by omega)
   have hai:=AG hi32 (j:=j) (by omega)
   have hwa:IntKind.i64.wrap (gg x.args j)=gg x.args j:=by obtain ⟨a0,a1⟩:=hai; exact qN (by omega)
   have hbq:∀ L k n,ak (K++L) q k n=if k+n<=(cU nm x va).length then some (((cU nm x va).drop k).take n) else none:=fun L k n=>eQ (hA.get hq) L k n
   rw [ch hjN,E9]
   rw [<-af K]
   cases hp:(jb c x.args (6) j) with
   | true =>
     simp only [aZ]
     unfold jb at hp
     cases hb:iU c (j:Int) with
     | false =>
       simp (maxSteps:=4000000) -implicitDefEqProofs only [rZ,Tryz.f108,aP,hlen,h3,h42,h43,h44,hlt,hw,hix,hrd1,hrd2,hix2,hra,hwa,hbq,z74,vu,ef,ed,ec,d9,cU,r5,↓az,hb,↓ao,an,eu,sevalprocAttr]
       exact ih (j+1) _ _ (by omega) (by omega) (by first | exact hA | exact hA.bS _ | exact (hA.bS _).bS _) (by simp only [ls,hlen]) (by simp only [hlen,h3,gB,sevalprocAttr]) (by simp only [hlen,h42,gB,sevalprocAttr]) (by simp only [hlen,h43,gB,sevalprocAttr]) (by simp only [hlen,h44,gB,sevalprocAttr])
     | true =>
       rw [hb,aZ,ba,qV] at hp
       obtain ⟨hp1,hp2⟩:=hp
       simp (maxSteps:=4000000) -implicitDefEqProofs only [rZ,Tryz.f108,aP,hlen,h3,h42,h43,h44,hlt,hw,hix,hrd1,hrd2,hix2,hra,hwa,hbq,z74,vu,ef,ed,ec,d9,cU,r5,↓az,hb,hp1,hp2,↓ao,an,eu,sevalprocAttr]
       exact ih (j+1) _ _ (by omega) (by omega) (by first | exact hA | exact hA.bS _ | exact (hA.bS _).bS _) (by simp only [ls,hlen]) (by simp only [hlen,h3,gB,sevalprocAttr]) (by simp only [hlen,h42,gB,sevalprocAttr]) (by simp only [hlen,h43,gB,sevalprocAttr]) (by simp only [hlen,h44,gB,sevalprocAttr])
   | false =>
     simp only [bd]
     unfold jb at hp
     rw [iB,aD,gM] at hp
     obtain ⟨hb,hp⟩:=hp
     cases hp1:ltB (gg x.args j) 0 with
     | true =>
       simp (maxSteps:=4000000) -implicitDefEqProofs only [rZ,Tryz.f108,aP,hlen,h3,h42,h43,h44,hlt,hw,hix,hrd1,hrd2,hix2,hra,hwa,hbq,z74,vu,ef,ed,ec,d9,cU,r5,↓az,hb,hp1,↓ao,an,eu,sevalprocAttr]
       exact ⟨tm,_,K,_,rfl,⟨hlen,hA,h3,h42,h43⟩,by simp only [ls,hlen],by simp only [hlen,gB,sevalprocAttr]⟩
     | false =>
       rw [hp1] at hp
       have hp2:leB (6) (gg x.args j)=true:=by simpa using hp
       simp (maxSteps:=4000000) -implicitDefEqProofs only [rZ,Tryz.f108,aP,hlen,h3,h42,h43,h44,hlt,hw,hix,hrd1,hrd2,hix2,hra,hwa,hbq,z74,vu,ef,ed,ec,d9,cU,r5,↓az,hb,hp1,hp2,↓ao,an,eu,sevalprocAttr]
       exact ⟨tm,_,K,_,rfl,⟨hlen,hA,h3,h42,h43⟩,by simp only [ls,hlen],by simp only [hlen,gB,sevalprocAttr]⟩
theorem Sw {G:AH} {c:Cod} {vp vs vi va:AV} {x:Itm} {nm:ByteArray} {q:Nat} {tm:List AV} {K:AH} {Z:Option (bu × St)} (hX:EvC aa C0 W0 plN DB (tm,K)=Z) (h:dO G c vp vs vi) (ha:SlS 32 1 G va (x.args.map dh)) (hi32:∀ a∈x.args,eD a) (hnp:x.args.length=c.params.length) (hq:G[q]? =some (.cells (cU nm x va) 126)) (hN:c.params.length < 2 ^ 60) (hA:al G K) (hlen:tm.length=68) (h3:tm.getD 3 uA=.ptr q 0) (h42:tm.getD 42 uA=vp) (h43:tm.getD 43 uA=I c.params.length) (h44:tm.getD 44 uA=I ((0:Nat):Int)) :
   ∃ X Y K1 K2,Z=br (bA (fun j=>jb c x.args (6) j) (c.params.length) (0)) (some (.exit 0,(X,K1))) (some (.ret,(Y,K2)))/\(X.length=68/\al G K1/\X.getD 3 uA=.ptr q 0/\X.getD 42 uA=vp/\X.getD 43 uA=I c.params.length)/\Y.length=68/\Y.getD 4 uA=.bool false:=by
 subst hX
 exact Vp h ha hi32 hnp hq hN (c.params.length) 0 tm K (by omega) (by omega) hA hlen h3 h42 h43 h44
theorem WM {H:AH} {c:Cod} {vp vs vi va:AV} {x:Itm} {nm:ByteArray} (h:dO H c vp vs vi) (ha:SlS 32 1 H va (x.args.map dh)) (hi32:∀ a∈x.args,eD a):Ev aa C0 W0 108 [.agg (bF c vp vs vi),.agg (cU nm x va)] H=some (.bool (u7 c nm x),H):=by
 obtain ⟨tm,ht,g0,g1,g2⟩:=tm2 (.agg (bF c vp vs vi)) (.agg (cU nm x va)) 68 (by decide)
 rw [VO,ht]
 rw [<-af (ro H)]
 unfold u7 ph
 have hlp:=h.ro.lp
 have hla:=kn ha.ro
 cases h0:sEq nm c.name with
 | false=>simp (maxSteps:=4000000) -implicitDefEqProofs only [B3,Tryz.f108,aP,g0,g1,g2,cU,hlp,hla,jn,ef,ed,ec,d9,cU,r5,↓az,h0,↓ao,an,eu,sevalprocAttr]
 | true =>
   cases h1:ltB x.grid 1 with
   | true=>simp (maxSteps:=4000000) -implicitDefEqProofs only [B3,Tryz.f108,aP,g0,g1,g2,cU,hlp,hla,jn,ef,ed,ec,d9,cU,r5,↓az,h0,h1,↓ao,an,eu,sevalprocAttr]
   | false =>
     cases h2:ltB 8 x.grid with
     | true=>simp (maxSteps:=4000000) -implicitDefEqProofs only [B3,Tryz.f108,aP,g0,g1,g2,cU,hlp,hla,jn,ef,ed,ec,d9,cU,r5,↓az,h0,h1,h2,↓ao,an,eu,sevalprocAttr]
     | false =>
       cases h3:ltB x.block 1 with
       | true=>simp (maxSteps:=4000000) -implicitDefEqProofs only [B3,Tryz.f108,aP,g0,g1,g2,cU,hlp,hla,jn,ef,ed,ec,d9,cU,r5,↓az,h0,h1,h2,h3,↓ao,an,eu,sevalprocAttr]
       | false =>
         cases h4:ltB 32 x.block with
         | true=>simp (maxSteps:=4000000) -implicitDefEqProofs only [B3,Tryz.f108,aP,g0,g1,g2,cU,hlp,hla,jn,ef,ed,ec,d9,cU,r5,↓az,h0,h1,h2,h3,h4,↓ao,an,eu,sevalprocAttr]
         | false =>
           cases h5:eqB (x.args.length:Int) (c.params.length:Int) with
           | false=>simp (maxSteps:=4000000) -implicitDefEqProofs only [B3,Tryz.f108,aP,g0,g1,g2,cU,hlp,hla,jn,ef,ed,ec,d9,cU,r5,↓az,h0,h1,h2,h3,h4,h5,↓ao,an,eu,sevalprocAttr]
           | true =>
             have hnp:x.args.length=c.params.length:=by rw [cX] at h5; omega
             have hA0:=al.app (ro H) [bo.cells (bF c vp vs vi) 66,bo.cells (cU nm x va) 126]
             have hq:(ro H++[bo.cells (bF c vp vs vi) 66,bo.cells (cU nm x va) 126])[(ro H).length+1]? =some (.cells (cU nm x va) 126):=by rw [aw (cm _ _),bE]; rfl
             simp (maxSteps:=4000000) -implicitDefEqProofs only [B3,Tryz.f108,aP,g0,g1,g2,cU,hlp,hla,jn,ef,ed,ec,d9,cU,r5,↓az,h0,h1,h2,h3,h4,h5,↓ao,an,eu,sevalprocAttr]
             generalize hX:EvC aa C0 W0 _ (Code.loop _) _=Z
             obtain ⟨X,Y,K1,K2,he,xs,y0,y1⟩:=Sw  hX (h.ro.aX hA0) (ha.ro.same hA0) hi32 hnp hq (dB h.np (by decide)) (al.refl _) (by simp only [ls,g0]) (by simp only [g0,gB,sevalprocAttr]; try rfl) (by simp only [g0,gB,sevalprocAttr]; try rfl) (by simp only [g0,gB,sevalprocAttr]; try rfl) (by simp only [g0,gB,sevalprocAttr]; try rfl)
             subst he
             cases hf:bA (fun j=>jb c x.args 6 j) c.params.length 0 <;> simp (maxSteps:=4000000) -implicitDefEqProofs only [xs.1,y0,y1,hf,↓ao,an,eu,sevalprocAttr]
end Go.Dv
