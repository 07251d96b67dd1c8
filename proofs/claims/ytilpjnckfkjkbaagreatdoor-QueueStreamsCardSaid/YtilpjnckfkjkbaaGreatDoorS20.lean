/- Part 20 of the walks (own work). -/
import Derived.Test.YtilpjnckfkjkbaaGreatDoorS13
open Bool renaming and_eq_true→aD,false_and→bd,not_eq_true'→ba,true_and→aZ
open List renaming append_assoc→aE,append_nil→af,getElem?_append_right→aw,getElem?_eq_getElem→aj,getElem?_map→aI,getElem_mem→gC,length_append→ai,length_map→au,length_set→ar
open Nat renaming le_refl→ax,lt_trans→dB,reduceLT→aM
open Go.Proofs.Tryz renaming prog→aa
set_option maxRecDepth 100000
set_option maxHeartbeats 4000000
set_option linter.unusedSimpArgs false
set_option linter.unusedVariables false
namespace Go.Dv
open Go.Proofs
attribute [local congr] aH bP bj bO bQ
theorem lkK {K:AH} {m:Nat} {l:List ByteArray} (h:K[m]? =some (.map (mr l) l.length)) (s:ByteArray) (L:AH):ig aa 172 (.map m) (.str s) false (K++L)=some (.bool (sIn l s)):=
 P4 ((al.app K L).get h) s
theorem mpK {K:AH} {m:Nat} {l:List ByteArray} (h:K[m]? =some (.map (mr l) l.length)) {s:ByteArray} (hc:sIn l s=false) (L:AH):ic aa 172 (.map m) (.str s) (.bool true) (K++L)=some (K.set m (.map (mr (l++[s])) (l++[s]).length)++L):=by
 rw [UC ((al.app K L).get h) hc,List.set_append_left _ _ (aJ h)]
theorem vM {K:AH} {m:Nat} {o:bo} (h:K[m]? =some o) (x:bo) (L:AH):(K.set m x++L)[m]? =some x:=by
 have hl:=aJ h
 rw [List.getElem?_append_left (by rw [ar]; exact hl),List.getElem?_set_self hl]
def pNs (c:Cod):List ByteArray:=c.params.map (·.name)
def sNs (c:Cod):List ByteArray:=c.shared.map (·.name)
def fQ (l:List ByteArray) (j:Nat):ByteArray:=l.getD j eS
def jO (c:Cod) (j:Nat):Int:=match c.shared[j]? with
 | some a=>a.size
 | none=>0
def vA (c:Cod) (j:Nat):Bool:=lA (fQ (pNs c) j) && !sIn ((pNs c).take j) (fQ (pNs c) j)
def vw (c:Cod) (j:Nat):Bool:=lA (fQ (sNs c) j) && !sIn (pNs c++(sNs c).take j) (fQ (sNs c) j) && !ltB (jO c j) 1 && !ltB 64 (jO c j)
theorem qe {l:List ByteArray} {j:Nat} (h:j < l.length):l.take (j+1)=l.take j++[fQ l j]:=by
 unfold fQ
 rw [List.take_add_one,gde,aj h]; rfl
theorem nmP {c:Cod} {j:Nat} (h:j < c.params.length):fQ (pNs c) j=(c.params[j]'h).name:=by
 unfold fQ pNs
 rw [gde,aI,aj h]; rfl
theorem nmS {c:Cod} {j:Nat} (h:j < c.shared.length):fQ (sNs c) j=(c.shared[j]'h).name:=by
 unfold fQ sNs
 rw [gde,aI,aj h]; rfl
theorem szS {c:Cod} {j:Nat} (h:j < c.shared.length):jO c j=(c.shared[j]'h).size:=by
 unfold jO
 rw [aj h]
theorem HS {H K:AH} {c:Cod} {vp vs vi:AV} (h:dO H c vp vs vi) (hA:al H K) {j:Nat} (hj:j < c.shared.length):∃ i k,(∀ kk,aG aa 63 vs (.int kk (j:Int))=some (.ptr i k))/\(∀ L,ak (K++L) i k 1=some [.str (fQ (sNs c) j)])/\(∀ L,ak (K++L) i (k+1) 1=some [I (jO c j)])/\(∀ L,ak (K++L) i k 2=some [.str (fQ (sNs c) j),I (jO c j)]):=by
 obtain ⟨i,k,hi,hr⟩:=h.s.ix j (jS (c.shared[j]'hj)) (by rw [aI,aj hj]; rfl)
 rw [nmS hj,szS hj]
 exact ⟨i,k,hi,fun L=>A6 hr hA L rfl,fun L=>H6 hr hA L 1 rfl,fun L=>jB hr hA L⟩
theorem Ix {H K:AH} {c:Cod} {vp vs vi:AV} (h:dO H c vp vs vi) (hA:al H K) {j:Nat} (hj:j < c.params.length):∃ i k b,(∀ kk,aG aa 62 vp (.int kk (j:Int))=some (.ptr i k))/\(∀ L,ak (K++L) i k 1=some [.str (fQ (pNs c) j)])/\(∀ L,ak (K++L) i k 2=some [.str (fQ (pNs c) j),.bool b]):=by
 obtain ⟨i,k,hi,hr⟩:=h.p.ix j (iO (c.params[j]'hj)) (by rw [aI,aj hj]; rfl)
 rw [nmP hj]
 exact ⟨i,k,_,hi,fun L=>A6 hr hA L rfl,fun L=>jB hr hA L⟩
theorem RV {H:AH} {c:Cod} {vp vs vi:AV} (h:dO H c vp vs vi) {j:Nat} (hj:j < c.params.length):(fQ (pNs c) j).size < 2 ^ 60:=by rw [nmP hj]; exact h.pn _ (gC _)
theorem RU {H:AH} {c:Cod} {vp vs vi:AV} (h:dO H c vp vs vi) {j:Nat} (hj:j < c.shared.length):(fQ (sNs c) j).size < 2 ^ 60:=by rw [nmS hj]; exact h.sn _ (gC _)
theorem kJ (c:Cod):(pNs c).length=c.params.length:=by unfold pNs; rw [au]
theorem sy (c:Cod):(sNs c).length=c.shared.length:=by unfold sNs; rw [au]
theorem O0 {G:AH} {c:Cod} {vp vs vi:AV} {q:Nat} (h:dO G c vp vs vi) {m:Nat} (hm:G.length<=m) (hN:c.params.length < 2 ^ 60):∀ (d j:Nat) (tm:List AV) (K:AH),c.params.length - j=d->j<=c.params.length->al G K->tm.length=87->K[m]? =some (.map (mr ((pNs c).take j)) ((pNs c).take j).length)->tm.getD 1 uA=.ptr q 0->tm.getD 3 uA=.map m->tm.getD 36 uA=vp->tm.getD 37 uA=I c.params.length->tm.getD 38 uA=I ((j:Nat):Int) ->
   ∃ X Y K1 K2,EvC aa C0 W0 plN Ju (tm,K)=br (bA (fun j=>vA c j) (c.params.length) (j)) (some (.exit 0,(X,K1))) (some (.ret,(Y,K2)))/\(X.length=87/\al G K1/\(bA (fun j=>vA c j) (c.params.length) (j)=true->K1[m]? =some (.map (mr ((pNs c).take c.params.length)) ((pNs c).take c.params.length).length))/\X.getD 1 uA=.ptr q 0/\X.getD 3 uA=.map m/\X.getD 36 uA=vp/\X.getD 37 uA=I c.params.length)/\Y.length=87/\Y.getD 2 uA=.bool false:=by
 intro d
 induction d with
 | zero =>
   intro j tm K hd hj hA hlen hI h1 h3 h36 h37 h38
   have hjl:j=c.params.length:=by omega
   subst hjl
   have hlt:ltB (((c.params.length:Nat)):Int) (c.params.length:Nat)=false:=db (by omega)
   rw [cN (ax _),K9]
   simp (maxSteps:=4000000) -implicitDefEqProofs only [zy,Tryz.f86,aP,hlen,h1,h3,h36,h37,h38,hlt,↓ao,an,eu,sevalprocAttr]
   exact ⟨_,tm.set 2 (.bool false),_,K,rfl,⟨by first | exact hlen | simp only [ar,hlen],hA,by first | exact hI | exact fun _=>hI,by first | exact h1 | simp only [hlen,h1,gB,sevalprocAttr],by first | exact h3 | simp only [hlen,h3,gB,sevalprocAttr],by first | exact h36 | simp only [hlen,h36,gB,sevalprocAttr],by first | exact h37 | simp only [hlen,h37,gB,sevalprocAttr]⟩,by simp only [ls,hlen],by simp only [hlen,dq,aM]⟩
 | succ d ih =>
   intro j tm K hd hj hA hlen hI h1 h3 h36 h37 h38
   have hjN:j < c.params.length:=by omega
   have hlt:ltB (j:Int) (c.params.length:Nat)=true:=cQ (by omega)
   have hw:=cD (j:=j) (by omega)
   have hnz:=RV h hjN
   obtain ⟨i,k,b,hix,hrd0,hrd2⟩:=Ix h hA hjN
   have hlk:=lkK hI (fQ (pNs c) j)
   have h104:=fun L=>KQ hnz L
   have hts:=qe (l:=pNs c) (j:=j) (by rw [kJ]; exact hjN)
   rw [ch hjN,K9]
   rw [<-af K]
   cases hp:(vA c j) with
   | true =>
     unfold vA at hp
     rw [aD,ba] at hp
     obtain ⟨hp1,hp2⟩:=hp
     have hmp:=mpK hI hp2
     simp only [aZ]
     simp (maxSteps:=4000000) -implicitDefEqProofs only [zy,Tryz.f86,aP,hlen,h1,h3,h36,h37,h38,hlt,hw,hix,hrd0,hrd2,hlk,↓mU,h104,z74,vu,iO,↓az,hp1,hp2,hmp,↓ao,an,eu,sevalprocAttr]
     exact ih (j+1) _ _ (by omega) (by omega) (by first | exact hA | exact hA.bS _ | exact (hA.bS _).bS _ | exact (hA.tN hm _).bS _) (by simp only [ls,hlen]) (by rw [hts]; first | exact vM hI _ _ | exact vM hI _ []) (by simp only [hlen,h1,gB,sevalprocAttr]) (by simp only [hlen,h3,gB,sevalprocAttr]) (by simp only [hlen,h36,gB,sevalprocAttr]) (by simp only [hlen,h37,gB,sevalprocAttr]) (by simp only [hlen,h38,gB,sevalprocAttr])
   | false =>
     simp only [bd]
     unfold vA at hp
     cases hp1:lA (fQ (pNs c) j) with
     | false =>
       simp (maxSteps:=4000000) -implicitDefEqProofs only [zy,Tryz.f86,aP,hlen,h1,h3,h36,h37,h38,hlt,hw,hix,hrd0,hrd2,hlk,↓mU,h104,z74,vu,iO,↓az,hp1,↓ao,an,eu,sevalprocAttr]
       exact ⟨tm,_,K,_,rfl,⟨hlen,hA,by first | exact trivial | (intro h; cases h),h1,h3,h36,h37⟩,by simp only [ls,hlen],by simp only [hlen,gB,sevalprocAttr]⟩
     | true =>
       rw [hp1,aZ,Bool.not_eq_false'] at hp
       simp (maxSteps:=4000000) -implicitDefEqProofs only [zy,Tryz.f86,aP,hlen,h1,h3,h36,h37,h38,hlt,hw,hix,hrd0,hrd2,hlk,↓mU,h104,z74,vu,iO,↓az,hp1,hp,↓ao,an,eu,sevalprocAttr]
       exact ⟨tm,_,K,_,rfl,⟨hlen,hA,by first | exact trivial | (intro h; cases h),h1,h3,h36,h37⟩,by simp only [ls,hlen],by simp only [hlen,gB,sevalprocAttr]⟩
theorem JZ {G:AH} {c:Cod} {vp vs vi:AV} {q:Nat} {tm:List AV} {K:AH} {Z:Option (bu × St)} (hX:EvC aa C0 W0 plN Ju (tm,K)=Z) (h:dO G c vp vs vi) {m:Nat} (hm:G.length<=m) (hN:c.params.length < 2 ^ 60) (hA:al G K) (hlen:tm.length=87) (hI:K[m]? =some (.map (mr ((pNs c).take 0)) ((pNs c).take 0).length)) (h1:tm.getD 1 uA=.ptr q 0) (h3:tm.getD 3 uA=.map m) (h36:tm.getD 36 uA=vp) (h37:tm.getD 37 uA=I c.params.length) (h38:tm.getD 38 uA=I ((0:Nat):Int)) :
   ∃ X Y K1 K2,Z=br (bA (fun j=>vA c j) (c.params.length) (0)) (some (.exit 0,(X,K1))) (some (.ret,(Y,K2)))/\(X.length=87/\al G K1/\(bA (fun j=>vA c j) (c.params.length) (0)=true->K1[m]? =some (.map (mr ((pNs c).take c.params.length)) ((pNs c).take c.params.length).length))/\X.getD 1 uA=.ptr q 0/\X.getD 3 uA=.map m/\X.getD 36 uA=vp/\X.getD 37 uA=I c.params.length)/\Y.length=87/\Y.getD 2 uA=.bool false:=by
 subst hX
 exact O0 h hm hN (c.params.length) 0 tm K (by omega) (by omega) hA hlen hI h1 h3 h36 h37 h38
theorem OZ {G:AH} {c:Cod} {vp vs vi:AV} (h:dO G c vp vs vi) {m:Nat} (hm:G.length<=m) (hN:c.shared.length < 2 ^ 60):∀ (d j:Nat) (tm:List AV) (K:AH),c.shared.length - j=d->j<=c.shared.length->al G K->tm.length=87->K[m]? =some (.map (mr (pNs c++(sNs c).take j)) (pNs c++(sNs c).take j).length)->tm.getD 3 uA=.map m->tm.getD 57 uA=vs->tm.getD 58 uA=I c.shared.length->tm.getD 59 uA=I ((j:Nat):Int) ->
   ∃ X Y K1 K2,EvC aa C0 W0 plN Jt (tm,K)=br (bA (fun j=>vw c j) (c.shared.length) (j)) (some (.exit 2,(X,K1))) (some (.ret,(Y,K2)))/\(X.length=87/\al G K1/\(bA (fun j=>vw c j) (c.shared.length) (j)=true->K1[m]? =some (.map (mr (pNs c++(sNs c).take c.shared.length)) (pNs c++(sNs c).take c.shared.length).length))/\X.getD 3 uA=.map m/\X.getD 57 uA=vs/\X.getD 58 uA=I c.shared.length)/\Y.length=87/\Y.getD 2 uA=.bool false:=by
 intro d
 induction d with
 | zero =>
   intro j tm K hd hj hA hlen hI h3 h57 h58 h59
   have hjl:j=c.shared.length:=by omega
   subst hjl
   have hlt:ltB (((c.shared.length:Nat)):Int) (c.shared.length:Nat)=false:=db (by omega)
   rw [cN (ax _),KZ]
   simp (maxSteps:=4000000) -implicitDefEqProofs only [vj,Tryz.f86,aP,hlen,h3,h57,h58,h59,hlt,↓ao,an,eu,sevalprocAttr]
   exact ⟨_,tm.set 2 (.bool false),_,K,rfl,⟨by first | exact hlen | simp only [ar,hlen],hA,by first | exact hI | exact fun _=>hI,by first | exact h3 | simp only [hlen,h3,gB,sevalprocAttr],by first | exact h57 | simp only [hlen,h57,gB,sevalprocAttr],by first | exact h58 | simp only [hlen,h58,gB,sevalprocAttr]⟩,by simp only [ls,hlen],by simp only [hlen,dq,aM]⟩
 | succ d ih =>
   intro j tm K hd hj hA hlen hI h3 h57 h58 h59
   have hjN:j < c.shared.length:=by omega
   have hlt:ltB (j:Int) (c.shared.length:Nat)=true:=cQ (by omega)
   have hw:=cD (j:=j) (by omega)
   have hnz:=RU h hjN
   obtain ⟨i,k,hix,hrd0,hrd1,hrd2⟩:=HS h hA hjN
   have hlk:=lkK hI (fQ (sNs c) j)
   have h104:=fun L=>KQ hnz L
   have hts:=qe (l:=sNs c) (j:=j) (by rw [sy]; exact hjN)
   rw [ch hjN,KZ]
   rw [<-af K]
   cases hp:(vw c j) with
   | true =>
     unfold vw at hp
     rw [aD,aD,aD,ba,ba,ba] at hp
     obtain ⟨⟨⟨hp1,hp2⟩,hp3⟩,hp4⟩:=hp
     have hmp:=mpK hI hp2
     simp only [aZ]
     simp (maxSteps:=4000000) -implicitDefEqProofs only [vj,Tryz.f86,aP,hlen,h3,h57,h58,h59,hlt,hw,hix,hrd0,hrd1,hrd2,hlk,↓mU,h104,z77,HO,jS,↓az,hp1,hp2,hp3,hp4,hmp,↓ao,an,eu,sevalprocAttr]
     exact ih (j+1) _ _ (by omega) (by omega) (by first | exact hA | exact hA.bS _ | exact (hA.bS _).bS _ | exact (hA.tN hm _).bS _) (by simp only [ls,hlen]) (by rw [hts,<-aE]; first | exact vM hI _ _ | exact vM hI _ []) (by simp only [hlen,h3,gB,sevalprocAttr]) (by simp only [hlen,h57,gB,sevalprocAttr]) (by simp only [hlen,h58,gB,sevalprocAttr]) (by simp only [hlen,h59,gB,sevalprocAttr])
   | false =>
     simp only [bd]
     unfold vw at hp
     cases hp1:lA (fQ (sNs c) j) with
     | false =>
       simp (maxSteps:=4000000) -implicitDefEqProofs only [vj,Tryz.f86,aP,hlen,h3,h57,h58,h59,hlt,hw,hix,hrd0,hrd1,hrd2,hlk,↓mU,h104,z77,HO,jS,↓az,hp1,↓ao,an,eu,sevalprocAttr]
       exact ⟨tm,_,K,_,rfl,⟨hlen,hA,by first | exact trivial | (intro h; cases h),h3,h57,h58⟩,by simp only [ls,hlen],by simp only [hlen,gB,sevalprocAttr]⟩
     | true =>
       cases hp2:sIn (pNs c++(sNs c).take j) (fQ (sNs c) j) with
       | true =>
         simp (maxSteps:=4000000) -implicitDefEqProofs only [vj,Tryz.f86,aP,hlen,h3,h57,h58,h59,hlt,hw,hix,hrd0,hrd1,hrd2,hlk,↓mU,h104,z77,HO,jS,↓az,hp1,hp2,↓ao,an,eu,sevalprocAttr]
         exact ⟨tm,_,K,_,rfl,⟨hlen,hA,by first | exact trivial | (intro h; cases h),h3,h57,h58⟩,by simp only [ls,hlen],by simp only [hlen,gB,sevalprocAttr]⟩
       | false =>
         cases hp3:ltB (jO c j) 1 with
         | true =>
           simp (maxSteps:=4000000) -implicitDefEqProofs only [vj,Tryz.f86,aP,hlen,h3,h57,h58,h59,hlt,hw,hix,hrd0,hrd1,hrd2,hlk,↓mU,h104,z77,HO,jS,↓az,hp1,hp2,hp3,↓ao,an,eu,sevalprocAttr]
           exact ⟨tm,_,K,_,rfl,⟨hlen,hA,by first | exact trivial | (intro h; cases h),h3,h57,h58⟩,by simp only [ls,hlen],by simp only [hlen,gB,sevalprocAttr]⟩
         | false =>
           rw [hp1,hp2,hp3] at hp
           have hp4:ltB 64 (jO c j)=true:=by simpa using hp
           simp (maxSteps:=4000000) -implicitDefEqProofs only [vj,Tryz.f86,aP,hlen,h3,h57,h58,h59,hlt,hw,hix,hrd0,hrd1,hrd2,hlk,↓mU,h104,z77,HO,jS,↓az,hp1,hp2,hp3,hp4,↓ao,an,eu,sevalprocAttr]
           exact ⟨tm,_,K,_,rfl,⟨hlen,hA,by first | exact trivial | (intro h; cases h),h3,h57,h58⟩,by simp only [ls,hlen],by simp only [hlen,gB,sevalprocAttr]⟩
theorem JY {G:AH} {c:Cod} {vp vs vi:AV} {tm:List AV} {K:AH} {Z:Option (bu × St)} (hX:EvC aa C0 W0 plN Jt (tm,K)=Z) (h:dO G c vp vs vi) {m:Nat} (hm:G.length<=m) (hN:c.shared.length < 2 ^ 60) (hA:al G K) (hlen:tm.length=87) (hI:K[m]? =some (.map (mr (pNs c++(sNs c).take 0)) (pNs c++(sNs c).take 0).length)) (h3:tm.getD 3 uA=.map m) (h57:tm.getD 57 uA=vs) (h58:tm.getD 58 uA=I c.shared.length) (h59:tm.getD 59 uA=I ((0:Nat):Int)) :
   ∃ X Y K1 K2,Z=br (bA (fun j=>vw c j) (c.shared.length) (0)) (some (.exit 2,(X,K1))) (some (.ret,(Y,K2)))/\(X.length=87/\al G K1/\(bA (fun j=>vw c j) (c.shared.length) (0)=true->K1[m]? =some (.map (mr (pNs c++(sNs c).take c.shared.length)) (pNs c++(sNs c).take c.shared.length).length))/\X.getD 3 uA=.map m/\X.getD 57 uA=vs/\X.getD 58 uA=I c.shared.length)/\Y.length=87/\Y.getD 2 uA=.bool false:=by
 subst hX
 exact OZ h hm hN (c.shared.length) 0 tm K (by omega) (by omega) hA hlen hI h3 h57 h58 h59
def y5 (c:Cod):Bool:=lA c.name && !ltB 6 (c.params.length:Int) && !ltB 4 (c.shared.length:Int) && !ltB c.loc 0 && !ltB 64 c.loc && bA (fun j=>vA c j) c.params.length 0 && bA (fun j=>vw c j) c.shared.length 0
theorem Tj {G K L:AH} {cs:List AV} {e:TypeId} (hA:al (G++[.cells cs e]) K) (k n:Nat):ak (K++L) G.length k n=if k+n<=cs.length then some ((cs.drop k).take n) else none:=by
 refine eQ (e:=e) (hA.get (i:=G.length) (o:=.cells cs e) ?_) L k n
 rw [aw (ax _),Nat.sub_self]; rfl
theorem ZV {H:AH} {c:Cod} {vp vs vi:AV} (h:dO H c vp vs vi):Ev aa C0 W0 86 [.agg (bF c vp vs vi)] H=some (.bool (y5 c),H):=by
 obtain ⟨tm,ht,g0,g1⟩:=tm1 (.agg (bF c vp vs vi)) 87 (by decide)
 rw [YE,ht]
 rw [<-af (ro H)]
 unfold y5
 have hlp:=h.ro.lp
 have hls:=h.ro.ls
 have h104:=fun L=>KQ h.nm L
 cases h0:lA c.name with
 | false=>simp (maxSteps:=4000000) -implicitDefEqProofs only [c86,Tryz.f86,aP,g0,g1,hlp,hls,↓mU,h104,r5,↓az,h0,↓ao,an,eu,sevalprocAttr]
 | true =>
   cases h1:ltB 6 (c.params.length:Int) with
   | true=>simp (maxSteps:=4000000) -implicitDefEqProofs only [c86,Tryz.f86,aP,g0,g1,hlp,hls,↓mU,h104,r5,↓az,h0,h1,↓ao,an,eu,sevalprocAttr]
   | false =>
     cases h2:ltB 4 (c.shared.length:Int) with
     | true=>simp (maxSteps:=4000000) -implicitDefEqProofs only [c86,Tryz.f86,aP,g0,g1,hlp,hls,↓mU,h104,r5,↓az,h0,h1,h2,↓ao,an,eu,sevalprocAttr]
     | false =>
       cases h3:ltB c.loc 0 with
       | true=>simp (maxSteps:=4000000) -implicitDefEqProofs only [c86,Tryz.f86,aP,g0,g1,hlp,hls,↓mU,h104,r5,↓az,h0,h1,h2,h3,↓ao,an,eu,sevalprocAttr]
       | false =>
         cases h4:ltB 64 c.loc with
         | true=>simp (maxSteps:=4000000) -implicitDefEqProofs only [c86,Tryz.f86,aP,g0,g1,hlp,hls,↓mU,h104,r5,↓az,h0,h1,h2,h3,h4,↓ao,an,eu,sevalprocAttr]
         | false =>
           simp (maxSteps:=4000000) -implicitDefEqProofs only [c86,Tryz.f86,aP,g0,g1,hlp,hls,↓mU,h104,r5,↓az,h0,h1,h2,h3,h4,↓ao,an,eu,sevalprocAttr]
           have hG:al (ro H++[bo.cells (bF c vp vs vi) 66]) (ro H++[bo.cells (bF c vp vs vi) 66,bo.map [] 0]):=by
             have:=al.app (ro H++[bo.cells (bF c vp vs vi) 66]) [bo.map [] 0]
             rwa [aE] at this
           have hR:=h.ro.aX (al.app (ro H) [bo.cells (bF c vp vs vi) 66])
           have hm:(ro H++[bo.cells (bF c vp vs vi) 66]).length<=(ro H).length+1:=by rw [ai]; exact ax _
           have hI0:(ro H++[bo.cells (bF c vp vs vi) 66,bo.map [] 0])[(ro H).length+1]? =some (.map (mr ((pNs c).take 0)) ((pNs c).take 0).length):=by
             rw [aw (Nat.le_add_right _ _),Nat.add_sub_cancel_left]; rfl
           generalize hX:EvC aa C0 W0 _ (Code.loop _) _=Z
           obtain ⟨X,Y,K1,K2,he,xs,y0,y1⟩:=JZ (q:=(ro H).length) hX hR hm (dB h.np (by decide)) (hG) (by simp only [ls,g0]) hI0 (by simp only [g0,gB,sevalprocAttr]; try rfl) (by simp only [g0,gB,sevalprocAttr]; try rfl) (by simp only [g0,gB,sevalprocAttr]; try rfl) (by simp only [g0,gB,sevalprocAttr]; try rfl) (by simp only [g0,gB,sevalprocAttr]; try rfl)
           subst he
           cases hf:bA (fun j=>vA c j) c.params.length 0 with
           | false=>simp (maxSteps:=4000000) -implicitDefEqProofs only [xs.1,y0,y1,hf,↓ao,an,eu,sevalprocAttr]
           | true =>
             have hI1:=xs.2.2.1 hf
             rw [List.take_of_length_le (by rw [kJ]; exact ax _)] at hI1
             have hb:=fun k n=>Tj (L:=[]) xs.2.1 k n
             simp only [af] at hb
             obtain ⟨x0,xA,xI,x1,x3,x4,x5⟩:=xs
             have hI2:K1[(ro H).length+1]? =some (.map (mr (pNs c++(sNs c).take 0)) (pNs c++(sNs c).take 0).length):=by rw [List.take_zero,af]; exact hI1
             simp (maxSteps:=4000000) -implicitDefEqProofs only [aP,hf,x0,x1,x3,hb,hls,r5,↓az,↓ao,an,eu,sevalprocAttr]
             generalize hX:EvC aa C0 W0 _ (Code.loop _) _=Z
             obtain ⟨X2,Y2,K3,K4,he,xs,z0,z1⟩:=JY  hX hR hm (dB h.ns (by decide)) (xA) (by simp only [ls,x0]) hI2 (by simp only [x0,x3,gB,sevalprocAttr]; try rfl) (by simp only [x0,gB,sevalprocAttr]; try rfl) (by simp only [x0,gB,sevalprocAttr]; try rfl) (by simp only [x0,gB,sevalprocAttr]; try rfl)
             subst he
             cases hf2:bA (fun j=>vw c j) c.shared.length 0 with
             | false=>simp (maxSteps:=4000000) -implicitDefEqProofs only [xs.1,z0,z1,hf2,↓ao,an,eu,sevalprocAttr]
             | true=>simp (maxSteps:=4000000) -implicitDefEqProofs only [xs.1,z0,z1,hf2,↓ao,an,eu,sevalprocAttr]
theorem Hx (H A:AH) (n:Nat) (L:AH) (cs vs:List AV) (e:TypeId) (hn:A.length=n) (hl:vs.length=cs.length) (ho:vs.all AV.one=true):bp (H++(A++.cells cs e::L)) (H.length+n) 0 vs=some (H++(A++.cells vs e::L)):=by
 subst hn
 rw [<-aE,<-aE,<-ai]
 exact MP (H++A) L cs vs e hl ho
theorem ZU {H:AH} {c:Cod} {vp vs vi:AV} (h:dO H c vp vs vi) {x:Ins} (hx:eD x.imm):Ev aa C0 W0 88 [.agg (bF c vp vs vi),.agg (ew x),.agg fZ] H=some (.bool (qP c x),H):=by
 obtain ⟨tm,ht,g0,g1,g2,g3⟩:=tm3 (.agg (bF c vp vs vi)) (.agg (ew x)) (.agg fZ) 93 (by decide)
 rw [YD,ht]
 rw [<-af (ro H)]
 obtain ⟨kind,op,d,a,b,imm,to,join⟩:=x
 unfold qP
 simp only at hx ⊢
 have hli:=h.ro.li
 have hib:=h.ni
 have hwi:IntKind.i64.wrap ((c.insns.length:Int)+1)=(c.insns.length:Int)+1:=qN (by omega)
 have h107:=fun L fd fa fb far ff fbr fl fp fw ft fj fo=>WN (h.ro.aX (al.app _ L)) fd fa fb far ff fbr fl fp fw ft fj fo hx
 simp only [bF] at h107
 cases h0:leB 0 kind with
 | false =>
   have h0':ltB kind 0=true:=by rw [dC]; rw [nL] at h0; exact h0
   simp (maxSteps:=4000000) -implicitDefEqProofs only [c88,Tryz.f88,aP,g0,g1,g2,g3,hli,r5,↓az,eP,eO,eM,eL,eK,eJ,eI,eH,eG,eF,dG,dF,h0',↓ao,an,eu,sevalprocAttr]
 | true =>
   have h0':ltB kind 0=false:=by rw [fe]; rw [dp] at h0; exact h0
   cases h1:ltB kind 16 with
   | false =>
     have h1':leB 16 kind=true:=by rw [dp]; rw [fe] at h1; exact h1
     simp (maxSteps:=4000000) -implicitDefEqProofs only [c88,Tryz.f88,aP,g0,g1,g2,g3,hli,r5,↓az,eP,eO,eM,eL,eK,eJ,eI,eH,eG,eF,dG,dF,h0',h1',↓ao,an,eu,sevalprocAttr]
   | true =>
     have h1':leB 16 kind=false:=by rw [nL]; rw [dC] at h1; exact h1
     rw [dp] at h0
     rw [dC] at h1
     obtain ⟨j,rfl⟩:∃ j:Nat,kind=j:=⟨kind.toNat,by omega⟩
     have hj:j < 16:=by omega
     have hjj:((0:Int)<=(j:Int)/\(j:Int) < 16)=True:=eq_true (by omega)
     have hkr:=fun A B L=>JP (ro H) L A B hj
     simp only [Rb] at hkr
     cases hF:Bz j with
     | true =>
       cases hf:rq op with
       | false=>simp (maxSteps:=4000000) -implicitDefEqProofs only [c88,Tryz.f88,aP,g0,g1,g2,g3,hli,r5,↓az,eP,eO,eM,eL,eK,eJ,eI,eH,eG,eF,dG,dF,h0',h1',hjj,hkr,mN,sg,mB,↓mT,mX,↓mS,mW,↓mR,h107,hwi,hF,hf,↓ao,an,eu,sevalprocAttr]
       | true =>
         cases hd:cP (kD j) d 16 with
         | false=>simp (maxSteps:=4000000) -implicitDefEqProofs only [c88,Tryz.f88,aP,g0,g1,g2,g3,hli,r5,↓az,eP,eO,eM,eL,eK,eJ,eI,eH,eG,eF,dG,dF,h0',h1',hjj,hkr,mN,sg,mB,↓mT,mX,↓mS,mW,↓mR,h107,hwi,hF,hf,hd,↓ao,an,eu,sevalprocAttr]
         | true =>
           cases ha:cP (kA j) a 16 with
           | false=>simp (maxSteps:=4000000) -implicitDefEqProofs only [c88,Tryz.f88,aP,g0,g1,g2,g3,hli,r5,↓az,eP,eO,eM,eL,eK,eJ,eI,eH,eG,eF,dG,dF,h0',h1',hjj,hkr,mN,sg,mB,↓mT,mX,↓mS,mW,↓mR,h107,hwi,hF,hf,hd,ha,↓ao,an,eu,sevalprocAttr]
           | true =>
             cases hb:cP (kB j) b 16 with
             | false=>simp (maxSteps:=4000000) -implicitDefEqProofs only [c88,Tryz.f88,aP,g0,g1,g2,g3,hli,r5,↓az,eP,eO,eM,eL,eK,eJ,eI,eH,eG,eF,dG,dF,h0',h1',hjj,hkr,mN,sg,mB,↓mT,mX,↓mS,mW,↓mR,h107,hwi,hF,hf,hd,ha,hb,↓ao,an,eu,sevalprocAttr]
             | true =>
               cases hi:Ae c (u6 j) (BB j) (Bw j) (BA j) (Bx j) imm with
               | false=>simp (maxSteps:=4000000) -implicitDefEqProofs only [c88,Tryz.f88,aP,g0,g1,g2,g3,hli,r5,↓az,eP,eO,eM,eL,eK,eJ,eI,eH,eG,eF,dG,dF,h0',h1',hjj,hkr,mN,sg,mB,↓mT,mX,↓mS,mW,↓mR,h107,hwi,hF,hf,hd,ha,hb,hi,↓ao,an,eu,sevalprocAttr]
               | true =>
                 cases ht:cP (kTo j) to c.insns.length with
                 | false=>simp (maxSteps:=4000000) -implicitDefEqProofs only [c88,Tryz.f88,aP,g0,g1,g2,g3,hli,r5,↓az,eP,eO,eM,eL,eK,eJ,eI,eH,eG,eF,dG,dF,h0',h1',hjj,hkr,mN,sg,mB,↓mT,mX,↓mS,mW,↓mR,h107,hwi,hF,hf,hd,ha,hb,hi,ht,↓ao,an,eu,sevalprocAttr]
                 | true =>
                   simp (maxSteps:=4000000) -implicitDefEqProofs only [c88,Tryz.f88,aP,g0,g1,g2,g3,hli,r5,↓az,eP,eO,eM,eL,eK,eJ,eI,eH,eG,eF,dG,dF,h0',h1',hjj,hkr,mN,sg,mB,↓mT,mX,↓mS,mW,↓mR,h107,hwi,hF,hf,hd,ha,hb,hi,ht,↓ao,an,eu,sevalprocAttr]
     | false =>
       cases hf:cP (ltB 0 (Ab j)) op (Ab j) with
       | false=>simp (maxSteps:=4000000) -implicitDefEqProofs only [c88,Tryz.f88,aP,g0,g1,g2,g3,hli,r5,↓az,eP,eO,eM,eL,eK,eJ,eI,eH,eG,eF,dG,dF,h0',h1',hjj,hkr,mN,sg,mB,↓mT,mX,↓mS,mW,↓mR,h107,hwi,hF,hf,↓ao,an,eu,sevalprocAttr]
       | true =>
         cases hd:cP (kD j) d 16 with
         | false=>simp (maxSteps:=4000000) -implicitDefEqProofs only [c88,Tryz.f88,aP,g0,g1,g2,g3,hli,r5,↓az,eP,eO,eM,eL,eK,eJ,eI,eH,eG,eF,dG,dF,h0',h1',hjj,hkr,mN,sg,mB,↓mT,mX,↓mS,mW,↓mR,h107,hwi,hF,hf,hd,↓ao,an,eu,sevalprocAttr]
         | true =>
           cases ha:cP (kA j) a 16 with
           | false=>simp (maxSteps:=4000000) -implicitDefEqProofs only [c88,Tryz.f88,aP,g0,g1,g2,g3,hli,r5,↓az,eP,eO,eM,eL,eK,eJ,eI,eH,eG,eF,dG,dF,h0',h1',hjj,hkr,mN,sg,mB,↓mT,mX,↓mS,mW,↓mR,h107,hwi,hF,hf,hd,ha,↓ao,an,eu,sevalprocAttr]
           | true =>
             cases hb:cP (kB j) b 16 with
             | false=>simp (maxSteps:=4000000) -implicitDefEqProofs only [c88,Tryz.f88,aP,g0,g1,g2,g3,hli,r5,↓az,eP,eO,eM,eL,eK,eJ,eI,eH,eG,eF,dG,dF,h0',h1',hjj,hkr,mN,sg,mB,↓mT,mX,↓mS,mW,↓mR,h107,hwi,hF,hf,hd,ha,hb,↓ao,an,eu,sevalprocAttr]
             | true =>
               cases hi:Ae c (u6 j) (BB j) (Bw j) (BA j) (Bx j) imm with
               | false=>simp (maxSteps:=4000000) -implicitDefEqProofs only [c88,Tryz.f88,aP,g0,g1,g2,g3,hli,r5,↓az,eP,eO,eM,eL,eK,eJ,eI,eH,eG,eF,dG,dF,h0',h1',hjj,hkr,mN,sg,mB,↓mT,mX,↓mS,mW,↓mR,h107,hwi,hF,hf,hd,ha,hb,hi,↓ao,an,eu,sevalprocAttr]
               | true =>
                 cases ht:cP (kTo j) to c.insns.length with
                 | false=>simp (maxSteps:=4000000) -implicitDefEqProofs only [c88,Tryz.f88,aP,g0,g1,g2,g3,hli,r5,↓az,eP,eO,eM,eL,eK,eJ,eI,eH,eG,eF,dG,dF,h0',h1',hjj,hkr,mN,sg,mB,↓mT,mX,↓mS,mW,↓mR,h107,hwi,hF,hf,hd,ha,hb,hi,ht,↓ao,an,eu,sevalprocAttr]
                 | true =>
                   simp (maxSteps:=4000000) -implicitDefEqProofs only [c88,Tryz.f88,aP,g0,g1,g2,g3,hli,r5,↓az,eP,eO,eM,eL,eK,eJ,eI,eH,eG,eF,dG,dF,h0',h1',hjj,hkr,mN,sg,mB,↓mT,mX,↓mS,mW,↓mR,h107,hwi,hF,hf,hd,ha,hb,hi,ht,↓ao,an,eu,sevalprocAttr]
def opP (k op:Int):Bool:=br (Bz k) (rq op) (cP (ltB 0 (Ab k)) op (Ab k))
theorem Wo {k:Int} (h0:0<=k) (h1:k < 16) (op d a b imm to join:Int) (H:AH):Ev aa C0 W0 99 [.agg (ew (⟨k,op,d,a,b,imm,to,join⟩:Ins))] H=some (.bool (opP k op),H):=by
 refine Ax (p:=fun k=>Ev aa C0 W0 99 [.agg (ew (⟨k,op,d,a,b,imm,to,join⟩:Ins))] H=some (.bool (opP k op),H)) h0 h1 ?_ ?_ ?_ ?_ ?_ ?_ ?_ ?_ ?_ ?_ ?_ ?_ ?_ ?_ ?_ ?_
 · obtain ⟨tm,ht,g0,g1⟩:=tm1 (.agg (ew (⟨0,op,d,a,b,imm,to,join⟩:Ins))) 44 (by decide)
   rw [qQ,ht]
   rw [<-af (ro H)]
   simp (maxSteps:=4000000) -implicitDefEqProofs only [c99,Tryz.f99,aP,g0,g1,r5,↓az,eqQ,↓lD,lE,↓ao,an,eu,sevalprocAttr]
   first | done | rfl
 · obtain ⟨tm,ht,g0,g1⟩:=tm1 (.agg (ew (⟨1,op,d,a,b,imm,to,join⟩:Ins))) 44 (by decide)
   rw [qQ,ht]
   rw [<-af (ro H)]
   simp (maxSteps:=4000000) -implicitDefEqProofs only [c99,Tryz.f99,aP,g0,g1,r5,↓az,eqQ,↓lD,lE,↓ao,an,eu,sevalprocAttr]
   first | done | rfl
 · obtain ⟨tm,ht,g0,g1⟩:=tm1 (.agg (ew (⟨2,op,d,a,b,imm,to,join⟩:Ins))) 44 (by decide)
   rw [qQ,ht]
   rw [<-af (ro H)]
   cases hq:leB 0 op <;> simp (maxSteps:=4000000) -implicitDefEqProofs only [c99,Tryz.f99,aP,g0,g1,r5,↓az,eqQ,hq,↓lD,lE,↓ao,an,eu,sevalprocAttr] <;> (show _=some (AV.bool (leB 0 op && _),H); rw [hq]; rfl)
 · obtain ⟨tm,ht,g0,g1⟩:=tm1 (.agg (ew (⟨3,op,d,a,b,imm,to,join⟩:Ins))) 44 (by decide)
   rw [qQ,ht]
   rw [<-af (ro H)]
   cases hq:leB 0 op <;> simp (maxSteps:=4000000) -implicitDefEqProofs only [c99,Tryz.f99,aP,g0,g1,r5,↓az,eqQ,hq,↓lD,lE,↓ao,an,eu,sevalprocAttr] <;> (show _=some (AV.bool (leB 0 op && _),H); rw [hq]; rfl)
 · obtain ⟨tm,ht,g0,g1⟩:=tm1 (.agg (ew (⟨4,op,d,a,b,imm,to,join⟩:Ins))) 44 (by decide)
   rw [qQ,ht]
   rw [<-af (ro H)]
   cases hq:leB 0 op <;> simp (maxSteps:=4000000) -implicitDefEqProofs only [c99,Tryz.f99,aP,g0,g1,r5,↓az,eqQ,hq,↓lD,lE,↓ao,an,eu,sevalprocAttr] <;> (show _=some (AV.bool (leB 0 op && _),H); rw [hq]; rfl)
 · obtain ⟨tm,ht,g0,g1⟩:=tm1 (.agg (ew (⟨5,op,d,a,b,imm,to,join⟩:Ins))) 44 (by decide)
   rw [qQ,ht]
   rw [<-af (ro H)]
   simp (maxSteps:=4000000) -implicitDefEqProofs only [c99,Tryz.f99,aP,g0,g1,r5,↓az,eqQ,↓lD,lE,↓ao,an,eu,sevalprocAttr]
   first | done | rfl
 · obtain ⟨tm,ht,g0,g1⟩:=tm1 (.agg (ew (⟨6,op,d,a,b,imm,to,join⟩:Ins))) 44 (by decide)
   rw [qQ,ht]
   rw [<-af (ro H)]
   simp (maxSteps:=4000000) -implicitDefEqProofs only [c99,Tryz.f99,aP,g0,g1,r5,↓az,eqQ,↓lD,lE,↓ao,an,eu,sevalprocAttr]
   first | done | rfl
 · obtain ⟨tm,ht,g0,g1⟩:=tm1 (.agg (ew (⟨7,op,d,a,b,imm,to,join⟩:Ins))) 44 (by decide)
   rw [qQ,ht]
   rw [<-af (ro H)]
   simp (maxSteps:=4000000) -implicitDefEqProofs only [c99,Tryz.f99,aP,g0,g1,r5,↓az,eqQ,↓lD,lE,↓ao,an,eu,sevalprocAttr]
   first | done | rfl
 · obtain ⟨tm,ht,g0,g1⟩:=tm1 (.agg (ew (⟨8,op,d,a,b,imm,to,join⟩:Ins))) 44 (by decide)
   rw [qQ,ht]
   rw [<-af (ro H)]
   simp (maxSteps:=4000000) -implicitDefEqProofs only [c99,Tryz.f99,aP,g0,g1,r5,↓az,eqQ,↓lD,lE,↓ao,an,eu,sevalprocAttr]
   first | done | rfl
 · obtain ⟨tm,ht,g0,g1⟩:=tm1 (.agg (ew (⟨9,op,d,a,b,imm,to,join⟩:Ins))) 44 (by decide)
   rw [qQ,ht]
   rw [<-af (ro H)]
   simp (maxSteps:=4000000) -implicitDefEqProofs only [c99,Tryz.f99,aP,g0,g1,r5,↓az,eqQ,↓lD,lE,↓ao,an,eu,sevalprocAttr]
   first | done | rfl
 · obtain ⟨tm,ht,g0,g1⟩:=tm1 (.agg (ew (⟨10,op,d,a,b,imm,to,join⟩:Ins))) 44 (by decide)
   rw [qQ,ht]
   rw [<-af (ro H)]
   simp (maxSteps:=4000000) -implicitDefEqProofs only [c99,Tryz.f99,aP,g0,g1,r5,↓az,eqQ,↓lD,lE,↓ao,an,eu,sevalprocAttr]
   first | done | rfl
 · obtain ⟨tm,ht,g0,g1⟩:=tm1 (.agg (ew (⟨11,op,d,a,b,imm,to,join⟩:Ins))) 44 (by decide)
   rw [qQ,ht]
   rw [<-af (ro H)]
   simp (maxSteps:=4000000) -implicitDefEqProofs only [c99,Tryz.f99,aP,g0,g1,r5,↓az,eqQ,↓lD,lE,↓ao,an,eu,sevalprocAttr]
   first | done | rfl
 · obtain ⟨tm,ht,g0,g1⟩:=tm1 (.agg (ew (⟨12,op,d,a,b,imm,to,join⟩:Ins))) 44 (by decide)
   rw [qQ,ht]
   rw [<-af (ro H)]
   simp (maxSteps:=4000000) -implicitDefEqProofs only [c99,Tryz.f99,aP,g0,g1,r5,↓az,eqQ,↓lD,lE,↓ao,an,eu,sevalprocAttr]
   first | done | rfl
 · obtain ⟨tm,ht,g0,g1⟩:=tm1 (.agg (ew (⟨13,op,d,a,b,imm,to,join⟩:Ins))) 44 (by decide)
   rw [qQ,ht]
   rw [<-af (ro H)]
   simp (maxSteps:=4000000) -implicitDefEqProofs only [c99,Tryz.f99,aP,g0,g1,r5,↓az,eqQ,↓lD,lE,↓ao,an,eu,sevalprocAttr]
   first | done | rfl
 · obtain ⟨tm,ht,g0,g1⟩:=tm1 (.agg (ew (⟨14,op,d,a,b,imm,to,join⟩:Ins))) 44 (by decide)
   rw [qQ,ht]
   rw [<-af (ro H)]
   simp (maxSteps:=4000000) -implicitDefEqProofs only [c99,Tryz.f99,aP,g0,g1,r5,↓az,eqQ,↓lD,lE,↓ao,an,eu,sevalprocAttr]
   first | done | rfl
 · obtain ⟨tm,ht,g0,g1⟩:=tm1 (.agg (ew (⟨15,op,d,a,b,imm,to,join⟩:Ins))) 44 (by decide)
   rw [qQ,ht]
   rw [<-af (ro H)]
   simp (maxSteps:=4000000) -implicitDefEqProofs only [c99,Tryz.f99,aP,g0,g1,r5,↓az,eqQ,↓lD,lE,↓ao,an,eu,sevalprocAttr]
   first | done | rfl
theorem ZP {x:Ins} (h0:0<=x.kind) (h1:x.kind < 16) (H:AH):Ev aa C0 W0 99 [.agg (ew x)] H=some (.bool (opP x.kind x.op),H):=by
 obtain ⟨k,op,d,a,b,imm,to,join⟩:=x
 exact Wo h0 h1 op d a b imm to join H
theorem SI {H:AH} {c:Cod} {vp vs vi:AV} (h:dO H c vp vs vi) {k:Int} (h0:0<=k) (h1:k < 16) (op d a b:Int) {imm:Int} (hn:eD imm) (to join:Int):Ev aa C0 W0 100 [.agg (bF c vp vs vi),.agg (ew (⟨k,op,d,a,b,imm,to,join⟩:Ins))] H=some (.bool (Ae c (u6 k) (BB k) (Bw k) (BA k) (Bx k) imm),H):=by
 have hn':=hn
 obtain ⟨n0,n1⟩:=hn
 have hlp:=h.ro.lp
 have hls:=h.ro.ls
 have hwn:IntKind.i64.wrap imm=imm:=qN (by omega)
 have h123:=fun L=>WJ (h.ro.aX (al.app _ L)) hn'
 simp only [bF] at h123
 refine Ax (p:=fun k=>Ev aa C0 W0 100 [.agg (bF c vp vs vi),.agg (ew (⟨k,op,d,a,b,imm,to,join⟩:Ins))] H=some (.bool (Ae c (u6 k) (BB k) (Bw k) (BA k) (Bx k) imm),H)) h0 h1 ?_ ?_ ?_ ?_ ?_ ?_ ?_ ?_ ?_ ?_ ?_ ?_ ?_ ?_ ?_ ?_
 · obtain ⟨tm,ht,g0,g1,g2⟩:=tm2 (.agg (bF c vp vs vi)) (.agg (ew (⟨0,op,d,a,b,imm,to,join⟩:Ins))) 69 (by decide)
   rw [lC,ht]
   rw [<-af (ro H)]
   simp (maxSteps:=4000000) -implicitDefEqProofs only [oN,Tryz.f100,aP,g0,g1,g2,r5,↓az,eqQ,hlp,hls,hwn,↓km,h123,↓ao,an,eu,sevalprocAttr]
   first | rfl | done
 · obtain ⟨tm,ht,g0,g1,g2⟩:=tm2 (.agg (bF c vp vs vi)) (.agg (ew (⟨1,op,d,a,b,imm,to,join⟩:Ins))) 69 (by decide)
   rw [lC,ht]
   rw [<-af (ro H)]
   simp (maxSteps:=4000000) -implicitDefEqProofs only [oN,Tryz.f100,aP,g0,g1,g2,r5,↓az,eqQ,hlp,hls,hwn,↓km,h123,↓ao,an,eu,sevalprocAttr]
   first | rfl | done
 · obtain ⟨tm,ht,g0,g1,g2⟩:=tm2 (.agg (bF c vp vs vi)) (.agg (ew (⟨2,op,d,a,b,imm,to,join⟩:Ins))) 69 (by decide)
   rw [lC,ht]
   rw [<-af (ro H)]
   simp (maxSteps:=4000000) -implicitDefEqProofs only [oN,Tryz.f100,aP,g0,g1,g2,r5,↓az,eqQ,hlp,hls,hwn,↓km,h123,↓ao,an,eu,sevalprocAttr]
   first | rfl | done
 · obtain ⟨tm,ht,g0,g1,g2⟩:=tm2 (.agg (bF c vp vs vi)) (.agg (ew (⟨3,op,d,a,b,imm,to,join⟩:Ins))) 69 (by decide)
   rw [lC,ht]
   rw [<-af (ro H)]
   simp (maxSteps:=4000000) -implicitDefEqProofs only [oN,Tryz.f100,aP,g0,g1,g2,r5,↓az,eqQ,hlp,hls,hwn,↓km,h123,↓ao,an,eu,sevalprocAttr]
   first | rfl | done
 · obtain ⟨tm,ht,g0,g1,g2⟩:=tm2 (.agg (bF c vp vs vi)) (.agg (ew (⟨4,op,d,a,b,imm,to,join⟩:Ins))) 69 (by decide)
   rw [lC,ht]
   rw [<-af (ro H)]
   simp (maxSteps:=4000000) -implicitDefEqProofs only [oN,Tryz.f100,aP,g0,g1,g2,r5,↓az,eqQ,hlp,hls,hwn,↓km,h123,↓ao,an,eu,sevalprocAttr]
   first | rfl | done
 · obtain ⟨tm,ht,g0,g1,g2⟩:=tm2 (.agg (bF c vp vs vi)) (.agg (ew (⟨5,op,d,a,b,imm,to,join⟩:Ins))) 69 (by decide)
   rw [lC,ht]
   rw [<-af (ro H)]
   cases h0:leB 0 imm with
   | false =>
     simp (maxSteps:=4000000) -implicitDefEqProofs only [oN,Tryz.f100,aP,g0,g1,g2,r5,↓az,eqQ,hlp,hls,hwn,↓km,h123,h0,↓ao,an,eu,sevalprocAttr]
     show _=some (AV.bool (leB 0 imm && _ && _),H)
     rw [h0]
     rfl
   | true =>
     cases hl:ltB imm c.params.length with
     | false =>
       simp (maxSteps:=4000000) -implicitDefEqProofs only [oN,Tryz.f100,aP,g0,g1,g2,r5,↓az,eqQ,hlp,hls,hwn,↓km,h123,h0,hl,↓ao,an,eu,sevalprocAttr]
       show _=some (AV.bool (leB 0 imm && ltB imm c.params.length && _),H)
       rw [h0,hl]
       rfl
     | true =>
       rw [dp] at h0
       obtain ⟨j,rfl⟩:∃ j:Nat,imm=j:=⟨imm.toNat,by omega⟩
       have hj:j < c.params.length:=by have:=(dC _ _).1 hl; omega
       obtain ⟨i,kk,hi,hr0,hr1,hr2,hb⟩:=wT h.ro (al.refl _) hj
       have h0':leB 0 (j:Int)=true:=yQ (by omega)
       simp (maxSteps:=4000000) -implicitDefEqProofs only [oN,Tryz.f100,aP,g0,g1,g2,r5,↓az,eqQ,hlp,hls,hwn,↓km,h123,h0',hl,hi,hr1,↓ao,an,eu,sevalprocAttr]
       show _=some (AV.bool (leB 0 (j:Int) && ltB (j:Int) c.params.length && !iU c j),H)
       rw [h0',hl,hb]
       rfl
 · obtain ⟨tm,ht,g0,g1,g2⟩:=tm2 (.agg (bF c vp vs vi)) (.agg (ew (⟨6,op,d,a,b,imm,to,join⟩:Ins))) 69 (by decide)
   rw [lC,ht]
   rw [<-af (ro H)]
   simp (maxSteps:=4000000) -implicitDefEqProofs only [oN,Tryz.f100,aP,g0,g1,g2,r5,↓az,eqQ,hlp,hls,hwn,↓km,h123,↓ao,an,eu,sevalprocAttr]
   rfl
 · obtain ⟨tm,ht,g0,g1,g2⟩:=tm2 (.agg (bF c vp vs vi)) (.agg (ew (⟨7,op,d,a,b,imm,to,join⟩:Ins))) 69 (by decide)
   rw [lC,ht]
   rw [<-af (ro H)]
   simp (maxSteps:=4000000) -implicitDefEqProofs only [oN,Tryz.f100,aP,g0,g1,g2,r5,↓az,eqQ,hlp,hls,hwn,↓km,h123,↓ao,an,eu,sevalprocAttr]
   rfl
 · obtain ⟨tm,ht,g0,g1,g2⟩:=tm2 (.agg (bF c vp vs vi)) (.agg (ew (⟨8,op,d,a,b,imm,to,join⟩:Ins))) 69 (by decide)
   rw [lC,ht]
   rw [<-af (ro H)]
   simp (maxSteps:=4000000) -implicitDefEqProofs only [oN,Tryz.f100,aP,g0,g1,g2,r5,↓az,eqQ,hlp,hls,hwn,↓km,h123,↓ao,an,eu,sevalprocAttr]
   rfl
 · obtain ⟨tm,ht,g0,g1,g2⟩:=tm2 (.agg (bF c vp vs vi)) (.agg (ew (⟨9,op,d,a,b,imm,to,join⟩:Ins))) 69 (by decide)
   rw [lC,ht]
   rw [<-af (ro H)]
   cases h0:leB 0 imm <;> simp (maxSteps:=4000000) -implicitDefEqProofs only [oN,Tryz.f100,aP,g0,g1,g2,r5,↓az,eqQ,hlp,hls,hwn,↓km,h123,h0,↓ao,an,eu,sevalprocAttr] <;> first | rfl | (show _=some (AV.bool (leB 0 imm && _),H); rw [h0]; rfl)
 · obtain ⟨tm,ht,g0,g1,g2⟩:=tm2 (.agg (bF c vp vs vi)) (.agg (ew (⟨10,op,d,a,b,imm,to,join⟩:Ins))) 69 (by decide)
   rw [lC,ht]
   rw [<-af (ro H)]
   cases h0:leB 0 imm <;> simp (maxSteps:=4000000) -implicitDefEqProofs only [oN,Tryz.f100,aP,g0,g1,g2,r5,↓az,eqQ,hlp,hls,hwn,↓km,h123,h0,↓ao,an,eu,sevalprocAttr] <;> first | rfl | (show _=some (AV.bool (leB 0 imm && _),H); rw [h0]; rfl)
 · obtain ⟨tm,ht,g0,g1,g2⟩:=tm2 (.agg (bF c vp vs vi)) (.agg (ew (⟨11,op,d,a,b,imm,to,join⟩:Ins))) 69 (by decide)
   rw [lC,ht]
   rw [<-af (ro H)]
   cases h0:leB 0 imm <;> simp (maxSteps:=4000000) -implicitDefEqProofs only [oN,Tryz.f100,aP,g0,g1,g2,r5,↓az,eqQ,hlp,hls,hwn,↓km,h123,h0,↓ao,an,eu,sevalprocAttr] <;> first | rfl | (show _=some (AV.bool (leB 0 imm && _),H); rw [h0]; rfl)
 · obtain ⟨tm,ht,g0,g1,g2⟩:=tm2 (.agg (bF c vp vs vi)) (.agg (ew (⟨12,op,d,a,b,imm,to,join⟩:Ins))) 69 (by decide)
   rw [lC,ht]
   rw [<-af (ro H)]
   cases h0:leB 0 imm <;> simp (maxSteps:=4000000) -implicitDefEqProofs only [oN,Tryz.f100,aP,g0,g1,g2,r5,↓az,eqQ,hlp,hls,hwn,↓km,h123,h0,↓ao,an,eu,sevalprocAttr] <;> first | rfl | (show _=some (AV.bool (leB 0 imm && _),H); rw [h0]; rfl)
 · obtain ⟨tm,ht,g0,g1,g2⟩:=tm2 (.agg (bF c vp vs vi)) (.agg (ew (⟨13,op,d,a,b,imm,to,join⟩:Ins))) 69 (by decide)
   rw [lC,ht]
   rw [<-af (ro H)]
   simp (maxSteps:=4000000) -implicitDefEqProofs only [oN,Tryz.f100,aP,g0,g1,g2,r5,↓az,eqQ,hlp,hls,hwn,↓km,h123,↓ao,an,eu,sevalprocAttr]
   first | rfl | done
 · obtain ⟨tm,ht,g0,g1,g2⟩:=tm2 (.agg (bF c vp vs vi)) (.agg (ew (⟨14,op,d,a,b,imm,to,join⟩:Ins))) 69 (by decide)
   rw [lC,ht]
   rw [<-af (ro H)]
   simp (maxSteps:=4000000) -implicitDefEqProofs only [oN,Tryz.f100,aP,g0,g1,g2,r5,↓az,eqQ,hlp,hls,hwn,↓km,h123,↓ao,an,eu,sevalprocAttr]
   first | rfl | done
 · obtain ⟨tm,ht,g0,g1,g2⟩:=tm2 (.agg (bF c vp vs vi)) (.agg (ew (⟨15,op,d,a,b,imm,to,join⟩:Ins))) 69 (by decide)
   rw [lC,ht]
   rw [<-af (ro H)]
   simp (maxSteps:=4000000) -implicitDefEqProofs only [oN,Tryz.f100,aP,g0,g1,g2,r5,↓az,eqQ,hlp,hls,hwn,↓km,h123,↓ao,an,eu,sevalprocAttr]
   first | rfl | done
end Go.Dv
