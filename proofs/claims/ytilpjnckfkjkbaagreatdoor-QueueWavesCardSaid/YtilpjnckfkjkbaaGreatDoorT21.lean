/- Part 21 of the walks (own work). -/
import Derived.Test.YtilpjnckfkjkbaaGreatDoorT20
open Bool renaming and_eq_true→aC,eq_iff_iff→fM,false_and→bc,not_eq_true→lD,not_eq_true'→bj,true_and→bd
open List renaming append_assoc→aG,append_nil→af,getElem?_append_left→aw,getElem?_append_right→al,getElem?_eq_getElem→aj,getElem?_map→aM,getElem?_take_of_lt→Au,length_append→ai,length_map→ar,length_set→aq,length_take→d4,mem_iff_getElem?→qk,mem_map→bL,take_of_length_le→bq
open Nat renaming add_sub_cancel_left→aS,le_add_right→du,le_refl→ax,lt_of_lt_of_le→bu,mul_one→dz,reduceLT→aQ,sub_self→dR
open Option renaming map_eq_some_iff→ah
open Option.some renaming inj→aE
open Go.Proofs.Tryz renaming prog→aa
set_option maxRecDepth 100000
set_option maxHeartbeats 4000000
set_option linter.unusedSimpArgs false
set_option linter.unusedVariables false
namespace Go.Dv
open Go.Proofs
attribute [local congr] aF bC aY bB bD
theorem Vh (s:ByteArray) (H:AH):bk aa none 164 1 [(0,.str s)] H=some (.slice H.length 0 1 1 1 true,H++[.cells [.str s] 9]):=by kernel_rfl
theorem Ga (s:ByteArray) (H L:AH):bk aa none 164 1 [(0,.str s)] (H++L)=some (.slice (H.length+L.length) 0 1 1 1 true,H++(L++[.cells [.str s] 9])):=by rw [Vh,ai,aG]
theorem Own.ge {b:Nat} {H:AH} {es:Nat} {elem:TypeId} {v:AV} {xs:List AV} (h:Own b H es elem v xs) {i k e len cap:Nat} {ex:Bool} (hv:v=.slice i k e len cap ex):b<=i/\i < H.length:=by
 cases h with
 | nil=>cases hv
 | «at» i2 k2 len2 cap2 ex2 cs2 xs2 hb2 hi2 hl2 hc2 h2=>cases hv; exact ⟨hb2,aJ hi2⟩
theorem Z1:pj aa 164 (some 164) 9 1:=⟨by kernel_rfl,⟨.str eS,by kernel_rfl,by kernel_rfl,by simp [AV.cells]⟩,by kernel_rfl,by kernel_rfl⟩
theorem by9:aa.bytesOf 9=16:=by kernel_rfl
theorem GF {G K:AH} {v:AV} {l:List ByteArray} (hA:au G K) (ho:Own G.length K 1 9 v (l.map .str)) (hl:l.length < 2 ^ 30) (s:ByteArray) :
   ∃ v' K',f0 aa none 164 (some 164) v (.slice K.length 0 1 1 1 true) (K++[.cells [.str s] 9])=some (v',K')/\au G K'/\Own G.length K' 1 9 v' ((l++[s]).map .str):=by
 have hlen:=ho.length
 rw [ar,dz] at hlen
 have ho':Own G.length (K++[.cells [.str s] 9]) 1 9 v (l.map .str):=ho.other fun i k es len cap ex e=>aw (ho.ge e).2
 have hrow:Row (K++[.cells [.str s] 9]) 1 (.slice K.length 0 1 1 1 true) [.str s]:=.at _ _ _ _ _ _ (by rw [gu]; rfl)
 obtain ⟨v',K',he,hown,hlv,hll,hsame⟩:=sw Z1 ho' (by rw [ai]; exact Nat.le_add_right_of_le hA.len) hrow rfl (by
   rw [by9,<-hlen,cj]; unfold fT; rw [aC,decide_eq_true_iff,decide_eq_true_iff]; constructor <;> omega)
 refine ⟨v',K',he,fun j hj=>?_,by rw [List.map_append]; exact hown⟩
 rw [hsame j (by rw [ai]; exact Nat.lt_add_right _ (bu hj hA.len)),aw (bu hj hA.len),hA j hj]
 intro i k len cap ex e
 have:=(ho.ge e).1
 omega
theorem I5 {G:AH} {c:Cod} {vp vs vi:AV} {q:Nat} (h:eO G c vp vs vi) (hq:G[q]? =some (.cells (bI c vp vs vi) 66)) (hb:c.params.length<=6) (hN:c.params.length < 2 ^ 60):∀ (d j:Nat) (tm:List AV) (K:AH) (Z:Option (bs × St)),EvC aa C0 W0 s8 Rt (tm,K)=Z->c.params.length - j=d->j<=c.params.length->(tm.length=98/\au G K/\tm.getD 1 uA=.ptr q 0/\tm.getD 4 uA=I ((j:Nat):Int)/\∃ v,tm.getD 3 uA=v/\Own G.length K 1 9 v (((pNs c).take j).map .str)) ->
   ∃ X K1,Z=some (.exit 0,(X,K1))/\(X.length=98/\au G K1/\X.getD 1 uA=.ptr q 0/\X.getD 4 uA=I ((c.params.length:Nat):Int)/\∃ v,X.getD 3 uA=v/\Own G.length K1 1 9 v (((pNs c).take c.params.length).map .str)):=by
 intro d
 induction d with
 | zero =>
   intro j tm K Z hZ hd hj hI
   subst hZ
   have hjl:j=c.params.length:=by omega
   subst hjl
   have hI0:=hI
   obtain ⟨hlen,hA,h1,hx,v,h3,ho⟩:=hI
   have hlt:ltB (((c.params.length:Nat)):Int) (c.params.length:Nat)=false:=cH (by omega)
   have hbq:∀ L k n,ak (K++L) q k n=if k+n<=(bI c vp vs vi).length then some (((bI c vp vs vi).drop k).take n) else none:=fun L k n=>eL (hA.get hq) L k n
   have hbq0:∀ k n,ak K q k n=if k+n<=(bI c vp vs vi).length then some (((bI c vp vs vi).drop k).take n) else none:=fun k n=>by have:=hbq [] k n; rwa [af] at this
   have hlp:=h.lp
   rw [Mc]
   simp (maxSteps:=4000000) -implicitDefEqProofs only [Gc,Tryz.f66,aP,hlen,h1,hx,h3,hlt,hbq0,hlp,r5,↓az,↓ao,an,eu,sevalprocAttr]
   refine ⟨_,K,rfl,?_⟩
   exact ⟨by first | exact hlen | simp only [aq,hlen],hA,Aj2 (by simp only [hlen,h1,hx,gB,and_self,sevalprocAttr]) ⟨v,by simp only [hlen,h3,gB,sevalprocAttr],ho⟩⟩
 | succ d ih =>
   intro j tm K Z hZ hd hj hI
   subst hZ
   have hI0:=hI
   obtain ⟨hlen,hA,h1,hx,v,h3,ho⟩:=hI
   have hjN:j < c.params.length:=by omega
   have hlt:ltB (j:Int) (c.params.length:Nat)=true:=cD (by omega)
   have hw:=cp (j:=j) (by omega)
   have hbq:∀ L k n,ak (K++L) q k n=if k+n<=(bI c vp vs vi).length then some (((bI c vp vs vi).drop k).take n) else none:=fun L k n=>eL (hA.get hq) L k n
   have hbq0:∀ k n,ak K q k n=if k+n<=(bI c vp vs vi).length then some (((bI c vp vs vi).drop k).take n) else none:=fun k n=>by have:=hbq [] k n; rwa [af] at this
   have hlp:=h.lp
   obtain ⟨i,k,b,hix,hrd0,hrd2⟩:=JD h hA hjN
   have hts:=qt (l:=pNs c) (j:=j) (by rw [kW]; exact hjN)
   obtain ⟨v',K',happ,hA',ho'⟩:=GF hA ho (by rw [d4]; omega) (gx (pNs c) j)
   rw [Mc]
   rw [<-af K]
   simp (maxSteps:=4000000) -implicitDefEqProofs only [Gc,Tryz.f66,aP,hlen,h1,hx,h3,hlt,hw,hbq,hlp,hix,hrd0,↓ck,↓fY,Ga,happ,r5,↓az,↓ao,an,eu,sevalprocAttr]
   generalize hX:EvC aa C0 W0 _ _ _=Z
   refine ih (j+1) _ _ _ hX (by omega) (by omega) ?_
   exact ⟨by simp only [ls,hlen],hA',Aj2 (by simp only [hlen,h1,hx,gB,and_self,sevalprocAttr]) ⟨v',by simp only [hlen,h3,gB,sevalprocAttr],by rw [hts]; first | exact ho' | (rw [<-aG]; exact ho')⟩⟩
theorem I4 {G:AH} {c:Cod} {vp vs vi:AV} {q:Nat} (h:eO G c vp vs vi) (hq:G[q]? =some (.cells (bI c vp vs vi) 66)) (hb:c.params.length<=6) (hb2:c.shared.length<=4) (hN:c.shared.length < 2 ^ 60):∀ (d j:Nat) (tm:List AV) (K:AH) (Z:Option (bs × St)),EvC aa C0 W0 s8 Rs (tm,K)=Z->c.shared.length - j=d->j<=c.shared.length->(tm.length=98/\au G K/\tm.getD 1 uA=.ptr q 0/\tm.getD 5 uA=I ((j:Nat):Int)/\∃ v,tm.getD 3 uA=v/\Own G.length K 1 9 v ((pNs c++(sNs c).take j).map .str)) ->
   ∃ X K1 Y K2,Z=br (cd (fun j=>(!ltB (mP c j) 1 && !ltB 64 (mP c j))) (c.shared.length) (j)) (some (.exit 2,(X,K1))) (some (.ret,(Y,K2)))/\(cd (fun j=>(!ltB (mP c j) 1 && !ltB 64 (mP c j))) (c.shared.length) (j)=true->X.length=98/\au G K1/\X.getD 1 uA=.ptr q 0/\X.getD 5 uA=I ((c.shared.length:Nat):Int)/\∃ v,X.getD 3 uA=v/\Own G.length K1 1 9 v ((pNs c++(sNs c).take c.shared.length).map .str))/\Y.length=98/\Y.getD 2 uA=.bool false:=by
 intro d
 induction d with
 | zero =>
   intro j tm K Z hZ hd hj hI
   subst hZ
   have hjl:j=c.shared.length:=by omega
   subst hjl
   have hI0:=hI
   obtain ⟨hlen,hA,h1,hx,v,h3,ho⟩:=hI
   have hlt:ltB (((c.shared.length:Nat)):Int) (c.shared.length:Nat)=false:=cH (by omega)
   have hbq:∀ L k n,ak (K++L) q k n=if k+n<=(bI c vp vs vi).length then some (((bI c vp vs vi).drop k).take n) else none:=fun L k n=>eL (hA.get hq) L k n
   have hbq0:∀ k n,ak K q k n=if k+n<=(bI c vp vs vi).length then some (((bI c vp vs vi).drop k).take n) else none:=fun k n=>by have:=hbq [] k n; rwa [af] at this
   have hls:=h.ls
   rw [di (ax _)]
   rw [Ma]
   simp (maxSteps:=4000000) -implicitDefEqProofs only [Ap,Tryz.f66,aP,hlen,h1,hx,h3,hlt,hbq0,hls,r5,↓az,↓ao,an,eu,sevalprocAttr]
   refine ⟨_,K,tm.set 2 (.bool false),K,rfl,?_,by simp only [ls,hlen],by simp only [hlen,dv,aQ]⟩
   try intro _
   exact ⟨by first | exact hlen | simp only [aq,hlen],hA,Aj2 (by simp only [hlen,h1,hx,gB,and_self,sevalprocAttr]) ⟨v,by simp only [hlen,h3,gB,sevalprocAttr],ho⟩⟩
 | succ d ih =>
   intro j tm K Z hZ hd hj hI
   subst hZ
   have hI0:=hI
   obtain ⟨hlen,hA,h1,hx,v,h3,ho⟩:=hI
   have hjN:j < c.shared.length:=by omega
   have hlt:ltB (j:Int) (c.shared.length:Nat)=true:=cD (by omega)
   have hw:=cp (j:=j) (by omega)
   have hbq:∀ L k n,ak (K++L) q k n=if k+n<=(bI c vp vs vi).length then some (((bI c vp vs vi).drop k).take n) else none:=fun L k n=>eL (hA.get hq) L k n
   have hbq0:∀ k n,ak K q k n=if k+n<=(bI c vp vs vi).length then some (((bI c vp vs vi).drop k).take n) else none:=fun k n=>by have:=hbq [] k n; rwa [af] at this
   have hls:=h.ls
   obtain ⟨i,k,hix,hrd0,hrd1,hrd2⟩:=IV h hA hjN
   have hts:=qt (l:=sNs c) (j:=j) (by rw [sQ]; exact hjN)
   obtain ⟨v',K',happ,hA',ho'⟩:=GF hA ho (by rw [ai,d4,kW]; omega) (gx (sNs c) j)
   rw [cI hjN]
   rw [Ma]
   rw [<-af K]
   cases hp:((!ltB (mP c j) 1 && !ltB 64 (mP c j))) with
   | true =>
     rw [aC,bj,bj] at hp
     obtain ⟨hp3,hp4⟩:=hp
     simp only [bd]
     simp (maxSteps:=4000000) -implicitDefEqProofs only [Ap,Tryz.f66,aP,hlen,h1,hx,h3,hlt,hw,hbq,hls,hix,hrd0,hrd1,↓ck,↓fY,Ga,happ,r5,↓az,hp3,hp4,↓ao,an,eu,sevalprocAttr]
     generalize hX:EvC aa C0 W0 _ _ _=Z
     refine ih (j+1) _ _ _ hX (by omega) (by omega) ?_
     exact ⟨by simp only [ls,hlen],hA',Aj2 (by simp only [hlen,h1,hx,gB,and_self,sevalprocAttr]) ⟨v',by simp only [hlen,h3,gB,sevalprocAttr],by rw [hts]; first | exact ho' | (rw [<-aG]; exact ho')⟩⟩
   | false =>
     simp only [bc]
     cases hp3:ltB (mP c j) 1 with
     | true =>
       simp (maxSteps:=4000000) -implicitDefEqProofs only [Ap,Tryz.f66,aP,hlen,h1,hx,h3,hlt,hw,hbq,hls,hix,hrd0,hrd1,↓ck,↓fY,Ga,happ,r5,↓az,hp3,↓ao,an,eu,sevalprocAttr]
       exact ⟨tm,K,_,_,rfl,by first | exact trivial | (intro h; cases h),by simp only [ls,hlen],by simp only [hlen,gB,sevalprocAttr]⟩
     | false =>
       rw [hp3] at hp
       have hp4:ltB 64 (mP c j)=true:=by simpa using hp
       simp (maxSteps:=4000000) -implicitDefEqProofs only [Ap,Tryz.f66,aP,hlen,h1,hx,h3,hlt,hw,hbq,hls,hix,hrd0,hrd1,↓ck,↓fY,Ga,happ,r5,↓az,hp3,hp4,↓ao,an,eu,sevalprocAttr]
       exact ⟨tm,K,_,_,rfl,by first | exact trivial | (intro h; cases h),by simp only [ls,hlen],by simp only [hlen,gB,sevalprocAttr]⟩
theorem DO {H K:AH} {v:AV} {l:List ByteArray} (hs:SlS 164 1 H v (l.map fun s=>[AV.str s])) (hA:au H K) {j:Nat} (hj:j < l.length):∃ i k,(∀ kk,aD aa 164 v (.int kk (j:Int))=some (.ptr i k))/\(∀ L,ak (K++L) i k 1=some [.str (gx l j)]):=by
 obtain ⟨i,k,hi,hr⟩:=hs.ix j [.str (gx l j)] (by
   rw [aM,aj hj]
   unfold gx
   rw [gde,aj hj]; rfl)
 exact ⟨i,k,hi,fun L=>iZ hr hA L⟩
def yw (l:List ByteArray) (i:Nat):Bool:=cd (fun k=>!sEq (gx l k) (gx l i)) i 0
def uC (l:List ByteArray) (i:Nat):Bool:=lJ (gx l i) && yw l i
theorem Own.sls {b:Nat} {H:AH} {v:AV} {l:List ByteArray} (h:Own b H 1 9 v (l.map .str)):SlS 164 1 H v (l.map fun s=>[AV.str s]):=by
 have hlen:=h.length
 rw [ar,dz] at hlen
 generalize hxs:l.map AV.str=xs at h
 cases h with
 | nil =>
   have:l=[]:=by simpa using hxs
   subst this
   exact ⟨fun G=>Uo G,fun j r hr=>by simp at hr,.inl ⟨rfl,rfl⟩⟩
 | «at» i k len cap ex cs xs hb hi hl hc h =>
   rw [cj] at hlen
   refine ⟨fun G=>by rw [Ra,ar,hlen],fun j r hr=>?_,.inr ⟨i,k,cap,ex,by rw [ar,hlen],by unfold okC; rw [hi],by rw [ar,hlen,rP,hxs]; exact h⟩⟩
   rw [aM] at hr
   obtain ⟨w,hw,rfl⟩:=ah.1 hr
   have hj:j < len:=by rw [<-hlen]; exact aJ hw
   refine ⟨i,k+j * 1,fun kk=>by rw [Se,if_pos ⟨by omega,by omega,rfl⟩]; rfl,?_⟩
   have:=kU h (j:=j) (x:=.str w) (by rw [<-hxs,aM,hw]; rfl)
   rwa [dz]
theorem Sq {H:AH} {v:AV} {l:List ByteArray} {i:Nat} (hs:SlS 164 1 H v (l.map fun s=>[AV.str s])) (hi:i < l.length) (hN:i < 2 ^ 60):∀ (d j:Nat) (tm:List AV) (K:AH) (Z:Option (bs × St)),EvC aa C0 W0 s8 Rr (tm,K)=Z->i - j=d->j<=i->au H K->tm.length=98->tm.getD 3 uA=v->tm.getD 6 uA=I ((i:Nat):Int)->tm.getD 7 uA=I ((j:Nat):Int) ->
   ∃ X Y K1 K2,Z=br (cd (fun j=>!sEq (gx l j) (gx l i)) (i) (j)) (some (.exit 6,(X,K1))) (some (.ret,(Y,K2)))/\(X.length=98/\au H K1/\X.getD 3 uA=v/\X.getD 6 uA=I ((i:Nat):Int))/\Y.length=98/\Y.getD 2 uA=.bool false:=by
 intro d
 induction d with
 | zero =>
   intro j tm K Z hZ hd hj hA hlen h3 h6 h7
   subst hZ
   have hjl:j=i:=by omega
   have hlt:ltB (j:Int) (i:Nat)=false:=cH (by omega)
   rw [di (by omega),L9]
   simp (maxSteps:=4000000) -implicitDefEqProofs only [C5,Tryz.f66,aP,hlen,h3,h6,h7,hlt,↓ao,an,eu,sevalprocAttr]
   exact ⟨_,tm.set 2 (.bool false),_,K,rfl,⟨by first | exact hlen | simp only [aq,hlen],hA,by first | exact h3 | simp only [hlen,h3,gB,sevalprocAttr],by first | exact h6 | simp only [hlen,h6,gB,sevalprocAttr]⟩,by simp only [ls,hlen],by simp only [hlen,dv,aQ]⟩
 | succ d ih =>
   intro j tm K Z hZ hd hj hA hlen h3 h6 h7
   subst hZ
   have hjN:j < i:=by omega
   have hlt:ltB (j:Int) (i:Nat)=true:=cD (by omega)
   have hw:=cp (j:=j) (by omega)
   obtain ⟨i0,k0,hix,hrd⟩:=DO hs hA (j:=j) (by omega)
   obtain ⟨i1,k1,hix1,hrd1⟩:=DO hs hA hi
   rw [cI hjN,L9]
   rw [<-af K]
   cases hp:(!sEq (gx l j) (gx l i)) with
   | true =>
     simp only [bd]
     rw [bj] at hp
     simp (maxSteps:=4000000) -implicitDefEqProofs only [C5,Tryz.f66,aP,hlen,h3,h6,h7,hlt,hw,BX,hix,hrd,hix1,hrd1,hp,r5,↓az,↓ao,an,eu,sevalprocAttr]
     exact ih (j+1) _ _ _ rfl (by omega) (by omega) (by first | exact hA | exact hA.bS _ | exact (hA.bS _).bS _ | exact hA) (by simp only [ls,hlen]) (by simp only [hlen,h3,gB,sevalprocAttr]) (by simp only [hlen,h6,gB,sevalprocAttr]) (by simp only [hlen,h7,gB,sevalprocAttr])
   | false =>
     simp only [bc]
     rw [Bool.not_eq_false'] at hp
     simp (maxSteps:=4000000) -implicitDefEqProofs only [C5,Tryz.f66,aP,hlen,h3,h6,h7,hlt,hw,BX,hix,hrd,hix1,hrd1,hp,r5,↓az,↓ao,an,eu,sevalprocAttr]
     exact ⟨tm,_,K,_,rfl,⟨hlen,hA,h3,h6⟩,by simp only [ls,hlen],by simp only [hlen,gB,sevalprocAttr]⟩
theorem WI {H:AH} {v:AV} {l:List ByteArray} (hs:SlS 164 1 H v (l.map fun s=>[AV.str s])) (hz:∀ s∈l,s.size < 2 ^ 60) (hN:l.length < 2 ^ 60):∀ (d j:Nat) (tm:List AV) (K:AH) (Z:Option (bs × St)),EvC aa C0 W0 s8 Rq (tm,K)=Z->l.length - j=d->j<=l.length->(tm.length=98/\au H K/\tm.getD 3 uA=v/\tm.getD 6 uA=I ((j:Nat):Int)) ->
   ∃ X K1 Y K2,Z=br (cd (fun j=>uC l j) (l.length) (j)) (some (.exit 4,(X,K1))) (some (.ret,(Y,K2)))/\(cd (fun j=>uC l j) (l.length) (j)=true->X.length=98/\au H K1/\X.getD 3 uA=v/\X.getD 6 uA=I ((l.length:Nat):Int))/\Y.length=98/\Y.getD 2 uA=.bool false:=by
 intro d
 induction d with
 | zero =>
   intro j tm K Z hZ hd hj hI
   subst hZ
   have hjl:j=l.length:=by omega
   subst hjl
   have hI0:=hI
   obtain ⟨hlen,hA,h3,h6⟩:=hI
   have hlt:ltB (((l.length:Nat)):Int) (l.length:Nat)=false:=cH (by omega)
   have hl:∀ G,dQ aa 164 G v=some (I l.length):=fun G=>by have:=hs.len G; rwa [ar] at this
   rw [di (ax _)]
   rw [L8]
   simp (maxSteps:=4000000) -implicitDefEqProofs only [Ao,Tryz.f66,aP,hlen,h3,h6,hlt,hl,↓fY,r5,↓az,↓ao,an,eu,sevalprocAttr]
   refine ⟨_,K,tm.set 2 (.bool false),K,rfl,?_,by simp only [ls,hlen],by simp only [hlen,dv,aQ]⟩
   try intro _
   exact ⟨by first | exact hlen | simp only [aq,hlen],hA,by simp only [hlen,h3,h6,gB,and_self,sevalprocAttr]⟩
 | succ d ih =>
   intro j tm K Z hZ hd hj hI
   subst hZ
   have hI0:=hI
   obtain ⟨hlen,hA,h3,h6⟩:=hI
   have hjN:j < l.length:=by omega
   have hlt:ltB (j:Int) (l.length:Nat)=true:=cD (by omega)
   have hw:=cp (j:=j) (by omega)
   have hl:∀ G,dQ aa 164 G v=some (I l.length):=fun G=>by have:=hs.len G; rwa [ar] at this
   obtain ⟨i,k,hix,hrd⟩:=DO hs hA hjN
   have hsK:=(hs.same hA)
   have hnz:(gx l j).size < 2 ^ 60:=by
     unfold gx
     rw [gde,aj hjN]
     exact hz _ (List.getElem_mem _)
   have h96:=fun L=>YO hnz L
   rw [cI hjN]
   rw [L8]
   rw [<-af K]
   cases hp:(uC l j) with
   | true =>
     unfold uC at hp
     rw [aC] at hp
     obtain ⟨hp1,hp2⟩:=hp
     simp only [bd]
     simp (maxSteps:=4000000) -implicitDefEqProofs only [Ao,Tryz.f66,aP,hlen,h3,h6,hlt,hw,hl,hix,hrd,↓fY,↓Ez,h96,r5,↓az,hp1,↓ao,an,eu,sevalprocAttr]
     generalize hX:EvC aa C0 W0 _ (Code.loop _) _=Z
     obtain ⟨X,Y,K1,K2,he,xs,y0,y1⟩:=Sq hsK hjN (by omega) _ 0 _ _ _ hX rfl (Nat.zero_le _) (au.app _ _) (by simp only [ls,hlen,h3,h6]) (by simp only [hlen,h3,h6,gB,sevalprocAttr]; try rfl) (by simp only [hlen,h3,h6,gB,sevalprocAttr]; try rfl) (by simp only [hlen,h3,h6,gB,sevalprocAttr]; try rfl)
     subst he
     unfold yw at hp2
     simp (maxSteps:=4000000) -implicitDefEqProofs only [hp2,xs.1,xs.2.2.2,hw,↓ao,an,eu,sevalprocAttr]
     generalize hX:EvC aa C0 W0 _ _ _=Z
     refine ih (j+1) _ _ _ hX (by omega) (by omega) ?_
     exact ⟨by simp only [ls,xs.1],hA.trans xs.2.1,by simp only [xs.1,xs.2.2.1,gB,and_self,sevalprocAttr]⟩
   | false =>
     simp only [bc]
     unfold uC at hp
     cases hp1:lJ (gx l j) with
     | false =>
       simp (maxSteps:=4000000) -implicitDefEqProofs only [Ao,Tryz.f66,aP,hlen,h3,h6,hlt,hw,hl,hix,hrd,↓fY,↓Ez,h96,r5,↓az,hp1,↓ao,an,eu,sevalprocAttr]
       exact ⟨tm,K,_,_,rfl,by first | exact trivial | (intro h; cases h),by simp only [ls,hlen],by simp only [hlen,gB,sevalprocAttr]⟩
     | true =>
       rw [hp1,bd] at hp
       unfold yw at hp
       simp (maxSteps:=4000000) -implicitDefEqProofs only [Ao,Tryz.f66,aP,hlen,h3,h6,hlt,hw,hl,hix,hrd,↓fY,↓Ez,h96,r5,↓az,hp1,↓ao,an,eu,sevalprocAttr]
       generalize hX:EvC aa C0 W0 _ (Code.loop _) _=Z
       obtain ⟨X,Y,K1,K2,he,xs,y0,y1⟩:=Sq hsK hjN (by omega) _ 0 _ _ _ hX rfl (Nat.zero_le _) (au.app _ _) (by simp only [ls,hlen,h3,h6]) (by simp only [hlen,h3,h6,gB,sevalprocAttr]; try rfl) (by simp only [hlen,h3,h6,gB,sevalprocAttr]; try rfl) (by simp only [hlen,h3,h6,gB,sevalprocAttr]; try rfl)
       subst he
       simp (maxSteps:=4000000) -implicitDefEqProofs only [hp,y0,y1,↓ao,an,eu,sevalprocAttr]
       exact ⟨tm,K,Y,_,rfl,by first | exact trivial | (intro h; cases h),y0,y1⟩
theorem Oa (l:List ByteArray) (s:ByteArray):sIn l s=true↔s∈l:=by
 unfold sIn
 induction l with
 | nil=>simp
 | cons x l ih =>
   rw [List.contains_cons,Bool.or_eq_true,ih,List.mem_cons]
   rw [AF,qv]
theorem z3 {l:List ByteArray} {i:Nat} (hi:i < l.length):yw l i=!sIn (l.take i) (gx l i):=by
 rw [fM]
 unfold yw
 rw [fC,bj,<-lD,Oa]
 have hn:∀ k,k < l.length->l[k]? =some (gx l k):=fun k hk=>by
   unfold gx
   rw [gde,aj hk]; rfl
 constructor
 · intro h hm
   obtain ⟨k,hk⟩:=qk.1 hm
   have hki:k < i:=by
     have:=aJ hk
     rw [d4] at this; omega
   rw [Au hki,hn k (by omega)] at hk
   have:=h k hki
   rw [bj,aE hk] at this
   have e:sEq (gx l i) (gx l i)=true:=by rw [qv]
   rw [e] at this; cases this
 · intro h k hk
   rw [bj,<-lD,qv]
   intro e
   refine h (qk.2 ⟨k,?_⟩)
   rw [Au hk,hn k (by omega),e]
theorem PF {p s:List ByteArray} {j:Nat} (h:j < p.length):gx (p++s) j=gx p j:=by
 unfold gx
 rw [gde,gde,aw h]
theorem PE {p s:List ByteArray} (j:Nat):gx (p++s) (p.length+j)=gx s j:=by
 unfold gx
 rw [gde,gde,al (du _ _),aS]
def pg (c:Cod):List ByteArray:=pNs c++sNs c
def szP (c:Cod) (j:Nat):Bool:=!ltB (mP c j) 1 && !ltB 64 (mP c j)
theorem Ko (c:Cod):(cd (fun j=>szP c j) c.shared.length 0 && cd (fun j=>uC (pg c) j) (pg c).length 0)=(cd (fun j=>zi c j) c.params.length 0 && cd (fun j=>ze c j) c.shared.length 0):=by
 have hlen:(pg c).length=c.params.length+c.shared.length:=by unfold pg; rw [ai,kW,sQ]
 have hpar:∀ j,j < c.params.length->uC (pg c) j=zi c j:=fun j hj=>by
   unfold uC zi
   rw [z3 (by omega)]
   unfold pg
   rw [PF (by rw [kW]; exact hj),List.take_append_of_le_length (by rw [kW]; omega)]
 have hshr:∀ j,j < c.shared.length->(szP c j && uC (pg c) (c.params.length+j))=ze c j:=fun j hj=>by
   unfold uC ze szP
   rw [z3 (by omega)]
   unfold pg
   have e:=kW c
   rw [<-e,PE j,List.take_append,bq (du _ _),aS]
   cases lJ (gx (sNs c) j) <;> cases sIn (pNs c++List.take j (sNs c)) (gx (sNs c) j) <;> cases ltB (mP c j) 1 <;> cases ltB 64 (mP c j) <;> rfl
 rw [fM,aC,aC,fC,fC,fC,fC,hlen]
 constructor
 · intro ⟨h1,h2⟩
   refine ⟨fun j hj=>?_,fun j hj=>?_⟩
   · rw [<-hpar j hj]; exact h2 j (by omega)
   · rw [<-hshr j hj,h1 j hj,h2 _ (by omega)]; rfl
 · intro ⟨h1,h2⟩
   have hs:∀ j,j < c.shared.length->szP c j=true/\uC (pg c) (c.params.length+j)=true:=fun j hj=>by
     have:=h2 j hj
     rw [<-hshr j hj,aC] at this; exact this
   refine ⟨fun j hj=>(hs j hj).1,fun j hj=>?_⟩
   rcases Nat.lt_or_ge j c.params.length with c1 | c1
   · rw [hpar j c1]; exact h1 j c1
   · have:=(hs (j - c.params.length) (by omega)).2
     rwa [Nat.add_sub_cancel' c1] at this
def Cp (c:Cod):Bool:=lJ c.name && !ltB 6 (c.params.length:Int) && !ltB 4 (c.shared.length:Int) && (cd (fun j=>szP c j) c.shared.length 0 && cd (fun j=>uC (pg c) j) (pg c).length 0)
theorem acJ {H:AH} {c:Cod} {vp vs vi:AV} (h:eO H c vp vs vi):Ev aa C0 W0 66 [.agg (bI c vp vs vi)] H=some (.bool (Cp c),H):=by
 obtain ⟨tm,ht,g0,g1⟩:=tm1 (.agg (bI c vp vs vi)) 98 (by decide)
 rw [abp,ht]
 rw [<-af (ro H)]
 unfold Cp
 have hlp:=h.ro.lp
 have hls:=h.ro.ls
 have h96:=fun L=>YO h.nm L
 cases h0:lJ c.name with
 | false=>simp (maxSteps:=4000000) -implicitDefEqProofs only [c66,Tryz.f66,aP,g0,g1,hlp,hls,↓Ez,h96,r5,↓az,h0,↓ao,an,eu,sevalprocAttr]
 | true =>
   cases h1:ltB 6 (c.params.length:Int) with
   | true=>simp (maxSteps:=4000000) -implicitDefEqProofs only [c66,Tryz.f66,aP,g0,g1,hlp,hls,↓Ez,h96,r5,↓az,h0,h1,↓ao,an,eu,sevalprocAttr]
   | false =>
     cases h2:ltB 4 (c.shared.length:Int) with
     | true=>simp (maxSteps:=4000000) -implicitDefEqProofs only [c66,Tryz.f66,aP,g0,g1,hlp,hls,↓Ez,h96,r5,↓az,h0,h1,h2,↓ao,an,eu,sevalprocAttr]
     | false =>
       simp (maxSteps:=4000000) -implicitDefEqProofs only [c66,Tryz.f66,aP,g0,g1,hlp,hls,↓Ez,h96,r5,↓az,h0,h1,h2,↓ao,an,eu,sevalprocAttr]
       have hG:eO (ro H++[bl.cells (bI c vp vs vi) 66]) c vp vs vi:=h.ro.bg (au.app _ _)
       have hq:(ro H++[bl.cells (bI c vp vs vi) 66])[(ro H).length]? =some (.cells (bI c vp vs vi) 66):=by rw [al (ax _),dR]; rfl
       have hb:c.params.length<=6:=by rw [fS] at h1; omega
       have hb2:c.shared.length<=4:=by rw [fS] at h2; omega
       generalize hX:EvC aa C0 W0 _ (Code.loop _) _=Z
       obtain ⟨X,K1,he,i0,iA,i1,ix,v,i3,io⟩:=I5 (q:=(ro H).length) hG hq hb (by omega) _ 0 _ _ _ hX rfl (Nat.zero_le _) ⟨by simp only [ls,g0],au.refl _,by simp only [g0,gB,sevalprocAttr]; try rfl,by simp only [g0,gB,sevalprocAttr]; try rfl,.nilSlice,by simp only [g0,gB,sevalprocAttr]; try rfl,.nil⟩
       subst he
       simp (maxSteps:=4000000) -implicitDefEqProofs only [aP,i0,i1,i3,↓ao,an,eu,sevalprocAttr]
       generalize hX2:EvC aa C0 W0 _ (Code.loop _) _=Z
       obtain ⟨X2,K2,Y2,L2,he,hi2,y0,y1⟩:=I4 (q:=(ro H).length) hG hq hb hb2 (by omega) _ 0 _ _ _ hX2 rfl (Nat.zero_le _) ⟨by simp only [ls,i0],iA,by simp only [i0,i1,gB,sevalprocAttr]; try rfl,by simp only [i0,gB,sevalprocAttr]; try rfl,v,by simp only [i0,i3,gB,sevalprocAttr]; try rfl,by rw [List.take_zero,af]; rw [bq (by rw [kW]; exact ax _)] at io; exact io⟩
       subst he
       unfold szP
       cases hf:cd (fun j=>!ltB (mP c j) 1 && !ltB 64 (mP c j)) c.shared.length 0 with
       | false=>simp (maxSteps:=4000000) -implicitDefEqProofs only [y0,y1,hf,↓ao,an,eu,sevalprocAttr]
       | true =>
         obtain ⟨j0,jA,j1,jx,v2,j3,jo⟩:=hi2 hf
         rw [bq (by rw [sQ]; exact ax _)] at jo
         have hsl:SlS 164 1 K2 v2 ((pg c).map fun s=>[AV.str s]):=jo.sls
         have hln:(pg c).length=c.params.length+c.shared.length:=by unfold pg; rw [ai,kW,sQ]
         have hz:∀ s∈pg c,s.size < 2 ^ 60:=by
           intro s hs
           unfold pg pNs sNs at hs
           rw [List.mem_append,bL,bL] at hs
           rcases hs with ⟨p,hp,rfl⟩ | ⟨p,hp,rfl⟩
           · exact h.pn p hp
           · exact h.sn p hp
         simp (maxSteps:=4000000) -implicitDefEqProofs only [aP,hf,j0,j1,j3,↓ao,an,eu,sevalprocAttr]
         generalize hX3:EvC aa C0 W0 _ (Code.loop _) _=Z
         obtain ⟨X3,K3,Y3,L3,he,hi3,z0,z1⟩:=WI hsl hz (by omega) _ 0 _ _ _ hX3 rfl (Nat.zero_le _) ⟨by simp only [ls,j0],au.refl _,by simp only [j0,j3,gB,sevalprocAttr]; try rfl,by simp only [j0,gB,sevalprocAttr]; try rfl⟩
         subst he
         cases hf2:cd (fun j=>uC (pg c) j) (pg c).length 0 with
         | false=>simp (maxSteps:=4000000) -implicitDefEqProofs only [z0,z1,hf2,↓ao,an,eu,sevalprocAttr]
         | true =>
           have k0:=(hi3 hf2).1
           simp (maxSteps:=4000000) -implicitDefEqProofs only [k0,hf2,↓ao,an,eu,sevalprocAttr]
def DL (c:Cod):Bool:=Cp c && !ltB c.loc 0 && !ltB 64 c.loc && !ltB (c.insns.length:Int) 1 && !ltB 2000 (c.insns.length:Int) && allI c && FG c
theorem IG (c:Cod):DL c=jL c:=by
 unfold DL jL Cp zW
 rw [Ko]
 ac_rfl
theorem I1 {G:AH} {c:Cod} {vp vs vi:AV} {q:Nat} (h:eO G c vp vs vi) (hq:G[q]? =some (.cells (bI c vp vs vi) 66)) (hN:c.insns.length < 2 ^ 60):∀ (d j:Nat) (tm:List AV) (K:AH) (Z:Option (bs × St)),EvC aa C0 W0 BZ RA (tm,K)=Z->c.insns.length - j=d->j<=c.insns.length->au G K->tm.length=60->tm.getD 1 uA=.ptr q 0->tm.getD 3 uA=I c.insns.length->tm.getD 4 uA=I ((j:Nat):Int) ->
   ∃ X Y K1 K2,Z=br (cd (fun j=>tw c (mL c j)) (c.insns.length) (j)) (some (.exit 0,(X,K1))) (some (.ret,(Y,K2)))/\(X.length=60/\au G K1/\X.getD 1 uA=.ptr q 0/\X.getD 3 uA=I c.insns.length)/\Y.length=60/\Y.getD 2 uA=.bool false:=by
 intro d
 induction d with
 | zero =>
   intro j tm K Z hZ hd hj hA hlen h1 h3 h4
   subst hZ
   have hjl:j=c.insns.length:=by omega
   subst hjl
   have hlt:ltB (((c.insns.length:Nat)):Int) (c.insns.length:Nat)=false:=cH (by omega)
   rw [di (ax _),Mm]
   simp (maxSteps:=4000000) -implicitDefEqProofs only [Dc,Tryz.f37,aP,hlen,h1,h3,h4,hlt,↓ao,an,eu,sevalprocAttr]
   exact ⟨_,tm.set 2 (.bool false),_,K,rfl,⟨by first | exact hlen | simp only [aq,hlen],hA,by first | exact h1 | simp only [hlen,h1,gB,sevalprocAttr],by first | exact h3 | simp only [hlen,h3,gB,sevalprocAttr]⟩,by simp only [ls,hlen],by simp only [hlen,dv,aQ]⟩
 | succ d ih =>
   intro j tm K Z hZ hd hj hA hlen h1 h3 h4
   subst hZ
   have hjN:j < c.insns.length:=by omega
   have hlt:ltB (j:Int) (c.insns.length:Nat)=true:=cD (by omega)
   have hw:=cp (j:=j) (by omega)
   obtain ⟨i,k,hix,hrd0,hrd2⟩:=AZ h hA hjN
   have h67:=fun L=>acI ((h.bg hA).bg (au.app K L)) (KQ h hjN)
   have hbq:∀ L k n,ak (K++L) q k n=if k+n<=(bI c vp vs vi).length then some (((bI c vp vs vi).drop k).take n) else none:=fun L k n=>eL (hA.get hq) L k n
   simp only [eK,bI] at h67
   rw [cI hjN,Mm]
   rw [<-af K]
   cases hp:(tw c (mL c j)) with
   | true =>
     simp only [bd]
     simp (maxSteps:=4000000) -implicitDefEqProofs only [Dc,Tryz.f37,aP,hlen,h1,h3,h4,hlt,hw,Ft,QY,hix,hrd2,hbq,↓Yr,h67,hp,r5,↓az,↓ao,an,eu,sevalprocAttr]
     exact ih (j+1) _ _ _ rfl (by omega) (by omega) (by first | exact hA | exact hA.bS _ | exact (hA.bS _).bS _) (by simp only [ls,hlen]) (by simp only [hlen,h1,gB,sevalprocAttr]) (by simp only [hlen,h3,gB,sevalprocAttr]) (by simp only [hlen,h4,gB,sevalprocAttr])
   | false =>
     simp only [bc]
     simp (maxSteps:=4000000) -implicitDefEqProofs only [Dc,Tryz.f37,aP,hlen,h1,h3,h4,hlt,hw,Ft,QY,hix,hrd2,hbq,↓Yr,h67,hp,r5,↓az,↓ao,an,eu,sevalprocAttr]
     exact ⟨tm,_,K,_,rfl,⟨hlen,hA,h1,h3⟩,by simp only [ls,hlen],by simp only [hlen,gB,sevalprocAttr]⟩
theorem ac1 {H:AH} {c:Cod} {vp vs vi:AV} (h:eO H c vp vs vi):Ev aa C0 W0 37 [.agg (bI c vp vs vi)] H=some (.bool (jL c),H):=by
 rw [<-IG]
 obtain ⟨tm,ht,g0,g1⟩:=tm1 (.agg (bI c vp vs vi)) 60 (by decide)
 rw [abL,ht]
 rw [<-af (ro H)]
 unfold DL
 have hli:=h.ro.li
 have hib:=h.ni
 have h66:=fun L=>acJ (h.ro.bg (au.app (ro H) L))
 simp only [bI] at h66
 cases h0:Cp c with
 | false=>simp (maxSteps:=4000000) -implicitDefEqProofs only [c37,Tryz.f37,aP,g0,g1,hli,↓HT,h66,r5,↓az,h0,↓ao,an,eu,sevalprocAttr]
 | true =>
   cases h1:ltB c.loc 0 with
   | true=>simp (maxSteps:=4000000) -implicitDefEqProofs only [c37,Tryz.f37,aP,g0,g1,hli,↓HT,h66,r5,↓az,h0,h1,↓ao,an,eu,sevalprocAttr]
   | false =>
     cases h2:ltB 64 c.loc with
     | true=>simp (maxSteps:=4000000) -implicitDefEqProofs only [c37,Tryz.f37,aP,g0,g1,hli,↓HT,h66,r5,↓az,h0,h1,h2,↓ao,an,eu,sevalprocAttr]
     | false =>
       cases h3:ltB (c.insns.length:Int) 1 with
       | true=>simp (maxSteps:=4000000) -implicitDefEqProofs only [c37,Tryz.f37,aP,g0,g1,hli,↓HT,h66,r5,↓az,h0,h1,h2,h3,↓ao,an,eu,sevalprocAttr]
       | false =>
         cases h4:ltB 2000 (c.insns.length:Int) with
         | true=>simp (maxSteps:=4000000) -implicitDefEqProofs only [c37,Tryz.f37,aP,g0,g1,hli,↓HT,h66,r5,↓az,h0,h1,h2,h3,h4,↓ao,an,eu,sevalprocAttr]
         | false =>
           have hn1:1<=c.insns.length:=by rw [fS] at h3; omega
           have hw1:IntKind.i64.wrap ((c.insns.length:Int) - 1)=((c.insns.length - 1:Nat):Int):=by rw [qZ (by omega)]; omega
           have hG:eO (ro H++[bl.cells (bI c vp vs vi) 66]) c vp vs vi:=h.ro.bg (au.app _ _)
           have hq:(ro H++[bl.cells (bI c vp vs vi) 66])[(ro H).length]? =some (.cells (bI c vp vs vi) 66):=by rw [al (ax _),dR]; rfl
           simp (maxSteps:=4000000) -implicitDefEqProofs only [c37,Tryz.f37,aP,g0,g1,hli,↓HT,h66,r5,↓az,h0,h1,h2,h3,h4,↓ao,an,eu,sevalprocAttr]
           generalize hX:EvC aa C0 W0 _ (Code.loop _) _=Z
           obtain ⟨X,Y,K1,K2,he,xs,y0,y1⟩:=I1 hG hq (Nat.lt_trans h.ni (by decide)) _ 0 _ _ _ hX rfl (Nat.zero_le _) (au.refl _) (by simp only [ls,g0]) (by simp only [g0,gB,sevalprocAttr]; try rfl) (by simp only [g0,gB,sevalprocAttr]; try rfl) (by simp only [g0,gB,sevalprocAttr]; try rfl)
           subst he
           cases hf:allI c with
           | false =>
             unfold allI at hf
             simp (maxSteps:=4000000) -implicitDefEqProofs only [xs.1,y0,y1,hf,↓ao,an,eu,sevalprocAttr]
           | true =>
             unfold allI at hf
             obtain ⟨x0,xA,x1,x3⟩:=xs
             obtain ⟨i,k,hix,hrd0,hrd2⟩:=AZ hG xA (j:=c.insns.length - 1) (by omega)
             have hlk:(mL c (c.insns.length - 1)).kind=yd c:=rfl
             rw [hlk] at hrd0
             have hbq:∀ L k n,ak (K1++L) (ro H).length k n=if k+n<=(bI c vp vs vi).length then some (((bI c vp vs vi).drop k).take n) else none:=fun L k n=>eL (xA.get hq) L k n
             have hbq0:∀ k n,ak K1 (ro H).length k n=if k+n<=(bI c vp vs vi).length then some (((bI c vp vs vi).drop k).take n) else none:=fun k n=>by have:=hbq [] k n; rwa [af] at this
             have hrd1:=hrd0 []
             rw [af] at hrd1
             unfold FG
             cases e15:eqB (yd c) 15 <;> simp (maxSteps:=4000000) -implicitDefEqProofs only [aP,hf,x0,x1,x3,hbq0,hix,hrd1,hw1,e15,r5,↓az,↓ao,an,eu,sevalprocAttr]
end Go.Dv
