/- Part 21 of the walks (own work). -/
import Derived.Test.YtilpjnckfkjkbaaGreatDoorU20
open Bool renaming and_eq_true→az,eq_iff_iff→gI,false_and→bd,not_eq_true→lM,not_eq_true'→bl,true_and→bf
open List renaming append_assoc→aD,append_nil→af,getElem?_append_left→ar,getElem?_append_right→al,getElem?_eq_getElem→aj,getElem?_map→aO,getElem?_take_of_lt→AG,length_append→ai,length_map→ao,length_set→aq,length_take→dR,mem_iff_getElem?→qu,mem_map→bI,take_of_length_le→bt
open Nat renaming add_sub_cancel_left→aN,le_add_right→dI,le_refl→aw,lt_of_lt_of_le→bF,mul_one→dM,reduceLT→aR,sub_self→d9,zero_le→aV
open Option renaming map_eq_some_iff→ah
open Option.some renaming inj→aB
open Go.Proofs.Tryz renaming prog→aa
set_option maxRecDepth 100000
set_option maxHeartbeats 4000000
set_option linter.unusedSimpArgs false
set_option linter.unusedVariables false
open Go.Proofs.Tryz (f37 f66)
namespace Go.Dv
open Go.Proofs
attribute [local congr] aA bC aT bB bD
theorem Wx (s:ByteArray) (H:AH):bn aa none 164 1 [(0,.str s)] H=some (.slice H.length 0 1 1 1 true,H++[.cells [.str s] 9]):=by kernel_rfl
theorem GH (s:ByteArray) (H L:AH):bn aa none 164 1 [(0,.str s)] (H++L)=some (.slice (H.length+L.length) 0 1 1 1 true,H++(L++[.cells [.str s] 9])):=by rw [Wx,ai,aD]
theorem Own.ge {b:Nat} {H:AH} {es:Nat} {elem:TypeId} {v:AV} {xs:List AV} (h:Own b H es elem v xs) {i k e len cap:Nat} {ex:Bool} (hv:v=.slice i k e len cap ex):b<=i/\i < H.length:=by
 cases h with
 | nil=>cases hv
 | «at» i2 k2 len2 cap2 ex2 cs2 xs2 hb2 hi2 hl2 hc2 h2=>cases hv; exact ⟨hb2,aI hi2⟩
theorem abl:pC aa 164 (some 164) 9 1:=⟨by kernel_rfl,⟨.str eS,by kernel_rfl,by kernel_rfl,by simp [AV.cells]⟩,by kernel_rfl,by kernel_rfl⟩
theorem by9:aa.bytesOf 9=16:=by kernel_rfl
theorem Hq {G K:AH} {v:AV} {l:List ByteArray} (hA:an G K) (ho:Own G.length K 1 9 v (l.map .str)) (hl:l.length < 2 ^ 30) (s:ByteArray) :
   ∃ v' K',fV aa none 164 (some 164) v (.slice K.length 0 1 1 1 true) (K++[.cells [.str s] 9])=some (v',K')/\an G K'/\Own G.length K' 1 9 v' ((l++[s]).map .str):=by have hlen:=ho.length;rw [ao,dM] at hlen;have ho':Own G.length (K++[.cells [.str s] 9]) 1 9 v (l.map .str):=ho.other fun i k es len cap ex e=>ar (ho.ge e).2;have hrow:Row (K++[.cells [.str s] 9]) 1 (.slice K.length 0 1 1 1 true) [.str s]:=.at _ _ _ _ _ _ (by rw [gj]; rfl);obtain ⟨v',K',he,hown,hlv,hll,hsame⟩:=sF abl ho' (by rw [ai]; exact Nat.le_add_right_of_le hA.len) hrow rfl (by rw [by9,<-hlen,cp]; unfold gf; rw [az,decide_eq_true_iff,decide_eq_true_iff]; constructor <;> omega);refine ⟨v',K',he,fun j hj=>?_,by rw [List.map_append]; exact hown⟩;rw [hsame j (by rw [ai]; exact Nat.lt_add_right _ (bF hj hA.len)),ar (bF hj hA.len),hA j hj];intro i k len cap ex e;have:=(ho.ge e).1;omega
theorem JV {G:AH} {c:Cod} {vp vs vi:AV} {q:Nat} (h:eW G c vp vs vi) (hq:G[q]? =some (.cells (bO c vp vs vi) 66)) (hb:c.params.length<=6) (hN:c.params.length < 2 ^ 60):∀ (d j:Nat) (tm:List AV) (K:AH) (Z:Option (bk × St)),EvC aa C0 W0 tg SG (tm,K)=Z->c.params.length - j=d->j<=c.params.length->(tm.length=98/\an G K/\tm.getD 1 uA=.ptr q 0/\tm.getD 4 uA=I ((j:Nat):Int)/\∃ v,tm.getD 3 uA=v/\Own G.length K 1 9 v (((pNs c).take j).map .str)) ->
   ∃ X K1,Z=some (.exit 0,(X,K1))/\(X.length=98/\an G K1/\X.getD 1 uA=.ptr q 0/\X.getD 4 uA=I ((c.params.length:Nat):Int)/\∃ v,X.getD 3 uA=v/\Own G.length K1 1 9 v (((pNs c).take c.params.length).map .str)):=by
 intro d;induction d with
 | zero =>
   intro j tm K Z hZ hd hj hI;subst hZ;have hjl:j=c.params.length:=by omega
   subst hjl;have hI0:=hI;obtain ⟨hlen,hA,h1,hx,v,h3,ho⟩:=hI;have hlt:ltB (((c.params.length:Nat)):Int) (c.params.length:Nat)=false:=cw (by omega);have hbq:∀ L k n,ak (K++L) q k n=if k+n<=(bO c vp vs vi).length then some (((bO c vp vs vi).drop k).take n) else none:=fun L k n=>eU (hA.get hq) L k n
   have hbq0:∀ k n,ak K q k n=if k+n<=(bO c vp vs vi).length then some (((bO c vp vs vi).drop k).take n) else none:=fun k n=>by have:=hbq [] k n; rwa [af] at this
   have hlp:=h.lp;rw [Nj];simp (maxSteps:=4000000) -implicitDefEqProofs only [GM,f66,aP,hlen,h1,hx,h3,hlt,hbq0,hlp,r5,↓ba,↓aG,aF,eu,sevalprocAttr];refine ⟨_,K,rfl,?_⟩;exact ⟨by first | exact hlen | simp only [aq,hlen],hA,Aj2 (by simp only [hlen,h1,hx,gB,and_self,sevalprocAttr]) ⟨v,by simp only [hlen,h3,gB,sevalprocAttr],ho⟩⟩
 | succ d ih =>
   intro j tm K Z hZ hd hj hI;subst hZ;have hI0:=hI;obtain ⟨hlen,hA,h1,hx,v,h3,ho⟩:=hI;have hjN:j < c.params.length:=by omega
   have hlt:ltB (j:Int) (c.params.length:Nat)=true:=cu (by omega);have hw:=b6 (j:=j) (by omega);have hbq:∀ L k n,ak (K++L) q k n=if k+n<=(bO c vp vs vi).length then some (((bO c vp vs vi).drop k).take n) else none:=fun L k n=>eU (hA.get hq) L k n
   have hbq0:∀ k n,ak K q k n=if k+n<=(bO c vp vs vi).length then some (((bO c vp vs vi).drop k).take n) else none:=fun k n=>by have:=hbq [] k n; rwa [af] at this
   have hlp:=h.lp;obtain ⟨i,k,b,hix,hrd0,hrd2⟩:=Ku h hA hjN;have hts:=qA (l:=pNs c) (j:=j) (by rw [k8]; exact hjN);obtain ⟨v',K',happ,hA',ho'⟩:=Hq hA ho (by rw [dR]; omega) (gD (pNs c) j);rw [Nj];rw [<-af K];simp (maxSteps:=4000000) -implicitDefEqProofs only [GM,f66,aP,hlen,h1,hx,h3,hlt,hw,hbq,hlp,hix,hrd0,↓bS,↓fO,GH,happ,r5,↓ba,↓aG,aF,eu,sevalprocAttr];generalize hX:EvC aa C0 W0 _ _ _=Z;refine ih (j+1) _ _ _ hX (by omega) (by omega) ?_;exact ⟨by simp only [ls,hlen],hA',Aj2 (by simp only [hlen,h1,hx,gB,and_self,sevalprocAttr]) ⟨v',by simp only [hlen,h3,gB,sevalprocAttr],by rw [hts]; first | exact ho' | (rw [<-aD]; exact ho')⟩⟩
theorem JU {G:AH} {c:Cod} {vp vs vi:AV} {q:Nat} (h:eW G c vp vs vi) (hq:G[q]? =some (.cells (bO c vp vs vi) 66)) (hb:c.params.length<=6) (hb2:c.shared.length<=4) (hN:c.shared.length < 2 ^ 60):∀ (d j:Nat) (tm:List AV) (K:AH) (Z:Option (bk × St)),EvC aa C0 W0 tg SF (tm,K)=Z->c.shared.length - j=d->j<=c.shared.length->(tm.length=98/\an G K/\tm.getD 1 uA=.ptr q 0/\tm.getD 5 uA=I ((j:Nat):Int)/\∃ v,tm.getD 3 uA=v/\Own G.length K 1 9 v ((pNs c++(sNs c).take j).map .str)) ->
   ∃ X K1 Y K2,Z=br (ck (fun j=>(!ltB (mZ c j) 1 && !ltB 64 (mZ c j))) (c.shared.length) (j)) (some (.exit 2,(X,K1))) (some (.ret,(Y,K2)))/\(ck (fun j=>(!ltB (mZ c j) 1 && !ltB 64 (mZ c j))) (c.shared.length) (j)=true->X.length=98/\an G K1/\X.getD 1 uA=.ptr q 0/\X.getD 5 uA=I ((c.shared.length:Nat):Int)/\∃ v,X.getD 3 uA=v/\Own G.length K1 1 9 v ((pNs c++(sNs c).take c.shared.length).map .str))/\Y.length=98/\Y.getD 2 uA=.bool false:=by
 intro d;induction d with
 | zero =>
   intro j tm K Z hZ hd hj hI;subst hZ;have hjl:j=c.shared.length:=by omega
   subst hjl;have hI0:=hI;obtain ⟨hlen,hA,h1,hx,v,h3,ho⟩:=hI;have hlt:ltB (((c.shared.length:Nat)):Int) (c.shared.length:Nat)=false:=cw (by omega);have hbq:∀ L k n,ak (K++L) q k n=if k+n<=(bO c vp vs vi).length then some (((bO c vp vs vi).drop k).take n) else none:=fun L k n=>eU (hA.get hq) L k n
   have hbq0:∀ k n,ak K q k n=if k+n<=(bO c vp vs vi).length then some (((bO c vp vs vi).drop k).take n) else none:=fun k n=>by have:=hbq [] k n; rwa [af] at this
   have hls:=h.ls;rw [dk (aw _)];rw [Ni];simp (maxSteps:=4000000) -implicitDefEqProofs only [Az,f66,aP,hlen,h1,hx,h3,hlt,hbq0,hls,r5,↓ba,↓aG,aF,eu,sevalprocAttr];refine ⟨_,K,tm.set 2 (.bool false),K,rfl,?_,by simp only [ls,hlen],by simp only [hlen,dK,aR]⟩;try intro _
   exact ⟨by first | exact hlen | simp only [aq,hlen],hA,Aj2 (by simp only [hlen,h1,hx,gB,and_self,sevalprocAttr]) ⟨v,by simp only [hlen,h3,gB,sevalprocAttr],ho⟩⟩
 | succ d ih =>
   intro j tm K Z hZ hd hj hI;subst hZ;have hI0:=hI;obtain ⟨hlen,hA,h1,hx,v,h3,ho⟩:=hI;have hjN:j < c.shared.length:=by omega
   have hlt:ltB (j:Int) (c.shared.length:Nat)=true:=cu (by omega);have hw:=b6 (j:=j) (by omega);have hbq:∀ L k n,ak (K++L) q k n=if k+n<=(bO c vp vs vi).length then some (((bO c vp vs vi).drop k).take n) else none:=fun L k n=>eU (hA.get hq) L k n
   have hbq0:∀ k n,ak K q k n=if k+n<=(bO c vp vs vi).length then some (((bO c vp vs vi).drop k).take n) else none:=fun k n=>by have:=hbq [] k n; rwa [af] at this
   have hls:=h.ls;obtain ⟨i,k,hix,hrd0,hrd1,hrd2⟩:=JI h hA hjN;have hts:=qA (l:=sNs c) (j:=j) (by rw [sZ]; exact hjN);obtain ⟨v',K',happ,hA',ho'⟩:=Hq hA ho (by rw [ai,dR,k8]; omega) (gD (sNs c) j);rw [cK hjN];rw [Ni];rw [<-af K];cases hp:((!ltB (mZ c j) 1 && !ltB 64 (mZ c j))) with
   | true =>rw [az,bl,bl] at hp;obtain ⟨hp3,hp4⟩:=hp;simp only [bf];simp (maxSteps:=4000000) -implicitDefEqProofs only [Az,f66,aP,hlen,h1,hx,h3,hlt,hw,hbq,hls,hix,hrd0,hrd1,↓bS,↓fO,GH,happ,r5,↓ba,hp3,hp4,↓aG,aF,eu,sevalprocAttr];generalize hX:EvC aa C0 W0 _ _ _=Z;refine ih (j+1) _ _ _ hX (by omega) (by omega) ?_;exact ⟨by simp only [ls,hlen],hA',Aj2 (by simp only [hlen,h1,hx,gB,and_self,sevalprocAttr]) ⟨v',by simp only [hlen,h3,gB,sevalprocAttr],by rw [hts]; first | exact ho' | (rw [<-aD]; exact ho')⟩⟩
   | false =>
     simp only [bd];cases hp3:ltB (mZ c j) 1 with
     | true =>simp (maxSteps:=4000000) -implicitDefEqProofs only [Az,f66,aP,hlen,h1,hx,h3,hlt,hw,hbq,hls,hix,hrd0,hrd1,↓bS,↓fO,GH,happ,r5,↓ba,hp3,↓aG,aF,eu,sevalprocAttr];exact ⟨tm,K,_,_,rfl,by first | exact trivial | (intro h; cases h),by simp only [ls,hlen],by simp only [hlen,gB,sevalprocAttr]⟩
     | false =>
       rw [hp3] at hp;have hp4:ltB 64 (mZ c j)=true:=by simpa using hp
       simp (maxSteps:=4000000) -implicitDefEqProofs only [Az,f66,aP,hlen,h1,hx,h3,hlt,hw,hbq,hls,hix,hrd0,hrd1,↓bS,↓fO,GH,happ,r5,↓ba,hp3,hp4,↓aG,aF,eu,sevalprocAttr];exact ⟨tm,K,_,_,rfl,by first | exact trivial | (intro h; cases h),by simp only [ls,hlen],by simp only [hlen,gB,sevalprocAttr]⟩
theorem Ee {H K:AH} {v:AV} {l:List ByteArray} (hs:SlS 164 1 H v (l.map fun s=>[AV.str s])) (hA:an H K) {j:Nat} (hj:j < l.length):∃ i k,(∀ kk,aC aa 164 v (.int kk (j:Int))=some (.ptr i k))/\(∀ L,ak (K++L) i k 1=some [.str (gD l j)]):=by obtain ⟨i,k,hi,hr⟩:=hs.ix j [.str (gD l j)] (by rw [aO,aj hj];unfold gD;rw [gde,aj hj]; rfl);exact ⟨i,k,hi,fun L=>iH hr hA L⟩
def yJ (l:List ByteArray) (i:Nat):Bool:=ck (fun k=>!sEq (gD l k) (gD l i)) i 0
def uP (l:List ByteArray) (i:Nat):Bool:=lR (gD l i) && yJ l i
theorem Own.sls {b:Nat} {H:AH} {v:AV} {l:List ByteArray} (h:Own b H 1 9 v (l.map .str)):SlS 164 1 H v (l.map fun s=>[AV.str s]):=by
 have hlen:=h.length;rw [ao,dM] at hlen;generalize hxs:l.map AV.str=xs at h;cases h with
 | nil =>
   have:l=[]:=by simpa using hxs
   subst this;exact ⟨fun G=>VA G,fun j r hr=>by simp at hr,.inl ⟨rfl,rfl⟩⟩
 | «at» i k len cap ex cs xs hb hi hl hc h =>
   rw [cp] at hlen;refine ⟨fun G=>by rw [Sj,ao,hlen],fun j r hr=>?_,.inr ⟨i,k,cap,ex,by rw [ao,hlen],by unfold okC; rw [hi],by rw [ao,hlen,qb,hxs]; exact h⟩⟩;rw [aO] at hr;obtain ⟨w,hw,rfl⟩:=ah.1 hr;have hj:j < len:=by rw [<-hlen]; exact aI hw
   refine ⟨i,k+j * 1,fun kk=>by rw [TA,if_pos ⟨by omega,by omega,rfl⟩]; rfl,?_⟩;have:=ku h (j:=j) (x:=.str w) (by rw [<-hxs,aO,hw]; rfl);rwa [dM]
theorem TK {H:AH} {v:AV} {l:List ByteArray} {i:Nat} (hs:SlS 164 1 H v (l.map fun s=>[AV.str s])) (hi:i < l.length) (hN:i < 2 ^ 60):∀ (d j:Nat) (tm:List AV) (K:AH) (Z:Option (bk × St)),EvC aa C0 W0 tg SE (tm,K)=Z->i - j=d->j<=i->an H K->tm.length=98->tm.getD 3 uA=v->tm.getD 6 uA=I ((i:Nat):Int)->tm.getD 7 uA=I ((j:Nat):Int) ->
   ∃ X Y K1 K2,Z=br (ck (fun j=>!sEq (gD l j) (gD l i)) (i) (j)) (some (.exit 6,(X,K1))) (some (.ret,(Y,K2)))/\(X.length=98/\an H K1/\X.getD 3 uA=v/\X.getD 6 uA=I ((i:Nat):Int))/\Y.length=98/\Y.getD 2 uA=.bool false:=by
 intro d;induction d with
 | zero =>
   intro j tm K Z hZ hd hj hA hlen h3 h6 h7;subst hZ;have hjl:j=i:=by omega
   have hlt:ltB (j:Int) (i:Nat)=false:=cw (by omega);rw [dk (by omega),Nh];simp (maxSteps:=4000000) -implicitDefEqProofs only [Dx,f66,aP,hlen,h3,h6,h7,hlt,↓aG,aF,eu,sevalprocAttr];exact ⟨_,tm.set 2 (.bool false),_,K,rfl,⟨by first | exact hlen | simp only [aq,hlen],hA,by first | exact h3 | simp only [hlen,h3,gB,sevalprocAttr],by first | exact h6 | simp only [hlen,h6,gB,sevalprocAttr]⟩,by simp only [ls,hlen],by simp only [hlen,dK,aR]⟩
 | succ d ih =>
   intro j tm K Z hZ hd hj hA hlen h3 h6 h7;subst hZ;have hjN:j < i:=by omega
   have hlt:ltB (j:Int) (i:Nat)=true:=cu (by omega);have hw:=b6 (j:=j) (by omega);obtain ⟨i0,k0,hix,hrd⟩:=Ee hs hA (j:=j) (by omega);obtain ⟨i1,k1,hix1,hrd1⟩:=Ee hs hA hi;rw [cK hjN,Nh];rw [<-af K];cases hp:(!sEq (gD l j) (gD l i)) with
   | true =>simp only [bf];rw [bl] at hp;simp (maxSteps:=4000000) -implicitDefEqProofs only [Dx,f66,aP,hlen,h3,h6,h7,hlt,hw,Cj,hix,hrd,hix1,hrd1,hp,r5,↓ba,↓aG,aF,eu,sevalprocAttr];exact ih (j+1) _ _ _ rfl (by omega) (by omega) (by first | exact hA | exact hA.bX _ | exact (hA.bX _).bX _ | exact hA) (by simp only [ls,hlen]) (by simp only [hlen,h3,gB,sevalprocAttr]) (by simp only [hlen,h6,gB,sevalprocAttr]) (by simp only [hlen,h7,gB,sevalprocAttr])
   | false =>simp only [bd];rw [Bool.not_eq_false'] at hp;simp (maxSteps:=4000000) -implicitDefEqProofs only [Dx,f66,aP,hlen,h3,h6,h7,hlt,hw,Cj,hix,hrd,hix1,hrd1,hp,r5,↓ba,↓aG,aF,eu,sevalprocAttr];exact ⟨tm,_,K,_,rfl,⟨hlen,hA,h3,h6⟩,by simp only [ls,hlen],by simp only [hlen,gB,sevalprocAttr]⟩
theorem X9 {H:AH} {v:AV} {l:List ByteArray} (hs:SlS 164 1 H v (l.map fun s=>[AV.str s])) (hz:∀ s∈l,s.size < 2 ^ 60) (hN:l.length < 2 ^ 60):∀ (d j:Nat) (tm:List AV) (K:AH) (Z:Option (bk × St)),EvC aa C0 W0 tg SD (tm,K)=Z->l.length - j=d->j<=l.length->(tm.length=98/\an H K/\tm.getD 3 uA=v/\tm.getD 6 uA=I ((j:Nat):Int)) ->
   ∃ X K1 Y K2,Z=br (ck (fun j=>uP l j) (l.length) (j)) (some (.exit 4,(X,K1))) (some (.ret,(Y,K2)))/\(ck (fun j=>uP l j) (l.length) (j)=true->X.length=98/\an H K1/\X.getD 3 uA=v/\X.getD 6 uA=I ((l.length:Nat):Int))/\Y.length=98/\Y.getD 2 uA=.bool false:=by
 intro d;induction d with
 | zero =>
   intro j tm K Z hZ hd hj hI;subst hZ;have hjl:j=l.length:=by omega
   subst hjl;have hI0:=hI;obtain ⟨hlen,hA,h3,h6⟩:=hI;have hlt:ltB (((l.length:Nat)):Int) (l.length:Nat)=false:=cw (by omega);have hl:∀ G,d4 aa 164 G v=some (I l.length):=fun G=>by have:=hs.len G; rwa [ao] at this
   rw [dk (aw _)];rw [Ng];simp (maxSteps:=4000000) -implicitDefEqProofs only [Ay,f66,aP,hlen,h3,h6,hlt,hl,↓fO,r5,↓ba,↓aG,aF,eu,sevalprocAttr];refine ⟨_,K,tm.set 2 (.bool false),K,rfl,?_,by simp only [ls,hlen],by simp only [hlen,dK,aR]⟩;try intro _
   exact ⟨by first | exact hlen | simp only [aq,hlen],hA,by simp only [hlen,h3,h6,gB,and_self,sevalprocAttr]⟩
 | succ d ih =>
   intro j tm K Z hZ hd hj hI;subst hZ;have hI0:=hI;obtain ⟨hlen,hA,h3,h6⟩:=hI;have hjN:j < l.length:=by omega
   have hlt:ltB (j:Int) (l.length:Nat)=true:=cu (by omega);have hw:=b6 (j:=j) (by omega);have hl:∀ G,d4 aa 164 G v=some (I l.length):=fun G=>by have:=hs.len G; rwa [ao] at this
   obtain ⟨i,k,hix,hrd⟩:=Ee hs hA hjN;have hsK:=(hs.same hA);have hnz:(gD l j).size < 2 ^ 60:=by unfold gD;rw [gde,aj hjN];exact hz _ (List.getElem_mem _)
   have h96:=fun L=>Z9 hnz L;rw [cK hjN];rw [Ng];rw [<-af K];cases hp:(uP l j) with
   | true =>unfold uP at hp;rw [az] at hp;obtain ⟨hp1,hp2⟩:=hp;simp only [bf];simp (maxSteps:=4000000) -implicitDefEqProofs only [Ay,f66,aP,hlen,h3,h6,hlt,hw,hl,hix,hrd,↓fO,↓E5,h96,r5,↓ba,hp1,↓aG,aF,eu,sevalprocAttr];generalize hX:EvC aa C0 W0 _ (Code.loop _) _=Z;obtain ⟨X,Y,K1,K2,he,xs,y0,y1⟩:=TK hsK hjN (by omega) _ 0 _ _ _ hX rfl (aV _) (an.app _ _) (by simp only [ls,hlen,h3,h6]) (by simp only [hlen,h3,h6,gB,sevalprocAttr]; try rfl) (by simp only [hlen,h3,h6,gB,sevalprocAttr]; try rfl) (by simp only [hlen,h3,h6,gB,sevalprocAttr]; try rfl);subst he;unfold yJ at hp2;simp (maxSteps:=4000000) -implicitDefEqProofs only [hp2,xs.1,xs.2.2.2,hw,↓aG,aF,eu,sevalprocAttr];generalize hX:EvC aa C0 W0 _ _ _=Z;refine ih (j+1) _ _ _ hX (by omega) (by omega) ?_;exact ⟨by simp only [ls,xs.1],hA.trans xs.2.1,by simp only [xs.1,xs.2.2.1,gB,and_self,sevalprocAttr]⟩
   | false =>
     simp only [bd];unfold uP at hp;cases hp1:lR (gD l j) with
     | false =>simp (maxSteps:=4000000) -implicitDefEqProofs only [Ay,f66,aP,hlen,h3,h6,hlt,hw,hl,hix,hrd,↓fO,↓E5,h96,r5,↓ba,hp1,↓aG,aF,eu,sevalprocAttr];exact ⟨tm,K,_,_,rfl,by first | exact trivial | (intro h; cases h),by simp only [ls,hlen],by simp only [hlen,gB,sevalprocAttr]⟩
     | true =>rw [hp1,bf] at hp;unfold yJ at hp;simp (maxSteps:=4000000) -implicitDefEqProofs only [Ay,f66,aP,hlen,h3,h6,hlt,hw,hl,hix,hrd,↓fO,↓E5,h96,r5,↓ba,hp1,↓aG,aF,eu,sevalprocAttr];generalize hX:EvC aa C0 W0 _ (Code.loop _) _=Z;obtain ⟨X,Y,K1,K2,he,xs,y0,y1⟩:=TK hsK hjN (by omega) _ 0 _ _ _ hX rfl (aV _) (an.app _ _) (by simp only [ls,hlen,h3,h6]) (by simp only [hlen,h3,h6,gB,sevalprocAttr]; try rfl) (by simp only [hlen,h3,h6,gB,sevalprocAttr]; try rfl) (by simp only [hlen,h3,h6,gB,sevalprocAttr]; try rfl);subst he;simp (maxSteps:=4000000) -implicitDefEqProofs only [hp,y0,y1,↓aG,aF,eu,sevalprocAttr];exact ⟨tm,K,Y,_,rfl,by first | exact trivial | (intro h; cases h),y0,y1⟩
theorem Pv (l:List ByteArray) (s:ByteArray):sIn l s=true↔s∈l:=by
 unfold sIn;induction l with
 | nil=>simp
 | cons x l ih =>rw [List.contains_cons,Bool.or_eq_true,ih,List.mem_cons];rw [AS,qC]
theorem Ag {l:List ByteArray} {i:Nat} (hi:i < l.length):yJ l i=!sIn (l.take i) (gD l i):=by
 rw [gI];unfold yJ;rw [gz,bl,<-lM,Pv];have hn:∀ k,k < l.length->l[k]? =some (gD l k):=fun k hk=>by unfold gD;rw [gde,aj hk]; rfl
 constructor
 · intro h hm;obtain ⟨k,hk⟩:=qu.1 hm;have hki:k < i:=by have:=aI hk;rw [dR] at this; omega
   rw [AG hki,hn k (by omega)] at hk;have:=h k hki;rw [bl,aB hk] at this;have e:sEq (gD l i) (gD l i)=true:=by rw [qC]
   rw [e] at this; cases this
 · intro h k hk;rw [bl,<-lM,qC];intro e;refine h (qu.2 ⟨k,?_⟩);rw [AG hk,hn k (by omega),e]
theorem QQ {p s:List ByteArray} {j:Nat} (h:j < p.length):gD (p++s) j=gD p j:=by unfold gD;rw [gde,gde,ar h]
theorem QP {p s:List ByteArray} (j:Nat):gD (p++s) (p.length+j)=gD s j:=by unfold gD;rw [gde,gde,al (dI _ _),aN]
def pA (c:Cod):List ByteArray:=pNs c++sNs c
def szP (c:Cod) (j:Nat):Bool:=!ltB (mZ c j) 1 && !ltB 64 (mZ c j)
theorem Ly (c:Cod):(ck (fun j=>szP c j) c.shared.length 0 && ck (fun j=>uP (pA c) j) (pA c).length 0)=(ck (fun j=>zy c j) c.params.length 0 && ck (fun j=>zt c j) c.shared.length 0):=by
 have hlen:(pA c).length=c.params.length+c.shared.length:=by unfold pA; rw [ai,k8,sZ]
 have hpar:∀ j,j < c.params.length->uP (pA c) j=zy c j:=fun j hj=>by unfold uP zy;rw [Ag (by omega)];unfold pA;rw [QQ (by rw [k8]; exact hj),List.take_append_of_le_length (by rw [k8]; omega)]
 have hshr:∀ j,j < c.shared.length->(szP c j && uP (pA c) (c.params.length+j))=zt c j:=fun j hj=>by unfold uP zt szP;rw [Ag (by omega)];unfold pA;have e:=k8 c;rw [<-e,QP j,List.take_append,bt (dI _ _),aN];cases lR (gD (sNs c) j) <;> cases sIn (pNs c++List.take j (sNs c)) (gD (sNs c) j) <;> cases ltB (mZ c j) 1 <;> cases ltB 64 (mZ c j) <;> rfl
 rw [gI,az,az,gz,gz,gz,gz,hlen];constructor
 · intro ⟨h1,h2⟩;refine ⟨fun j hj=>?_,fun j hj=>?_⟩
   · rw [<-hpar j hj]; exact h2 j (by omega)
   · rw [<-hshr j hj,h1 j hj,h2 _ (by omega)]; rfl
 · intro ⟨h1,h2⟩;have hs:∀ j,j < c.shared.length->szP c j=true/\uP (pA c) (c.params.length+j)=true:=fun j hj=>by have:=h2 j hj;rw [<-hshr j hj,az] at this; exact this
   refine ⟨fun j hj=>(hs j hj).1,fun j hj=>?_⟩;rcases Nat.lt_or_ge j c.params.length with c1 | c1
   · rw [hpar j c1]; exact h1 j c1
   · have:=(hs (j - c.params.length) (by omega)).2;rwa [Nat.add_sub_cancel' c1] at this
def CO (c:Cod):Bool:=lR c.name && !ltB 6 (c.params.length:Int) && !ltB 4 (c.shared.length:Int) && (ck (fun j=>szP c j) c.shared.length 0 && ck (fun j=>uP (pA c) j) (pA c).length 0)
theorem aeq {H:AH} {c:Cod} {vp vs vi:AV} (h:eW H c vp vs vi):Ev aa C0 W0 66 [.agg (bO c vp vs vi)] H=some (.bool (CO c),H):=by
 obtain ⟨tm,ht,g0,g1⟩:=tm1 (.agg (bO c vp vs vi)) 98 (by decide);rw [acS,ht];rw [<-af (ro H)];unfold CO;have hlp:=h.ro.lp;have hls:=h.ro.ls;have h96:=fun L=>Z9 h.nm L;cases h0:lR c.name with
 | false=>simp (maxSteps:=4000000) -implicitDefEqProofs only [c66,f66,aP,g0,g1,hlp,hls,↓E5,h96,r5,↓ba,h0,↓aG,aF,eu,sevalprocAttr]
 | true =>
   cases h1:ltB 6 (c.params.length:Int) with
   | true=>simp (maxSteps:=4000000) -implicitDefEqProofs only [c66,f66,aP,g0,g1,hlp,hls,↓E5,h96,r5,↓ba,h0,h1,↓aG,aF,eu,sevalprocAttr]
   | false =>
     cases h2:ltB 4 (c.shared.length:Int) with
     | true=>simp (maxSteps:=4000000) -implicitDefEqProofs only [c66,f66,aP,g0,g1,hlp,hls,↓E5,h96,r5,↓ba,h0,h1,h2,↓aG,aF,eu,sevalprocAttr]
     | false =>
       simp (maxSteps:=4000000) -implicitDefEqProofs only [c66,f66,aP,g0,g1,hlp,hls,↓E5,h96,r5,↓ba,h0,h1,h2,↓aG,aF,eu,sevalprocAttr];have hG:eW (ro H++[bm.cells (bO c vp vs vi) 66]) c vp vs vi:=h.ro.aZ (an.app _ _);have hq:(ro H++[bm.cells (bO c vp vs vi) 66])[(ro H).length]? =some (.cells (bO c vp vs vi) 66):=by rw [al (aw _),d9]; rfl
       have hb:c.params.length<=6:=by rw [fZ] at h1; omega
       have hb2:c.shared.length<=4:=by rw [fZ] at h2; omega
       generalize hX:EvC aa C0 W0 _ (Code.loop _) _=Z;obtain ⟨X,K1,he,i0,iA,i1,ix,v,i3,io⟩:=JV (q:=(ro H).length) hG hq hb (by omega) _ 0 _ _ _ hX rfl (aV _) ⟨by simp only [ls,g0],an.refl _,by simp only [g0,gB,sevalprocAttr]; try rfl,by simp only [g0,gB,sevalprocAttr]; try rfl,.nilSlice,by simp only [g0,gB,sevalprocAttr]; try rfl,.nil⟩;subst he;simp (maxSteps:=4000000) -implicitDefEqProofs only [aP,i0,i1,i3,↓aG,aF,eu,sevalprocAttr];generalize hX2:EvC aa C0 W0 _ (Code.loop _) _=Z;obtain ⟨X2,K2,Y2,L2,he,hi2,y0,y1⟩:=JU (q:=(ro H).length) hG hq hb hb2 (by omega) _ 0 _ _ _ hX2 rfl (aV _) ⟨by simp only [ls,i0],iA,by simp only [i0,i1,gB,sevalprocAttr]; try rfl,by simp only [i0,gB,sevalprocAttr]; try rfl,v,by simp only [i0,i3,gB,sevalprocAttr]; try rfl,by rw [List.take_zero,af]; rw [bt (by rw [k8]; exact aw _)] at io; exact io⟩;subst he;unfold szP;cases hf:ck (fun j=>!ltB (mZ c j) 1 && !ltB 64 (mZ c j)) c.shared.length 0 with
       | false=>simp (maxSteps:=4000000) -implicitDefEqProofs only [y0,y1,hf,↓aG,aF,eu,sevalprocAttr]
       | true =>
         obtain ⟨j0,jA,j1,jx,v2,j3,jo⟩:=hi2 hf;rw [bt (by rw [sZ]; exact aw _)] at jo;have hsl:SlS 164 1 K2 v2 ((pA c).map fun s=>[AV.str s]):=jo.sls;have hln:(pA c).length=c.params.length+c.shared.length:=by unfold pA; rw [ai,k8,sZ]
         have hz:∀ s∈pA c,s.size < 2 ^ 60:=by
           intro s hs;unfold pA pNs sNs at hs;rw [List.mem_append,bI,bI] at hs;rcases hs with ⟨p,hp,rfl⟩ | ⟨p,hp,rfl⟩
           · exact h.pn p hp
           · exact h.sn p hp
         simp (maxSteps:=4000000) -implicitDefEqProofs only [aP,hf,j0,j1,j3,↓aG,aF,eu,sevalprocAttr];generalize hX3:EvC aa C0 W0 _ (Code.loop _) _=Z;obtain ⟨X3,K3,Y3,L3,he,hi3,z0,z1⟩:=X9 hsl hz (by omega) _ 0 _ _ _ hX3 rfl (aV _) ⟨by simp only [ls,j0],an.refl _,by simp only [j0,j3,gB,sevalprocAttr]; try rfl,by simp only [j0,gB,sevalprocAttr]; try rfl⟩;subst he;cases hf2:ck (fun j=>uP (pA c) j) (pA c).length 0 with
         | false=>simp (maxSteps:=4000000) -implicitDefEqProofs only [z0,z1,hf2,↓aG,aF,eu,sevalprocAttr]
         | true =>have k0:=(hi3 hf2).1;simp (maxSteps:=4000000) -implicitDefEqProofs only [k0,hf2,↓aG,aF,eu,sevalprocAttr]
def Ec (c:Cod):Bool:=CO c && !ltB c.loc 0 && !ltB 64 c.loc && !ltB (c.insns.length:Int) 1 && !ltB 2000 (c.insns.length:Int) && allI c && Gb c
theorem Jw (c:Cod):Ec c=jQ c:=by unfold Ec jQ CO Ad;rw [Ly];ac_rfl
theorem JO {G:AH} {c:Cod} {vp vs vi:AV} {q:Nat} (h:eW G c vp vs vi) (hq:G[q]? =some (.cells (bO c vp vs vi) 66)) (hN:c.insns.length < 2 ^ 60):∀ (d j:Nat) (tm:List AV) (K:AH) (Z:Option (bk × St)),EvC aa C0 W0 Cn SO (tm,K)=Z->c.insns.length - j=d->j<=c.insns.length->an G K->tm.length=60->tm.getD 1 uA=.ptr q 0->tm.getD 3 uA=I c.insns.length->tm.getD 4 uA=I ((j:Nat):Int) ->
   ∃ X Y K1 K2,Z=br (ck (fun j=>tG c (mW c j)) (c.insns.length) (j)) (some (.exit 0,(X,K1))) (some (.ret,(Y,K2)))/\(X.length=60/\an G K1/\X.getD 1 uA=.ptr q 0/\X.getD 3 uA=I c.insns.length)/\Y.length=60/\Y.getD 2 uA=.bool false:=by
 intro d;induction d with
 | zero =>
   intro j tm K Z hZ hd hj hA hlen h1 h3 h4;subst hZ;have hjl:j=c.insns.length:=by omega
   subst hjl;have hlt:ltB (((c.insns.length:Nat)):Int) (c.insns.length:Nat)=false:=cw (by omega);rw [dk (aw _),Nu];simp (maxSteps:=4000000) -implicitDefEqProofs only [DE,f37,aP,hlen,h1,h3,h4,hlt,↓aG,aF,eu,sevalprocAttr];exact ⟨_,tm.set 2 (.bool false),_,K,rfl,⟨by first | exact hlen | simp only [aq,hlen],hA,by first | exact h1 | simp only [hlen,h1,gB,sevalprocAttr],by first | exact h3 | simp only [hlen,h3,gB,sevalprocAttr]⟩,by simp only [ls,hlen],by simp only [hlen,dK,aR]⟩
 | succ d ih =>
   intro j tm K Z hZ hd hj hA hlen h1 h3 h4;subst hZ;have hjN:j < c.insns.length:=by omega
   have hlt:ltB (j:Int) (c.insns.length:Nat)=true:=cu (by omega);have hw:=b6 (j:=j) (by omega);obtain ⟨i,k,hix,hrd0,hrd2⟩:=Bl h hA hjN;have h67:=fun L=>aep ((h.aZ hA).aZ (an.app K L)) (L0 h hjN);have hbq:∀ L k n,ak (K++L) q k n=if k+n<=(bO c vp vs vi).length then some (((bO c vp vs vi).drop k).take n) else none:=fun L k n=>eU (hA.get hq) L k n
   simp only [eQ,bO] at h67;rw [cK hjN,Nu];rw [<-af K];cases hp:(tG c (mW c j)) with
   | true =>simp only [bf];simp (maxSteps:=4000000) -implicitDefEqProofs only [DE,f37,aP,hlen,h1,h3,h4,hlt,hw,FY,R9,hix,hrd2,hbq,↓ZH,h67,hp,r5,↓ba,↓aG,aF,eu,sevalprocAttr];exact ih (j+1) _ _ _ rfl (by omega) (by omega) (by first | exact hA | exact hA.bX _ | exact (hA.bX _).bX _) (by simp only [ls,hlen]) (by simp only [hlen,h1,gB,sevalprocAttr]) (by simp only [hlen,h3,gB,sevalprocAttr]) (by simp only [hlen,h4,gB,sevalprocAttr])
   | false =>simp only [bd];simp (maxSteps:=4000000) -implicitDefEqProofs only [DE,f37,aP,hlen,h1,h3,h4,hlt,hw,FY,R9,hix,hrd2,hbq,↓ZH,h67,hp,r5,↓ba,↓aG,aF,eu,sevalprocAttr];exact ⟨tm,_,K,_,rfl,⟨hlen,hA,h1,h3⟩,by simp only [ls,hlen],by simp only [hlen,gB,sevalprocAttr]⟩
theorem aeJ {H:AH} {c:Cod} {vp vs vi:AV} (h:eW H c vp vs vi):Ev aa C0 W0 37 [.agg (bO c vp vs vi)] H=some (.bool (jQ c),H):=by
 rw [<-Jw];obtain ⟨tm,ht,g0,g1⟩:=tm1 (.agg (bO c vp vs vi)) 60 (by decide);rw [adi,ht];rw [<-af (ro H)];unfold Ec;have hli:=h.ro.li;have hib:=h.ni;have h66:=fun L=>aeq (h.ro.aZ (an.app (ro H) L));simp only [bO] at h66;cases h0:CO c with
 | false=>simp (maxSteps:=4000000) -implicitDefEqProofs only [c37,f37,aP,g0,g1,hli,↓IJ,h66,r5,↓ba,h0,↓aG,aF,eu,sevalprocAttr]
 | true =>
   cases h1:ltB c.loc 0 with
   | true=>simp (maxSteps:=4000000) -implicitDefEqProofs only [c37,f37,aP,g0,g1,hli,↓IJ,h66,r5,↓ba,h0,h1,↓aG,aF,eu,sevalprocAttr]
   | false =>
     cases h2:ltB 64 c.loc with
     | true=>simp (maxSteps:=4000000) -implicitDefEqProofs only [c37,f37,aP,g0,g1,hli,↓IJ,h66,r5,↓ba,h0,h1,h2,↓aG,aF,eu,sevalprocAttr]
     | false =>
       cases h3:ltB (c.insns.length:Int) 1 with
       | true=>simp (maxSteps:=4000000) -implicitDefEqProofs only [c37,f37,aP,g0,g1,hli,↓IJ,h66,r5,↓ba,h0,h1,h2,h3,↓aG,aF,eu,sevalprocAttr]
       | false =>
         cases h4:ltB 2000 (c.insns.length:Int) with
         | true=>simp (maxSteps:=4000000) -implicitDefEqProofs only [c37,f37,aP,g0,g1,hli,↓IJ,h66,r5,↓ba,h0,h1,h2,h3,h4,↓aG,aF,eu,sevalprocAttr]
         | false =>
           have hn1:1<=c.insns.length:=by rw [fZ] at h3; omega
           have hw1:IntKind.i64.wrap ((c.insns.length:Int) - 1)=((c.insns.length - 1:Nat):Int):=by rw [pw (by omega)]; omega
           have hG:eW (ro H++[bm.cells (bO c vp vs vi) 66]) c vp vs vi:=h.ro.aZ (an.app _ _);have hq:(ro H++[bm.cells (bO c vp vs vi) 66])[(ro H).length]? =some (.cells (bO c vp vs vi) 66):=by rw [al (aw _),d9]; rfl
           simp (maxSteps:=4000000) -implicitDefEqProofs only [c37,f37,aP,g0,g1,hli,↓IJ,h66,r5,↓ba,h0,h1,h2,h3,h4,↓aG,aF,eu,sevalprocAttr];generalize hX:EvC aa C0 W0 _ (Code.loop _) _=Z;obtain ⟨X,Y,K1,K2,he,xs,y0,y1⟩:=JO hG hq (Nat.lt_trans h.ni (by decide)) _ 0 _ _ _ hX rfl (aV _) (an.refl _) (by simp only [ls,g0]) (by simp only [g0,gB,sevalprocAttr]; try rfl) (by simp only [g0,gB,sevalprocAttr]; try rfl) (by simp only [g0,gB,sevalprocAttr]; try rfl);subst he;cases hf:allI c with
           | false =>unfold allI at hf;simp (maxSteps:=4000000) -implicitDefEqProofs only [xs.1,y0,y1,hf,↓aG,aF,eu,sevalprocAttr]
           | true =>
             unfold allI at hf;obtain ⟨x0,xA,x1,x3⟩:=xs;obtain ⟨i,k,hix,hrd0,hrd2⟩:=Bl hG xA (j:=c.insns.length - 1) (by omega);have hlk:(mW c (c.insns.length - 1)).kind=yx c:=rfl;rw [hlk] at hrd0;have hbq:∀ L k n,ak (K1++L) (ro H).length k n=if k+n<=(bO c vp vs vi).length then some (((bO c vp vs vi).drop k).take n) else none:=fun L k n=>eU (xA.get hq) L k n
             have hbq0:∀ k n,ak K1 (ro H).length k n=if k+n<=(bO c vp vs vi).length then some (((bO c vp vs vi).drop k).take n) else none:=fun k n=>by have:=hbq [] k n; rwa [af] at this
             have hrd1:=hrd0 [];rw [af] at hrd1;unfold Gb;cases e15:eqB (yx c) 15 <;> simp (maxSteps:=4000000) -implicitDefEqProofs only [aP,hf,x0,x1,x3,hbq0,hix,hrd1,hw1,e15,r5,↓ba,↓aG,aF,eu,sevalprocAttr]
end Go.Dv
