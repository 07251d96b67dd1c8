/- Part 35 of the walks (own work). -/
import Derived.Test.YtilpjnckfkjkbaaGreatDoorU34
open Bool renaming and_eq_true→az,eq_iff_iff→gI,not_eq_true→lM,not_eq_true'→bl
open List renaming any_cons→cW,any_nil→dz,any_toArray→cj,append_nil→af,contains_iff_mem→jg,drop_eq_getElem_cons→g7,drop_zero→ib,ext_getElem?→gA,getElem?_eq_getElem→aj,getElem?_eq_none→aE,getElem?_map→aO,getElem?_range→gE,getElem?_set→cV,getElem?_set_ne→ay,getElem?_set_self→bG,length_append→ai,length_cons→cR,length_filter_le→gW,length_map→ao,length_nil→gH,length_range→er,length_set→aq,map_congr_left→mz,map_const'→O0,mem_cons→bW,mem_range→eX,not_mem_nil→cE,range→bp,replicate→au,take_of_length_le→bt
open Nat renaming add_assoc→bN,le_refl→aw,lt_or_ge→bc
open Option renaming getD_some→fE,map_some→cH
open Option.some renaming inj→aB
open Go.Proofs.Tryz renaming prog→aa
set_option maxRecDepth 100000
set_option maxHeartbeats 4000000
set_option linter.unusedSimpArgs false
set_option linter.unusedVariables false
open Go.Proofs.Tryz (f19 f55)
namespace Go.Dv
open Go.Proofs
attribute [local congr] aA bC aT bB bD
theorem YY (i k:Nat) (kk:IntKind) (n:Int):aC aa 112 (.ptr i k) (.int kk n)=if 0<=n/\n < 6 then some (.ptr i (k+n.toNat * 1)) else none:=by kernel_rfl
theorem yE {a:Nat} (h:a < 6) (i:Nat) (kk:IntKind):aC aa 112 (.ptr i 0) (.int kk (a:Int))=some (.ptr i a):=by rw [YY,if_pos (by omega),Int.toNat_natCast,Nat.mul_one,Nat.zero_add]
theorem Sp (H:AH) (i k:Nat):ldA aa 112 H i k=(ak H i k 6).map .agg:=by kernel_rfl
theorem R3 (H:AH) (i k:Nat) (x:AV):stA aa 112 H i k x=if x.cells.length=6 then bj H i k x.cells else none:=by kernel_rfl
theorem abu:d8 aa 112=some (.agg (au 6 (.bool false))):=by kernel_rfl
theorem d3 {K:AH} {i:Nat} {o:bm} (h:K[i]? =some o):K.set i o=K:=by obtain ⟨h1,e⟩:=List.getElem?_eq_some_iff.1 h;rw [<-e,List.set_getElem_self]
theorem UA (u:List AV) (s d:Nat):(u.set d (.bool true)).set s (.bool true)=(u.set s (.bool true)).set d (.bool true):=by
 by_cases h:s=d
 · rw [h]
 · exact List.set_comm _ _ (fun e=>h e.symm)
theorem H4 {tm:List AV} {G:AH} {u c':List AV} (hu:u.length=6) (hc:c'.length=6) (hlen:tm.length=63) (h3:tm.getD 3 uA=.ptr G.length 0) (h4:tm.getD 4 uA=.ptr (G.length+1) 0) (h5:tm.getD 5 uA=.ptr (G.length+2) 0) (va:AV) (k c g b s d e w:Int) {y:Nat} (hy:y < 6) (hd:d=y) {R:Option (bk × St)} (hR:EvC aa C0 W0 pz (aH [true,false,true,false,true,true,true,true,true,false] c55) (tm,G++[.cells [I k,I c,I g,I b,I s,I d,I e,va,.int .i32 w] 34,.cells (u) 112,.cells (c') 112])=R):∃ tm',R=some (.normal,(tm',G++[.cells [I k,I c,I g,I b,I s,I d,I e,va,.int .i32 w] 34,.cells (u.set y (.bool true)) 112,.cells (c'.set y (.bool true)) 112]))/\tm'.length=63/\tm'.getD 3 uA=tm.getD 3 uA/\tm'.getD 4 uA=tm.getD 4 uA/\tm'.getD 5 uA=tm.getD 5 uA:=by subst hR;simp -implicitDefEqProofs only [c55,f55,aP,hlen,hu,hc,h3,h4,h5,↓cD KA,EE,cj,cW,dz,bZ,xJ,st4,aq,hd,yE hy,hy,show y+1<=6 from hy,↓dW,↓dS,↓gK,↓eP,↓dU,↓eR,↓da,↓dX,↓bP,↓bz,↓cg,↓eT,↓de,↓dY,↓bR,↓bQ,↓ch,↓dJ,↓cJ,dg,bH,ai,bN,cd,cI,dh,↓zzC,zzE,sevalprocAttr];exact ⟨_,rfl,by simp only [ls,hlen],by simp only [hlen,h3,h4,h5,gB,and_self,sevalprocAttr]⟩
theorem H5 {tm:List AV} {G:AH} {u c':List AV} (hu:u.length=6) (hc:c'.length=6) (hlen:tm.length=63) (h3:tm.getD 3 uA=.ptr G.length 0) (h4:tm.getD 4 uA=.ptr (G.length+1) 0) (h5:tm.getD 5 uA=.ptr (G.length+2) 0) (va:AV) (k c g b s d e w:Int) {x0 y:Nat} (hx:x0 < 6) (hy:y < 6) (hs:s=x0) (hd:d=y) {R:Option (bk × St)} (hR:EvC aa C0 W0 pz (aH [true,false,true,false,true,true,true,false] c55) (tm,G++[.cells [I k,I c,I g,I b,I s,I d,I e,va,.int .i32 w] 34,.cells (u) 112,.cells (c') 112])=R):∃ tm',R=some (.normal,(tm',G++[.cells [I k,I c,I g,I b,I s,I d,I e,va,.int .i32 w] 34,.cells ((u.set x0 (.bool true)).set y (.bool true)) 112,.cells (c'.set y (.bool true)) 112]))/\tm'.length=63/\tm'.getD 3 uA=tm.getD 3 uA/\tm'.getD 4 uA=tm.getD 4 uA/\tm'.getD 5 uA=tm.getD 5 uA:=by subst hR;simp -implicitDefEqProofs only [c55,f55,aP,hlen,hu,hc,h3,h4,h5,↓cD KB,EF,cj,cW,dz,bZ,xJ,st4,aq,hs,hd,yE hy,hy,show y+1<=6 from hy,yE hx,hx,show x0+1<=6 from hx,UA u x0 y,↓dW,↓dS,↓gK,↓eP,↓dU,↓eR,↓da,↓dX,↓bP,↓bz,↓cg,↓eT,↓de,↓dY,↓bR,↓bQ,↓ch,↓dJ,↓cJ,dg,bH,ai,bN,cd,cI,dh,↓zzC,zzE,sevalprocAttr];exact ⟨_,rfl,by simp only [ls,hlen],by simp only [hlen,h3,h4,h5,gB,and_self,sevalprocAttr]⟩
theorem J4 {tm:List AV} {G:AH} {u c' cr:List AV} {j:Nat} (hu:u.length=6) (hc:c'.length=6) (hlen:tm.length=63) (h3:tm.getD 3 uA=.ptr G.length 0) (h4:tm.getD 4 uA=.ptr (G.length+1) 0) (h5:tm.getD 5 uA=.ptr (G.length+2) 0) (h7:tm.getD 7 uA=I (j:Int)) (va:AV) (k c g b s d e w:Int) {y i2 k2:Nat} (hy:y < 6) (hix:∀ kk,aC aa 32 va (.int kk (j:Int))=some (.ptr i2 k2)) (hra:∀ L,ak (G++L) i2 k2 1=some [.int .i32 (y:Int)]) {R:Option (bk × St)} (hR:EvC aa C0 W0 pz (aH [true,false,true,false,true,false,true,true,false,false,true,false,false,true,false] c55) (tm,G++[.cells [I k,I c,I g,I b,I s,I d,I e,va,.int .i32 w] 34,.cells (u) 112,.cells (c') 112,.cells cr 66])=R):∃ tm',R=some (.normal,(tm',G++[.cells [I k,I c,I g,I b,I s,I d,I e,va,.int .i32 w] 34,.cells (u.set y (.bool true)) 112,.cells (c'.set y (.bool true)) 112,.cells cr 66]))/\tm'.length=63/\tm'.getD 0 uA=tm.getD 0 uA/\tm'.getD 3 uA=tm.getD 3 uA/\tm'.getD 4 uA=tm.getD 4 uA/\tm'.getD 5 uA=tm.getD 5 uA/\tm'.getD 6 uA=tm.getD 6 uA/\tm'.getD 7 uA=tm.getD 7 uA:=by subst hR;simp -implicitDefEqProofs only [c55,f55,aP,hlen,hu,hc,h3,h4,h5,h7,↓cD PX,Lh,cj,cW,dz,bZ,xJ,st4,aq,hix,hra,yE hy,hy,show y+1<=6 from hy,↓dW,↓dS,↓gK,↓eP,↓dU,↓eR,↓da,↓dX,↓bP,↓bz,↓cg,↓eT,↓de,↓dY,↓bR,↓bQ,↓ch,↓dJ,↓cJ,dg,bH,ai,bN,cd,cI,dh,↓zzC,zzE,sevalprocAttr];exact ⟨_,rfl,by simp only [ls,hlen],by simp only [hlen,h3,h4,h5,h7,gB,and_self,sevalprocAttr]⟩
theorem J5 {tm:List AV} {K:AH} {u c':List AV} {i j:Nat} (hij:i≠j) (hu:K[i]? =some (.cells u 112)) (hc:K[j]? =some (.cells c' 112)) (lu:u.length=6) (lc:c'.length=6) (ou:u.all AV.one=true) (oc:c'.all AV.one=true) (hlen:tm.length=63) (h4:tm.getD 4 uA=.ptr i 0) (h5:tm.getD 5 uA=.ptr j 0) :
   ∃ tm',EvC aa C0 W0 pz (aH [true,true,false] c55) (tm,K)=some (.normal,(tm',K))/\tm'.length=63/\tm'.getD 4 uA=.ptr i 0/\tm'.getD 5 uA=.ptr j 0:=by
 have r1:ak K i 0 6=some u:=by unfold ak; rw [hu]; simp only; rw [if_pos (by omega),ib,bt (by omega)]
 have r2:ak K j 0 6=some c':=by unfold ak; rw [hc]; simp only; rw [if_pos (by omega),ib,bt (by omega)]
 have w1:bj K i 0 u=some K:=by unfold bj;rw [hu];simp only;rw [if_pos ⟨by omega,ou⟩,mG _ _ rfl,d3 hu]
 have w2:bj K j 0 c'=some K:=by unfold bj;rw [hc];simp only;rw [if_pos ⟨by omega,oc⟩,mG _ _ rfl,d3 hc]
 simp -implicitDefEqProofs only [c55,f55,aP,hlen,lu,lc,h4,h5,r1,r2,w1,w2,Sp,R3,↓cD Kz,ED,cj,cW,dz,bZ,↓dW,↓dS,↓gK,↓eP,↓dU,↓eR,↓da,↓dX,↓bP,↓bz,↓cg,↓eT,↓de,↓dY,↓bR,↓bQ,↓ch,↓dJ,↓cJ,dg,bH,ai,bN,cd,cI,dh,↓zzC,zzE,sevalprocAttr];exact ⟨_,rfl,by simp only [ls,hlen],by simp only [hlen,h4,h5,gB,and_self,sevalprocAttr]⟩
end Go.Dv
namespace Go.Dv
open Go.Proofs
def bv (n:Nat) (p:Nat->Bool):List AV:=(bp n).map fun k=>.bool (p k)
theorem qk (n:Nat) (p:Nat->Bool):(bv n p).length=n:=by unfold bv; rw [ao,er]
theorem Wl (n:Nat) (p:Nat->Bool):(bv n p).all AV.one=true:=by unfold bv;rw [List.all_map,List.all_eq_true];intro x _; rfl
theorem yU {n:Nat} {p q:Nat->Bool} (h:∀ k,k < n->p k=q k):bv n p=bv n q:=by unfold bv;exact mz fun k hk=>by rw [h k (eX.1 hk)]
theorem Fq {n k:Nat} (p:Nat->Bool) (h:k < n):(bv n p)[k]? =some (.bool (p k)):=by unfold bv;rw [aO,gE h]; rfl
theorem Ok (n k:Nat) (p:Nat->Bool) (v:Bool):(bv n p).set k (.bool v)=bv n (fun j=>if j=k then v else p j):=by
 apply gA;intro j;rcases bc j n with hj | hj
 · rw [cV,Fq _ hj,Fq _ hj];by_cases e:k=j
   · rw [if_pos e,if_pos (by rw [qk]; omega),if_pos e.symm]
   · rw [if_neg e,if_neg (fun h=>e h.symm)]
 · rw [aE (by rw [aq,qk]; exact hj),aE (by rw [qk]; exact hj)]
theorem Ol (n:Nat):bv n (fun _=>false)=au n (.bool false):=by unfold bv;rw [O0,er]
theorem Dc {K:AH} {b n:Nat} {T:TypeId} {p:Nat->Bool} (h:K[b]? =some (.cells (bv n p) T)) {k:Nat} (hk:k < n) (L:AH):ak (K++L) b k 1=some [.bool (p k)]:=by rw [eU h,if_pos (by rw [qk]; omega),g7 (by rw [qk]; exact hk)];have:=Fq p hk;rw [aj (by rw [qk]; exact hk)] at this;rw [aB this]; rfl
def bits (l:List Nat):List AV:=bv 6 fun i=>l.contains i
theorem iz (l:List Nat):(bits l).length=6:=qk _ _
theorem yW (l:List Nat):(bits l).all AV.one=true:=Wl _ _
theorem tY (l:List Nat) (k:Nat):(bits l).set k (.bool true)=bits (l++[k]):=by
 unfold bits;rw [Ok];refine yU fun j _=>?_;by_cases e:j=k
 · simp [e]
 · simp [e]
theorem Ov:bits []=au 6 (.bool false):=Ol 6
def pk (n i:Nat) (r:Nat->Nat):List AV:=(bp n).map fun j=>if j < i then slN (r j) n else .nilSlice
theorem jY (n i:Nat) (r:Nat->Nat):(pk n i r).length=n:=by unfold pk; rw [ao,er]
theorem qF {n j:Nat} (i:Nat) (r:Nat->Nat) (h:j < n):(pk n i r)[j]? =some (if j < i then slN (r j) n else .nilSlice):=by unfold pk;rw [aO,gE h]; rfl
theorem Ei (n:Nat) (r:Nat->Nat):pk n 0 r=au n .nilSlice:=by
 apply gA;intro j;rcases bc j n with hj | hj
 · rw [qF _ _ hj,if_neg (Nat.not_lt_zero _),List.getElem?_replicate,if_pos hj]
 · rw [aE (by rw [jY]; exact hj),aE (by rw [List.length_replicate]; exact hj)]
theorem HS {n i:Nat} (r:Nat->Nat) (B:Nat):(pk n i r).set i (slN B n)=pk n (i+1) (fun j=>if j=i then B else r j):=by
 apply gA;intro j;rcases bc j n with hj | hj
 · rw [cV,qF _ _ hj,qF _ _ hj];by_cases e:i=j
   · rw [if_pos e,if_pos (by rw [jY]; omega),if_pos (by omega),if_pos e.symm]
   · rw [if_neg e];by_cases c:j < i
     · rw [if_pos c,if_pos (by omega),if_neg (fun h=>e h.symm)]
     · rw [if_neg c,if_neg (by omega)]
 · rw [aE (by rw [aq,jY]; exact hj),aE (by rw [jY]; exact hj)]
def Ed (M:Nat->Nat->Bool) (j k:Nat) (v:Bool):Nat->Nat->Bool:=fun a c=>if a=j/\c=k then v else M a c
structure jF (tO tB:TypeId) (lo:Nat) (K:AH) (b n i:Nat) (r:Nat->Nat) (M:Nat->Nat->Bool):Prop where
 ob:K[b]? =some (.cells (pk n i r) tO)
 rw:∀ j,j < i->K[r j]? =some (.cells (bv n (M j)) tB)
 inj:∀ j k,j < i->k < i->r j=r k->j=k
 ne:∀ j,j < i->r j≠b
 lb:lo<=b
 lr:∀ j,j < i->lo<=r j
 le:i<=n
theorem jF.aZ {tO tB:TypeId} {lo b n i:Nat} {K K':AH} {r:Nat->Nat} {M:Nat->Nat->Bool} (h:jF tO tB lo K b n i r M) (hA:an K K'):jF tO tB lo K' b n i r M:=
 ⟨hA.get h.ob,fun j hj=>hA.get (h.rw j hj),h.inj,h.ne,h.lb,h.lr,h.le⟩
theorem jF.congr {tO tB:TypeId} {lo b n i:Nat} {K:AH} {r:Nat->Nat} {M M':Nat->Nat->Bool} (h:jF tO tB lo K b n i r M) (hM:∀ j k,j < i->k < n->M j k=M' j k):jF tO tB lo K b n i r M':=
 ⟨h.ob,fun j hj=>by rw [h.rw j hj,yU (hM j · hj)],h.inj,h.ne,h.lb,h.lr,h.le⟩
theorem jF.rdO {tO tB:TypeId} {lo b n i:Nat} {K:AH} {r:Nat->Nat} {M:Nat->Nat->Bool} (h:jF tO tB lo K b n i r M) {j:Nat} (hj:j < i) (L:AH):ak (K++L) b j 1=some [slN (r j) n]:=by have hn:=Nat.lt_of_lt_of_le hj h.le;rw [eU h.ob,if_pos (by rw [jY]; omega),g7 (by rw [jY]; exact hn)];have:=qF i r hn;rw [aj (by rw [jY]; exact hn),if_pos hj] at this;rw [aB this]; rfl
theorem jF.rdC {tO tB:TypeId} {lo b n i:Nat} {K:AH} {r:Nat->Nat} {M:Nat->Nat->Bool} (h:jF tO tB lo K b n i r M) {j k:Nat} (hj:j < i) (hk:k < n) (L:AH):ak (K++L) (r j) k 1=some [.bool (M j k)]:=Dc (h.rw j hj) hk L
theorem jF.wr {tO tB:TypeId} {lo b n i:Nat} {K:AH} {r:Nat->Nat} {M:Nat->Nat->Bool} (h:jF tO tB lo K b n i r M) {j k:Nat} (hj:j < i) (hk:k < n) (v:Bool) :
   bj K (r j) k [.bool v]=some (K.set (r j) (bm.cells (bv n fun c=>if c=k then v else M j c) tB))/\jF tO tB lo (K.set (r j) (bm.cells (bv n fun c=>if c=k then v else M j c) tB)) b n i r (Ed M j k v):=by
 constructor
 · unfold bj;rw [h.rw j hj];simp only [qk];rw [if_pos ⟨by simp only [cR,gH]; omega,rfl⟩,xJ,Ok]
 · refine ⟨?_,fun a ha=>?_,h.inj,h.ne,h.lb,h.lr,h.le⟩
   · rw [ay (h.ne j hj)]; exact h.ob
   · by_cases e:a=j
     · subst e;rw [bG (aI (h.rw a ha))];refine congrArg (fun z=>some (bm.cells z tB)) (yU fun c _=>?_);unfold Ed;by_cases d:c=k
       · rw [if_pos d,if_pos ⟨rfl,d⟩]
       · rw [if_neg d,if_neg (fun x=>d x.2)]
     · rw [ay (fun x=>e (h.inj _ _ ha hj x.symm)),h.rw a ha];refine congrArg (fun z=>some (bm.cells z tB)) (yU fun c _=>?_);unfold Ed;rw [if_neg (fun x=>e x.1)]
theorem jF.row {tO tB:TypeId} {lo b n i:Nat} {K:AH} {r:Nat->Nat} {M:Nat->Nat->Bool} (h:jF tO tB lo K b n i r M) (hlo:lo<=K.length) (hi:i < n) (hM:∀ k,k < n->M i k=false) :
   bj (K++[bm.cells (au n (.bool false)) tB]) b i [slN K.length n]=some ((K++[bm.cells (au n (.bool false)) tB]).set b (bm.cells (pk n (i+1) (fun j=>if j=i then K.length else r j)) tO))/\jF tO tB lo ((K++[bm.cells (au n (.bool false)) tB]).set b (bm.cells (pk n (i+1) (fun j=>if j=i then K.length else r j)) tO)) b n (i+1) (fun j=>if j=i then K.length else r j) M:=by
 have hA:=an.app K [.cells (au n (.bool false)) tB];have hob:=hA.get h.ob;have hbl:=aI h.ob;have hnew:(K++[bm.cells (au n (.bool false)) tB])[K.length]? =some (.cells (au n (.bool false)) tB):=by rw [List.getElem?_append_right (aw _),Nat.sub_self]; rfl
 constructor
 · unfold bj;rw [hob];simp only [jY];rw [if_pos ⟨by simp only [cR,gH]; omega,rfl⟩,xJ,HS]
 · refine ⟨?_,fun a ha=>?_,fun a c ha hc e=>?_,fun a ha=>?_,h.lb,fun a ha=>?_,hi⟩
   · rw [bG (aI hob)]
   · by_cases e:a=i
     · subst e;simp only [if_true];rw [ay (by omega),hnew,<-Ol,yU (q:=M a) fun k hk=>(hM k hk).symm]
     · have ha':a < i:=by omega
       simp only [if_neg e];rw [ay (fun x=>h.ne a ha' x.symm)];exact hA.get (h.rw a ha')
   · by_cases ea:a=i
     · by_cases ec:c=i
       · omega
       · have:=aI (h.rw c (by omega));simp only [if_pos ea,if_neg ec] at e;omega
     · by_cases ec:c=i
       · have:=aI (h.rw a (by omega));simp only [if_pos ec,if_neg ea] at e;omega
       · simp only [if_neg ec,if_neg ea] at e;exact h.inj a c (by omega) (by omega) e
   · by_cases ea:a=i
     · simp only [if_pos ea]; omega
     · simp only [if_neg ea]; exact h.ne a (by omega)
   · by_cases ea:a=i
     · simp only [if_pos ea]; exact hlo
     · simp only [if_neg ea]; exact h.lr a (by omega)
end Go.Dv
namespace Go.Dv
open Go.Proofs
theorem xR {cs:List Cod} {m:List (List Int)} {x:Itm} (hr:cC cs m x=true) (h6:m.length<=6):(x.kind=1->(0<=x.src/\x.src < 6)/\(0<=x.dst/\x.dst < 6))/\(x.kind=2->0<=x.dst/\x.dst < 6)/\(x.kind=3∨x.kind=4->0<=x.ev/\x.ev < 16):=by
 refine ⟨fun k=>?_,fun k=>?_,fun k=>?_⟩
 · unfold cC at hr;rw [fR (by omega),cM,kP k,d7] at hr;simp only [az,inB,dC,dB] at hr;have h1:=hr.1.1.1.1;have h2:=hr.1.1.1.2;omega
 · unfold cC at hr;rw [fR (by omega),cM,fR (by omega),cM,kP k,d7] at hr;simp only [az,inB,dC,dB] at hr;have h1:=hr.1.1.1.1.1.1;omega
 · unfold cC at hr;rw [fR (by omega),cM,fR (by omega),cM,fR (by omega),cM] at hr;have hk:(eqB x.kind 3 || eqB x.kind 4)=true:=by
     rcases k with k | k
     · rw [kP k]; rfl
     · rw [kP (a:=x.kind) (b:=4) k,Bool.or_true]
   rw [hk,d7] at hr;simp only [az,dC,dB] at hr;have h1:=hr.1.1.1.1.1.1.1;omega
theorem RG {c:Cod} {args:List Int} {j:Nat} (h:∀ i,i < j->iS c (i:Int)=true->0<=fS args i/\fS args i < 6):∀ n∈js c args j,n < 6:=by intro n hn;unfold js at hn;obtain ⟨i,hi,rfl⟩:=List.mem_map.1 hn;obtain ⟨h1,h2⟩:=List.mem_filter.1 hi;have:=h i (eX.1 h1) h2;omega
theorem Pf {cs:List Cod} {m:List (List Int)} {x:Itm} (hr:cC cs m x=true) (h6:m.length<=6):∀ n∈fq cs x,n < 6:=by
 intro n hn;obtain ⟨r1,r2,_⟩:=xR hr h6;unfold fq at hn;by_cases k0:x.kind=0
 · rw [if_pos k0] at hn;exact RG (lG hr k0).2.2 n hn
 · rw [if_neg k0] at hn;by_cases k1:x.kind=1
   · rw [if_pos k1] at hn;have:=r1 k1;simp only [bW,cE,or_false] at hn;omega
   · rw [if_neg k1] at hn;by_cases k2:x.kind=2
     · rw [if_pos k2] at hn;have:=r2 k2;simp only [bW,cE,or_false] at hn;omega
     · rw [if_neg k2] at hn; cases hn
def Pm (cs:List Cod) (x y:Itm) (i:Nat):Bool:=(fq cs x).contains i && (fq cs y).contains i && ((iR cs x).contains i || (iR cs y).contains i)
theorem wU {l:List Int} {n:List Nat} (h:∀ j:Int,j∈l↔∃ k∈n,j=((k:Nat):Int)) (i:Nat):n.contains i=l.contains (i:Int):=by
 rw [gI,jg,jg,h];constructor
 · intro hi; exact ⟨i,hi,rfl⟩
 · rintro ⟨k,hk,e⟩;have:i=k:=by omega
   rw [this]; exact hk
theorem Pl {cs:List Cod} {m:List (List Int)} {x y:Itm} (hx:cC cs m x=true) (hy:cC cs m y=true) (h6:m.length<=6):(!ck (fun i=>!Pm cs x y i) 6 0)=lN cs x y:=by
 rw [Jy hx hy,<-Qu.Cb (fun i hi=>by obtain ⟨n,hn,rfl⟩:=(pH hx i).1 hi;have:=Pf hx h6 n hn;omega)];unfold Qu.xS;rw [gI,List.any_eq_true,bl,<-lM,gz];have e:∀ i:Nat,Pm cs x y i=((Qu.mC (kF cs) (qi x)).contains (i:Int) && (Qu.mC (kF cs) (qi y)).contains (i:Int) && ((Qu.tX (kF cs) (qi x)).contains (i:Int) || (Qu.tX (kF cs) (qi y)).contains (i:Int))):=fun i=>by unfold Pm;rw [wU (pH hx) i,wU (pH hy) i,wU (wZ hx) i,wU (wZ hy) i]
 constructor
 · intro h;by_cases c:∃ i,i∈bp 6/\((Qu.mC (kF cs) (qi x)).contains (i:Int) && (Qu.mC (kF cs) (qi y)).contains (i:Int) && ((Qu.tX (kF cs) (qi x)).contains (i:Int) || (Qu.tX (kF cs) (qi y)).contains (i:Int)))=true
   · exact c
   · exfalso;refine h fun j hj=>?_;rw [bl,<-lM,e];exact fun hb=>c ⟨j,eX.2 hj,hb⟩
 · rintro ⟨i,hi,hb⟩ h;have:=h i (eX.1 hi);rw [bl,e,hb] at this;cases this
open Qu (places l7 lW)
def jT (ss:List (List Itm)) (i:Nat):Nat × Nat:=(places (qS ss)).getD i (0,0)
def itP (ss:List (List Itm)) (i:Nat):Itm:=bo (aM ss (jT ss i).1) (jT ss i).2
theorem oQ {ss:List (List Itm)} {i:Nat} (hi:i < ss.flatten.length):(places (qS ss))[i]? =some (jT ss i)/\(jT ss i).1 < ss.length/\(jT ss i).2 < (aM ss (jT ss i).1).length/\(qS ss).flatten[i]? =some (qi (itP ss i)):=by
 obtain ⟨p,x,h1,h2,h3,h4⟩:=Qu.kT (S:=qS ss) (n:=i) (by rw [gM,ao]; exact hi);have e:jT ss i=p:=by unfold jT; rw [gde,h1]; rfl
 obtain ⟨h5,rfl⟩:=CJ.1 h2;rw [<-e] at h1 h5 h3;refine ⟨h1,?_,h5,h3⟩;rcases bc (jT ss i).1 ss.length with c | c
 · exact c
 · rw [sS c] at h5; simp at h5
def rcN (ss:List (List Itm)) (i:Nat) (e:Int):Nat:=((bp i).filter fun n=>(((qS ss).flatten[n]?).map fun x=>Qu.jU x e).getD false).length
theorem Kp (ss:List (List Itm)) (e:Int):rcN ss 0 e=0:=rfl
theorem Cf {ss:List (List Itm)} {i:Nat} (hi:i < ss.flatten.length) (e:Int):rcN ss (i+1) e=rcN ss i e+if (itP ss i).kind=3/\(itP ss i).ev=e then 1 else 0:=by
 unfold rcN;rw [List.range_succ,List.filter_append,ai];refine congrArg (_ + ·) ?_;rw [List.filter_cons,List.filter_nil,(oQ hi).2.2.2];have:((some (qi (itP ss i))).map fun x=>Qu.jU x e).getD false=decide ((itP ss i).kind=3/\(itP ss i).ev=e):=by rw [cH,fE];unfold Qu.jU;rw [Bool.decide_and]; rfl
 rw [this];by_cases c:(itP ss i).kind=3/\(itP ss i).ev=e
 · rw [if_pos (by rw [decide_eq_true_iff]; exact c),if_pos c]; rfl
 · rw [if_neg (by rw [decide_eq_true_iff]; exact c),if_neg c]; rfl
theorem UW (ss:List (List Itm)) (i:Nat) (e:Int):rcN ss i e<=i:=by unfold rcN;exact Nat.le_trans (gW _ _) (by rw [er]; exact aw _)
theorem PJ (ss:List (List Itm)) (e:Int):rcN ss ss.flatten.length e=(l7 (qS ss) e).length:=by unfold rcN Qu.l7;rw [gM,ao]
def rcV (ss:List (List Itm)) (i:Nat):List AV:=(bp 16).map fun (e:Nat)=>I ((rcN ss i (e:Int):Nat):Int)
theorem nq (ss:List (List Itm)) (i:Nat):(rcV ss i).length=16:=by unfold rcV; rw [ao,er]
theorem AZ {ss:List (List Itm)} {i e:Nat} (h:e < 16):(rcV ss i)[e]? =some (I ((rcN ss i (e:Int):Nat):Int)):=by unfold rcV;rw [aO,gE h]; rfl
theorem Ce (ss:List (List Itm)):rcV ss 0=au 16 (I 0):=by unfold rcV;simp only [Kp];rw [O0,er]; rfl
theorem PI {ss:List (List Itm)} {i:Nat} (hi:i < ss.flatten.length) (h3:(itP ss i).kind=3) {e:Nat} (he:(itP ss i).ev=e):(rcV ss i).set e (I ((rcN ss i (e:Int)+1:Nat):Int))=rcV ss (i+1):=by
 apply gA;intro j;rcases bc j 16 with hj | hj
 · rw [cV,AZ hj,AZ hj,Cf hi];by_cases c:e=j
   · rw [if_pos c,if_pos (by rw [nq]; omega),if_pos ⟨h3,by omega⟩,c]
   · rw [if_neg c,if_neg (fun h=>c (by omega))]; rfl
 · rw [aE (by rw [aq,nq]; exact hj),aE (by rw [nq]; exact hj)]
theorem Ko {ss:List (List Itm)} {i:Nat} (hi:i < ss.flatten.length) (h3:(itP ss i).kind≠3):rcV ss (i+1)=rcV ss i:=by unfold rcV;refine mz fun e _=>?_;rw [Cf hi,if_neg (fun h=>h3 h.1)]; rfl
theorem RK {ss:List (List Itm)} {i k:Nat} (hi:i < ss.flatten.length) (hk:k < ss.flatten.length):lW (qS ss) i k=((eqB (jT ss i).1 (jT ss k).1 && ltB (jT ss i).2 (jT ss k).2) || (eqB (itP ss i).kind 3 && eqB (itP ss k).kind 4 && eqB (itP ss i).ev (itP ss k).ev && eqB ((rcN ss ss.flatten.length (itP ss i).ev:Nat):Int) 1)):=by obtain ⟨a1,_,_,a4⟩:=oQ hi;obtain ⟨b1,_,_,b4⟩:=oQ hk;unfold Qu.lW;rw [a1,b1,a4,b4,PJ];rw [gI];simp only [Bool.or_eq_true,az,beq_iff_eq,decide_eq_true_iff,cP,dB];show (_/\_∨(((itP ss i).kind=3/\(itP ss k).kind=4)/\(itP ss i).ev=(itP ss k).ev)/\(l7 (qS ss) (itP ss i).ev).length=1)↔_;omega
end Go.Dv
namespace Go.Dv
open Go.Proofs
attribute [local congr] aA bC aT bB bD
theorem Wf {G:AH} {a ob wb N:Nat} {iv av:AV} {A:List (List Nat)} {w:List Nat} {j:Nat} {rv:AV} (haft:m8 G A av) (hN:N<=1000) (hA:∀ l∈A,∀ y∈l,y < N) (hrow:∀ l∈A,l.length < 2 ^ 20) (hlA:A.length=N) (hj:j < N) (hs:SlS 30 1 G rv (ints (A.getD j []))):∀ (d q:Nat) (tm:List AV) (K:AH) (Z:Option (bk × St)),EvC aa C0 W0 kC Th (tm,K)=Z->(A.getD j []).length - q=d->q<=(A.getD j []).length->(tm.length=158/\tm.getD 15 uA=.ptr a 0/\tm.getD 16 uA=slN ob N/\tm.getD 17 uA=slN wb N/\tm.getD 71 uA=av/\tm.getD 72 uA=I (N:Nat)/\tm.getD 73 uA=I (j:Nat)/\tm.getD 77 uA=rv/\tm.getD 78 uA=I ((A.getD j []).length:Nat)/\tm.getD 79 uA=I ((q:Nat):Int)/\∃ b,WvS G K a ob wb iv av N w b/\∀ y,y < N->b.getD y 0=cn A j y+((A.getD j []).take q).count y) ->
   ∃ X K1,Z=some (.exit 4,(X,K1))/\(X.length=158/\X.getD 15 uA=.ptr a 0/\X.getD 16 uA=slN ob N/\X.getD 17 uA=slN wb N/\X.getD 71 uA=av/\X.getD 72 uA=I (N:Nat)/\X.getD 73 uA=I (j:Nat)/\X.getD 77 uA=rv/\X.getD 78 uA=I ((A.getD j []).length:Nat)/\X.getD 79 uA=I (((A.getD j []).length:Nat):Int)/\∃ b,WvS G K1 a ob wb iv av N w b/\∀ y,y < N->b.getD y 0=cn A j y+((A.getD j []).take (A.getD j []).length).count y):=by
 have hjA:A.getD j []∈A:=eF (by omega) [];have hrl:=hrow _ hjA;intro d;induction d with
 | zero =>
   intro q tm K Z hZ hd hq hI;subst hZ;have hql:q=(A.getD j []).length:=by omega
   subst hql;obtain ⟨hlen,h15,h16,h17,h71,h72,h73,h77,h78,h79,b,hW,hb⟩:=hI;have hlt:ltB (((A.getD j []).length:Nat):Int) ((A.getD j []).length:Nat)=false:=cw (by omega);rw [NW];simp -implicitDefEqProofs only [Hg,f19,aP,hlen,h15,h16,h17,h71,h72,h73,h77,h78,h79,hlt,↓zzA,zzB,sevalprocAttr];exact ⟨_,K,rfl,by simp only [ls,hlen],Aj9 (by simp only [hlen,h15,h16,h17,h71,h72,h73,h77,h78,h79,gB,and_self,sevalprocAttr]) ⟨b,hW,hb⟩⟩
 | succ d ih =>
   intro q tm K Z hZ hd hq hI;subst hZ;obtain ⟨hlen,h15,h16,h17,h71,h72,h73,h77,h78,h79,b,hW,hb⟩:=hI;have hqN:q < (A.getD j []).length:=by omega
   have hlt:ltB (q:Int) ((A.getD j []).length:Nat)=true:=cu (by omega);have hwi:=b6 (j:=q) (by omega);obtain ⟨i1,k1,hix,hrd⟩:=ints_at hs hW.ag hqN;have hrd:=hrd [];rw [af] at hrd;obtain ⟨y,hy⟩:∃ y,(A.getD j [])[q]? =some y:=⟨_,aj hqN⟩;have hyd:(A.getD j []).getD q 0=y:=by rw [gde,hy]; rfl
   rw [hyd] at hrd;have hyN:y < N:=hA _ hjA y (List.mem_of_getElem? hy);have hyb:y < b.length:=by rw [hW.lb]; exact hyN
   have hixb:=fun kk=>ixN (N:=N) wb hyN kk;have hrb:=hW.fb.rd hyb;have hbl:b.getD y 0 < 2 ^ 50:=by have h1:=hb y hyN;have h2:=Od hrow y j;have h3:=List.count_le_length (a:=y) (l:=(A.getD j []).take q);rw [List.length_take] at h3;omega
   have hwy:=b6 (j:=b.getD y 0) (by omega);have hwb:=hW.fb.wr hyb (b.getD y 0+1);have hW2:=hW.JK (b':=b.set y (b.getD y 0+1)) (by rw [aq,hW.lb]);generalize K.set wb (.cells (iv1 (b.set y (b.getD y 0+1))) 3)=K2 at hwb hW2;rw [NW];simp -implicitDefEqProofs only [Hg,f19,aP,hlen,h15,h16,h17,h71,h72,h73,h77,h78,h79,hlt,hwi,hix,hrd,hixb,hrb,hwy,hwb,st3,↓zzC,zzE,sevalprocAttr];refine ih (q+1) _ K2 _ rfl (by omega) (by omega) ⟨by simp only [ls,hlen],Aj9 (by simp only [hlen,h15,h16,h17,h71,h72,h73,h77,h78,gB,and_self,sevalprocAttr]) ⟨_,hW2,fun z hz=>?_⟩⟩;rw [Ry _ q y z hy,<-bN,<-hb z hz,Qu.gU];by_cases e:y=z
   · subst e; rw [if_pos ⟨rfl,hyb⟩,if_pos rfl]
   · rw [if_neg fun c=>e c.1.symm,if_neg e,Nat.add_zero]
theorem Rx {G:AH} {a ob wb N:Nat} {iv av:AV} {A:List (List Nat)} {w:List Nat} (haft:m8 G A av) (hN:N<=1000) (hA:∀ l∈A,∀ y∈l,y < N) (hrow:∀ l∈A,l.length < 2 ^ 20) (hlA:A.length=N):∀ (d j:Nat) (tm:List AV) (K:AH) (Z:Option (bk × St)),EvC aa C0 W0 kC Tg (tm,K)=Z->N - j=d->j<=N->(tm.length=158/\tm.getD 15 uA=.ptr a 0/\tm.getD 16 uA=slN ob N/\tm.getD 17 uA=slN wb N/\tm.getD 71 uA=av/\tm.getD 72 uA=I (N:Nat)/\tm.getD 73 uA=I ((j:Nat):Int)/\∃ b,WvS G K a ob wb iv av N w b/\∀ y,y < N->b.getD y 0=cn A j y) ->
   ∃ X K1,Z=some (.exit 2,(X,K1))/\(X.length=158/\X.getD 15 uA=.ptr a 0/\X.getD 16 uA=slN ob N/\X.getD 17 uA=slN wb N/\X.getD 71 uA=av/\X.getD 72 uA=I (N:Nat)/\X.getD 73 uA=I ((N:Nat):Int)/\∃ b,WvS G K1 a ob wb iv av N w b/\∀ y,y < N->b.getD y 0=cn A N y):=by
 intro d;induction d with
 | zero =>
   intro j tm K Z hZ hd hj hI;subst hZ;have hjl:j=N:=by omega
   subst hjl;obtain ⟨hlen,h15,h16,h17,h71,h72,h73,b,hW,hb⟩:=hI;have hlt:ltB (j:Int) (j:Nat)=false:=cw (by omega);rw [NV];simp -implicitDefEqProofs only [Hf,f19,aP,hlen,h15,h16,h17,h71,h72,h73,hlt,↓zzA,zzB,sevalprocAttr];exact ⟨_,K,rfl,by simp only [ls,hlen],Aj6 (by simp only [hlen,h15,h16,h17,h71,h72,h73,gB,and_self,sevalprocAttr]) ⟨b,hW,hb⟩⟩
 | succ d ih =>
   intro j tm K Z hZ hd hj hI;subst hZ;obtain ⟨hlen,h15,h16,h17,h71,h72,h73,b,hW,hb⟩:=hI;have hjN:j < N:=by omega
   have hlt:ltB (j:Int) (N:Nat)=true:=cu (by omega);have hwi:=b6 (j:=j) (by omega);obtain ⟨i1,k1,rv,hix,hrd,hs⟩:=haft.at hW.ag (j:=j) (by omega);have hrd:=hrd [];rw [af] at hrd;have hln:=fun K=>iZ hs K;rw [NV];simp -implicitDefEqProofs only [Hf,f19,aP,hlen,h15,h16,h17,h71,h72,h73,hlt,hix,hrd,EY,hln,↓zzC,zzE,sevalprocAttr];generalize hX:EvC aa C0 W0 kC (Code.loop _) _=Z;obtain ⟨X,K1,he,x0,x15,x16,x17,x71,x72,x73,x77,x78,x79,b1,hW1,hb1⟩:=Wf (w:=w) (j:=j) haft hN hA hrow hlA hjN hs _ 0 _ _ _ hX rfl (Nat.zero_le _) ⟨by simp only [ls,hlen],Aj8 (by simp only [hlen,h15,h16,h17,h71,h72,h73,gB,and_self,sevalprocAttr]) ⟨by simp only [hlen,gB,sevalprocAttr]; try rfl,b,hW,fun y hy=>by rw [hb y hy]; simp⟩⟩;subst he;simp -implicitDefEqProofs only [x0,x15,x16,x17,x71,x72,x73,hwi,↓zzA,zzB,sevalprocAttr];exact ih (j+1) _ K1 _ rfl (by omega) (by omega) ⟨by simp only [ls,x0],Aj6 (by simp only [x0,x15,x16,x17,x71,x72,gB,and_self,sevalprocAttr]) ⟨b1,hW1,fun y hy=>by rw [hb1 y hy,GD,List.take_length]⟩⟩
theorem W6 {G:AH} {a ob wb hb N:Nat} {iv av:AV} {w b:List Nat} (hN:N<=1000):∀ (d j:Nat) (tm:List AV) (K:AH) (Z:Option (bk × St)),EvC aa C0 W0 kC Tf (tm,K)=Z->N - j=d->j<=N->(tm.length=158/\tm.getD 15 uA=.ptr a 0/\tm.getD 16 uA=slN ob N/\tm.getD 17 uA=slN wb N/\tm.getD 22 uA=.ptr hb 0/\tm.getD 93 uA=slN wb N/\tm.getD 94 uA=I (N:Nat)/\tm.getD 95 uA=I ((j:Nat):Int)/\∃ v T,WvS G K a ob wb iv av N w b/\HpS G a ob wb hb v/\HpR K hb v T/\T.Perm ((bp j).filter fun y=>b.getD y 0 == 0)) ->
   ∃ X K1,Z=some (.exit 6,(X,K1))/\(X.length=158/\X.getD 15 uA=.ptr a 0/\X.getD 16 uA=slN ob N/\X.getD 17 uA=slN wb N/\X.getD 22 uA=.ptr hb 0/\X.getD 93 uA=slN wb N/\X.getD 94 uA=I (N:Nat)/\X.getD 95 uA=I ((N:Nat):Int)/\∃ v T,WvS G K1 a ob wb iv av N w b/\HpS G a ob wb hb v/\HpR K1 hb v T/\T.Perm ((bp N).filter fun y=>b.getD y 0 == 0)):=by
 intro d;induction d with
 | zero =>
   intro j tm K Z hZ hd hj hI;subst hZ;have hjl:j=N:=by omega
   subst hjl;obtain ⟨hlen,h15,h16,h17,h22,h93,h94,h95,v,T,hW,hS,hH,hP⟩:=hI;have hlt:ltB (j:Int) (j:Nat)=false:=cw (by omega);rw [NU];simp -implicitDefEqProofs only [DJ,f19,aP,hlen,h15,h16,h17,h22,h93,h94,h95,hlt,↓zzA,zzB,sevalprocAttr];exact ⟨_,K,rfl,by simp only [ls,hlen],Aj7 (by simp only [hlen,h15,h16,h17,h22,h93,h94,h95,gB,and_self,sevalprocAttr]) ⟨v,T,hW,hS,hH,hP⟩⟩
 | succ d ih =>
   intro j tm K Z hZ hd hj hI;subst hZ;obtain ⟨hlen,h15,h16,h17,h22,h93,h94,h95,v,T,hW,hS,hH,hP⟩:=hI;have hjN:j < N:=by omega
   have hlt:ltB (j:Int) (N:Nat)=true:=cu (by omega);have hwi:=b6 (j:=j) (by omega);have hixb:=fun kk=>ixN (N:=N) wb hjN kk;have hrb:=hW.fb.rd (by rw [hW.lb]; exact hjN);have hTl:T.length<=1000:=by rw [hP.length_eq];have:=gW (fun y=>b.getD y 0 == 0) (bp j);rw [er] at this;omega
   rw [NU];by_cases h0:b.getD j 0=0
   · have hc:eqB ((b.getD j 0:Nat):Int) 0=true:=by rw [h0]; rfl
     obtain ⟨v',K',T',h48,hp,hH',hf⟩:=aaf hH hTl j;obtain ⟨hW',hS'⟩:=hW.fr hS hf;simp -implicitDefEqProofs only [DJ,f19,aP,hlen,h15,h16,h17,h22,h93,h94,h95,hlt,hwi,hixb,hrb,hc,↓vF,↓BO,↓ZN,h48,↓zzC,zzE,sevalprocAttr];refine ih (j+1) _ K' _ rfl (by omega) (by omega) ⟨by simp only [ls,hlen],Aj7 (by simp only [hlen,h15,h16,h17,h22,h93,h94,gB,and_self,sevalprocAttr]) ⟨_,_,hW',hS',hH',?_⟩⟩;rw [zG,if_pos h0];exact hp.trans (hP.append_right _)
   · have hc:eqB ((b.getD j 0:Nat):Int) 0=false:=fR (by omega);simp -implicitDefEqProofs only [DJ,f19,aP,hlen,h15,h16,h17,h22,h93,h94,h95,hlt,hwi,hixb,hrb,hc,↓zzC,zzE,sevalprocAttr];refine ih (j+1) _ K _ rfl (by omega) (by omega) ⟨by simp only [ls,hlen],Aj7 (by simp only [hlen,h15,h16,h17,h22,h93,h94,gB,and_self,sevalprocAttr]) ⟨_,_,hW,hS,hH,?_⟩⟩;rw [zG,if_neg h0,af];exact hP
end Go.Dv
