/- Part 40 of the walks (own work). -/
import Derived.Test.YtilpjnckfkjkbaaGreatDoorU39
open Bool renaming and_eq_true→az,false_and→bd,true_and→bf
open List renaming append_nil→af,getElem?_map→aO,replicate→au
open Nat renaming le_refl→aw,zero_le→aV
open Option renaming map_some→cH
open Option.some renaming inj→aB
open Go.Proofs.Tryz renaming prog→aa
set_option maxRecDepth 100000
set_option maxHeartbeats 4000000
set_option linter.unusedSimpArgs false
set_option linter.unusedVariables false
open Go.Proofs.Tryz (f20 f22)
namespace Go.Dv
open Go.Proofs
attribute [local congr] aA bC aT bB bD
theorem IZ {cs:List Cod} {m:List (List Int)} {ss:List (List Itm)} {f:Con} (h:g8 cs m ss f=0):g8 cs m ss fH=0:=by
 unfold g8 at h ⊢;cases h1:(vt f && wv cs) with
 | false =>rw [h1,cM] at h;exact absurd h (by decide)
 | true =>
   rw [h1,d7] at h;have hc:(vt fH && wv cs)=true:=by rw [az] at h1 ⊢;exact ⟨rfl,h1.2⟩
   rw [hc,d7];exact h
def flR (l:List (Itm × AV)):List (List AV):=l.map fun p=>aJ p.1 p.2
theorem Gm (l:List (Itm × AV)):∀ r∈flR l,r.length=9:=fun r hr=>by
 obtain ⟨p,_,rfl⟩:=List.mem_map.1 hr
 rfl
end Go.Dv
namespace Go.Dv
open Go.Proofs
attribute [local congr] aA bC aT bB bD
open Qu (bef)
end Go.Dv
namespace Go.Dv
open Go.Proofs
attribute [local congr] aA bC aT bB bD
end Go.Dv
namespace Go.Dv
open Go.Proofs
attribute [local congr] aA bC aT bB bD
open Qu (bef places)
theorem UX {x y:Itm} (h:qi x=qi y):x=y:=by
 obtain ⟨a,b,c,d,e,f,g,i,j⟩:=x;obtain ⟨a',b',c',d',e',f',g',i',j'⟩:=y;unfold qi at h;injection h with h1 h2 h3 h4 h5 h6 h7 h8 h9
 subst h1; subst h2; subst h3; subst h4; subst h5; subst h6; subst h7; subst h8; subst h9;rfl
theorem CK {ss:List (List Itm)} {i:Nat} (hi:i < ss.flatten.length):bo ss.flatten i=itP ss i:=by have h:=(oQ hi).2.2.2;rw [gM,aO,List.getElem?_eq_getElem hi,cH] at h;have:=UX (aB h);rw [<-this];unfold bo;rw [d6 hi]
theorem Co {G:AH} {ss:List (List Itm)} {vs lv:AV} (hs:cT G ss vs) (hl:SlS 104 2 G lv (plR (places (qS ss)))) {i:Nat} (hi:i < ss.flatten.length):∃ li lk i0 k0 i2 k2 w va,zC G ss vs lv i li lk i0 k0 i2 k2 w va/\SlS 32 1 G va ((itP ss i).args.map dH):=by obtain ⟨p1,p2,p3,_⟩:=oQ hi;obtain ⟨li,lk,xl,rl⟩:=hl.ix i [I ((jT ss i).1:Int),I ((jT ss i).2:Int)] (by unfold plR; rw [aO,p1]; rfl);obtain ⟨i0,k0,w,x1,r1,hw⟩:=hs.at (an.refl G) p2;obtain ⟨i2,k2,va,x2,r2,hv⟩:=hw.at (an.refl G) p3;have r1':=r1 [];have r2':=r2 [];rw [af] at r1' r2';exact ⟨li,lk,i0,k0,i2,k2,w,va,⟨xl,fun K h L=>xL rl h L rfl,fun K h L=>B5 rl h L 1 rfl,x1,fun K h L=>iH r1' h L,x2,fun K h L=>iH r2' h L,hv.cells,hv.one⟩,hv⟩
theorem Kg {G K:AH} {ss:List (List Itm)} {vc vs lv va w va' w':AV} {li lk i0 k0 i2 k2 li' lk' i0' k0' i2' k2' N b ri rj i k:Nat} {tt b1 b2:Bool} {tm:List AV} (hlen:tm.length=76) (h0:tm.getD 0 uA=vc) (h1:tm.getD 1 uA=vs) (h5:tm.getD 5 uA=lv) (h6:tm.getD 6 uA=slN b N) (h7:tm.getD 7 uA=I (i:Int)) (h8:tm.getD 8 uA=I (k:Int)) (hi:i < N) (hk:k < N) (hA:an G K) (hp:zC G ss vs lv i li lk i0 k0 i2 k2 w va) (hq:zC G ss vs lv k li' lk' i0' k0' i2' k2' w' va')
   (rO:ak K b i 1=some [slN ri N]) (rO':ak K b k 1=some [slN rj N]) (rb:ak K ri k 1=some [.bool b1]) (rb':ak K rj i 1=some [.bool b2]) (h24:Ev aa C0 W0 24 [vc,.agg (aJ (itP ss i) va),.agg (aJ (itP ss k) va')] K=some (.bool tt,K)) {R:Option (bk × St)} (hR:EvC aa C0 W0 uM (aH [true,true,false,true,false,false,true,false,false,true,false,false,true,false,false,false] c20) (tm,K)=R) :
   ∃ tm',R=some (.normal,(tm',K))/\tm'.length=76/\tm'.getD 75 uA=.bool (tt && !b1 && !b2)/\tm'.getD 0 uA=tm.getD 0 uA/\tm'.getD 1 uA=tm.getD 1 uA/\tm'.getD 5 uA=tm.getD 5 uA/\tm'.getD 6 uA=tm.getD 6 uA/\tm'.getD 7 uA=tm.getD 7 uA/\tm'.getD 8 uA=tm.getD 8 uA:=by subst hR;obtain ⟨xl,l0,l1,x1,r1,x2,r2,oc,oo⟩:=hp;obtain ⟨xl',l0',l1',x1',r1',x2',r2',oc',oo'⟩:=hq;have l0:=l0 K hA [];have l1:=l1 K hA [];have r1:=r1 K hA [];have r2:=r2 K hA [];have l0':=l0' K hA [];have l1':=l1' K hA [];have r1':=r1' K hA [];have r2':=r2' K hA [];rw [af] at l0 l1 r1 r2 l0' l1' r1' r2';have x9:=fun kk=>E3 b hi kk;have x9':=fun kk=>E3 b hk kk;have x59:=fun kk=>E2 ri hk kk;have x59':=fun kk=>E2 rj hi kk;generalize itP ss i=x at *;generalize itP ss k=y at *;generalize (jT ss i).1=s at *;generalize (jT ss i).2=q at *;generalize (jT ss k).1=s' at *;generalize (jT ss k).2=q' at *;cases tt <;> cases b1 <;> cases b2 <;> (simp -implicitDefEqProofs only [c20,f20,aP,hlen,h0,h1,h5,h6,h7,h8,x9,x9',x59,x59',rO,rO',rb,rb',xl,l0,l1,x1,r1,x2,r2,xl',l0',l1',x1',r1',x2',r2',tR,tQ,LK,LJ,P6,XX,↓ad0,h24,↓zzC,zzE,sevalprocAttr]; exact ⟨_,rfl,by simp only [ls,hlen],by simp only [hlen,List.length_set,h0,h1,h5,h6,h7,h8,gB,and_self,sevalprocAttr]⟩)
theorem XV {G K:AH} {cs:List Cod} {m:List (List Int)} {ss:List (List Itm)} {vc vs lv:AV} {lo b:Nat} {r:Nat->Nat} (hc:dy G cs vc) (hcp:∀ c∈cs,c.params.length<=6) (hm6:m.length<=6) (hrt:∀ x∈ss.flatten,cC cs m x=true) (hs:cT G ss vs) (hl:SlS 104 2 G lv (plR (places (qS ss)))) (hfew:ss.flatten.length<=1000) (hA:an G K) (hM:jF 59 4 lo K b ss.flatten.length ss.flatten.length r (bef (qS ss))) {i:Nat} (hi:i < ss.flatten.length):∀ (d k:Nat) (tm:List AV) (Z:Option (bk × St)),EvC aa C0 W0 uM Td (tm,K)=Z->i - k=d->k<=i->(tm.length=76/\tm.getD 0 uA=vc/\tm.getD 1 uA=vs/\tm.getD 5 uA=lv/\tm.getD 6 uA=slN b ss.flatten.length/\tm.getD 7 uA=I (i:Int)/\tm.getD 8 uA=I ((k:Nat):Int)) ->
   (ck (fun j=>iP cs ss i j) i (k)=true->∃ X,Z=some (.exit 2,(X,K))/\(X.length=76/\X.getD 0 uA=vc/\X.getD 1 uA=vs/\X.getD 5 uA=lv/\X.getD 6 uA=slN b ss.flatten.length/\X.getD 7 uA=I (i:Int)/\X.getD 8 uA=I ((i:Nat):Int)))/\(ck (fun j=>iP cs ss i j) i (k)=false->∃ Y,Z=some (.ret,(Y,K))/\Y.getD 4 uA=.bool false):=by
 intro d;induction d with
 | zero =>
   intro k tm Z hZ hd hk hJ;subst hZ;have hkl:k=i:=by omega
   subst hkl;obtain ⟨hlen,h0,h1,h5,h6,h7,h8⟩:=hJ;have hlt:ltB (k:Int) (k:Nat)=false:=cw (by omega);rw [dk (aw _),NS];refine ⟨fun _=>?_,fun h=>(by cases h)⟩;simp -implicitDefEqProofs only [Hd,f20,aP,hlen,h0,h1,h5,h6,h7,h8,hlt,↓zzC,zzE,sevalprocAttr];exact ⟨_,rfl,by simp only [ls,hlen],by simp only [hlen,h0,h1,h5,h6,h7,h8,gB,and_self,sevalprocAttr]⟩
 | succ d ih =>
   intro k tm Z hZ hd hk hJ;subst hZ;have hki:k < i:=by omega
   have hkN:k < ss.flatten.length:=by omega
   obtain ⟨hlen,h0,h1,h5,h6,h7,h8⟩:=hJ;have hlt:ltB (k:Int) (i:Nat)=true:=cu (by omega);have hwi:=b6 (j:=k) (by omega);obtain ⟨li,lk,i0,k0,i2,k2,w,va,hp,sx⟩:=Co hs hl hi;obtain ⟨li',lk',i0',k0',i2',k2',w',va',hq,sy⟩:=Co hs hl hkN;have q1:=hM.rdO hi [];have q2:=hM.rdO hkN [];have q3:=hM.rdC hi hkN [];have q4:=hM.rdC hkN hi [];rw [af] at q1 q2 q3 q4;have rx:=hrt _ (fA hi);have ry:=hrt _ (fA hkN);have hoP:iP cs ss i k=(!lN cs (bo ss.flatten i) (bo ss.flatten k) || bef (qS ss) i k || bef (qS ss) k i):=rfl;rw [CK hi] at rx hoP;rw [CK hkN] at ry hoP;have h24:=aeS (hc.aZ hA) hcp (sx.same hA) (sy.same hA) rx ry hm6;have hall:=cK (p:=(fun j=>iP cs ss i j)) hki;rw [NS];simp -implicitDefEqProofs only [Hd,f20,aP,hlen,h0,h1,h5,h6,h7,h8,hlt,↓zzC,zzE,sevalprocAttr];generalize hR:EvC aa C0 W0 _ (Code.region _ _ _) _=R;obtain ⟨t,he,tl,t75,t0,t1,t5,t6,t7,t8⟩:=Kg (by simp only [ls,hlen]) (by simp only [hlen,h0,gB,sevalprocAttr]) (by simp only [hlen,h1,gB,sevalprocAttr]) (by simp only [hlen,h5,gB,sevalprocAttr]) (by simp only [hlen,h6,gB,sevalprocAttr]) (by simp only [hlen,h7,gB,sevalprocAttr]) (by simp only [hlen,h8,gB,sevalprocAttr]) hi hkN hA hp hq q1 q2 q3 q4 h24 hR;subst he;simp only [hlen,h0,h1,h5,h6,h7,h8,gB,sevalprocAttr] at t0 t1 t5 t6 t7 t8;cases hv:(lN cs (itP ss i) (itP ss k) && !bef (qS ss) i k && !bef (qS ss) k i) with
   | true =>
     rw [hv] at t75;have hf:iP cs ss i k=false:=by rw [hoP];simp only [az,Bool.not_eq_true'] at hv;rw [hv.1.1,hv.1.2,hv.2]; rfl
     rw [hall,hf,bd];refine ⟨fun h=>(by cases h),fun _=>?_⟩;simp -implicitDefEqProofs only [aP,tl,t75,t0,t1,t5,t6,t7,t8,↓zzC,zzE,sevalprocAttr];exact ⟨_,rfl,by simp only [tl,gB,sevalprocAttr]⟩
   | false =>
     rw [hv] at t75;have hf:iP cs ss i k=true:=by rw [hoP];cases a1:lN cs (itP ss i) (itP ss k) <;> cases a2:bef (qS ss) i k <;> cases a3:bef (qS ss) k i <;> first | rfl | (rw [a1,a2,a3] at hv; cases hv)
     rw [hall,hf,bf];simp -implicitDefEqProofs only [aP,tl,t75,t0,t1,t5,t6,t7,t8,hwi,↓zzC,zzE,sevalprocAttr];generalize hX:EvC aa C0 W0 _ _ _=Z;exact ih (k+1) _ _ hX (by omega) (by omega) ⟨by simp only [ls,tl],by simp only [tl,t0,t1,t5,t6,t7,t8,gB,and_self,sevalprocAttr]⟩
theorem UH {G K:AH} {cs:List Cod} {m:List (List Int)} {ss:List (List Itm)} {vc vs lv:AV} {lo b:Nat} {r:Nat->Nat} (hc:dy G cs vc) (hcp:∀ c∈cs,c.params.length<=6) (hm6:m.length<=6) (hrt:∀ x∈ss.flatten,cC cs m x=true) (hs:cT G ss vs) (hl:SlS 104 2 G lv (plR (places (qS ss)))) (hfew:ss.flatten.length<=1000) (hA:an G K) (hM:jF 59 4 lo K b ss.flatten.length ss.flatten.length r (bef (qS ss))):∀ (d i:Nat) (tm:List AV) (Z:Option (bk × St)),EvC aa C0 W0 uM Tc (tm,K)=Z->ss.flatten.length - i=d->i<=ss.flatten.length->(tm.length=76/\tm.getD 0 uA=vc/\tm.getD 1 uA=vs/\tm.getD 5 uA=lv/\tm.getD 6 uA=slN b ss.flatten.length/\tm.getD 7 uA=I ((i:Nat):Int)) ->
   (ck (fun i=>ck (fun j=>iP cs ss i j) i 0) ss.flatten.length (i)=true->∃ X,Z=some (.exit 0,(X,K))/\X.length=76)/\(ck (fun i=>ck (fun j=>iP cs ss i j) i 0) ss.flatten.length (i)=false->∃ Y,Z=some (.ret,(Y,K))/\Y.getD 4 uA=.bool false):=by
 have hln:=fun K=>Cl hl K;intro d;induction d with
 | zero =>
   intro i tm Z hZ hd hi hJ;subst hZ;have hil:i=ss.flatten.length:=by omega
   subst hil;obtain ⟨hlen,h0,h1,h5,h6,h7⟩:=hJ;have hlt:ltB ((ss.flatten.length:Nat):Int) (ss.flatten.length:Nat)=false:=cw (by omega);rw [dk (aw _),NR];refine ⟨fun _=>?_,fun h=>(by cases h)⟩;simp -implicitDefEqProofs only [Hc,f20,aP,hlen,h0,h1,h5,h6,h7,hln,hlt,↓zzC,zzE,sevalprocAttr];exact ⟨_,rfl,by simp only [ls,hlen]⟩
 | succ d ih =>
   intro i tm Z hZ hd hi hJ;subst hZ;have hiN:i < ss.flatten.length:=by omega
   obtain ⟨hlen,h0,h1,h5,h6,h7⟩:=hJ;have hlt:ltB (i:Int) (ss.flatten.length:Nat)=true:=cu (by omega);have hwi:=b6 (j:=i) (by omega);have hall:=cK (p:=(fun i=>ck (fun j=>iP cs ss i j) i 0)) hiN;rw [NR];simp -implicitDefEqProofs only [Hc,f20,aP,hlen,h0,h1,h5,h6,h7,hln,hlt,↓zzC,zzE,sevalprocAttr];generalize hX:EvC aa C0 W0 uM (Code.loop _) _=Z;obtain ⟨hT,hF⟩:=XV hc hcp hm6 hrt hs hl hfew hA hM hiN _ 0 _ _ hX rfl (aV _) ⟨by simp only [ls,hlen],Aj5 (by simp only [hlen,h0,h1,h5,h6,h7,gB,and_self,sevalprocAttr]) (by simp only [hlen,gB,sevalprocAttr]; try rfl)⟩;cases hcI:ck (fun j=>iP cs ss i j) i 0 with
   | false =>obtain ⟨Y,e,y4⟩:=hF hcI;subst e;rw [hall,hcI,bd];refine ⟨fun h=>(by cases h),fun _=>?_⟩;simp -implicitDefEqProofs only [aP,↓zzC,zzE,sevalprocAttr];exact ⟨Y,rfl,y4⟩
   | true =>obtain ⟨X,e,xl,x0,x1,x5,x6,x7,x8⟩:=hT hcI;subst e;rw [hall,hcI,bf];simp -implicitDefEqProofs only [aP,xl,x0,x1,x5,x6,x7,hwi,↓zzC,zzE,sevalprocAttr];generalize hY:EvC aa C0 W0 _ _ _=Z;exact ih (i+1) _ _ hY (by omega) (by omega) ⟨by simp only [ls,xl],by simp only [xl,x0,x1,x5,x6,x7,gB,and_self,sevalprocAttr]⟩
theorem aeV {H:AH} {cs:List Cod} {m:List (List Int)} {ss:List (List Itm)} {vc vs:AV} (hc:dy H cs vc) (hcp:∀ c∈cs,c.params.length<=6) (hm6:m.length<=6) (hrt:∀ x∈ss.flatten,cC cs m x=true) (hs:cT H ss vs) (hfew:ss.flatten.length<=1000) (hev:∀ i,i < ss.flatten.length->(itP ss i).kind=3->∃ e:Nat,(itP ss i).ev=e/\e < 16):Ev aa C0 W0 20 [vc,vs] H=some (.bool (Lo cs ss),H):=by
 obtain ⟨tm,ht,g0,g1,g2⟩:=tm2 vc vs 76 (by decide);rw [adt,ht];obtain ⟨lv,K1,h51,hA1,ho⟩:=aae hs.ro hfew;have hl:=Own.mJ LY (by decide) ho (A7 _);have hs1:=hs.ro.aZ hA1;obtain ⟨lo,b,r,K2,h23,hA2,hM⟩:=aam hs1 hfew hev;simp -implicitDefEqProofs only [c20,f20,aP,g0,g1,g2,↓ZL,h51,↓ZT,h23,↓zzC,zzE,sevalprocAttr];generalize hX:EvC aa C0 W0 uM (Code.loop _) _=Z;obtain ⟨hT,hF⟩:=UH (hc.ro.aZ hA1) hcp hm6 hrt hs1 hl hfew hA2 hM _ 0 _ _ hX rfl (aV _) ⟨by simp only [ls,g0],Aj4 (by simp only [g0,g1,g2,gB,and_self,sevalprocAttr]) (by simp only [g0,gB,sevalprocAttr]; try rfl)⟩;unfold Lo;cases hcO:ck (fun i=>ck (fun j=>iP cs ss i j) i 0) ss.flatten.length 0 with
 | true =>obtain ⟨X,e,xl⟩:=hT hcO;subst e;simp -implicitDefEqProofs only [aP,xl,↓zzC,zzE,sevalprocAttr]
 | false =>obtain ⟨Y,e,y4⟩:=hF hcO;subst e;simp -implicitDefEqProofs only [aP,y4,↓zzC,zzE,sevalprocAttr]
end Go.Dv
namespace Go.Dv
open Go.Proofs
attribute [local congr] aA bC aT bB bD
open Qu (bef rl rI rK rR Low)
theorem Ia {K:AH} {ob N k i:Nat} {o:List Nat} {tm:List AV} (hlen:tm.length=52) (h4:tm.getD 4 uA=slN ob N) (h6:tm.getD 6 uA=I (k:Int)) (h7:tm.getD 7 uA=I (i:Int)) (hk:k < N) (hi:i < N) (ho:hU K ob o) (hol:o.length=N) (hb:o.getD i 0 < 2 ^ 50) {R:Option (bk × St)} (hR:EvC aa C0 W0 rC (aH [true,true,true,false,true,false,false,true,false,false,true,false,false,true,false,false,true,false,false,true,false,false,true,false] c22) (tm,K)=R) :
   ∃ tm',R=some (.normal,(tm',K.set ob (.cells (iv1 (o.set k (max (o.getD k 0) (o.getD i 0+1)))) 3)))/\tm'.length=52/\tm'.getD 3 uA=tm.getD 3 uA/\tm'.getD 4 uA=tm.getD 4 uA/\tm'.getD 5 uA=tm.getD 5 uA/\tm'.getD 6 uA=tm.getD 6 uA/\tm'.getD 7 uA=tm.getD 7 uA:=by subst hR;have x1:=fun kk=>ixN ob hk kk;have x2:=fun kk=>ixN ob hi kk;have hra:=ho.rd (i:=k) (by omega);have hrb:=ho.rd (i:=i) (by omega);have hw:=b6 (j:=o.getD i 0) (by omega);have hmx:=Lz (o.getD k 0) (o.getD i 0+1);have hwo:=ho.wr (i:=k) (by omega) (max (o.getD k 0) (o.getD i 0+1));simp -implicitDefEqProofs only [c22,f22,aP,hlen,h4,h6,h7,x1,x2,hra,hrb,hw,↓vw,LA,hmx,hwo,st3,↓cD KW,EP,List.any_toArray',List.any_toArray,List.any_cons,List.any_nil,bZ,List.size_toArray,List.replicate_succ,List.replicate_zero,↓dW,↓dS,↓gK,↓eP,↓dU,↓eR,↓da,↓dX,↓bP,↓bz,↓cg,↓eT,↓de,↓dY,↓bR,↓bQ,↓ch,↓dJ,↓cJ,dg,bH,List.length_append,Nat.add_assoc,cd,cI,dh,↓zzC,zzE,sevalprocAttr];exact ⟨_,rfl,by simp only [ls,hlen],by simp only [hlen,h4,h6,h7,gB,and_self,sevalprocAttr]⟩
theorem ab3 (H:AH) (i k es len cap:Nat) (ex:Bool):d4 aa 57 H (.slice i k es len cap ex)=some (.int .i64 len):=by kernel_rfl
theorem Kq {M:Nat->Nat->Bool} {N:Nat} {w:Nat->Nat} (h1:∀ i k,i < N->k < N->M i k=true->w i+1<=w k):∀ r,Low N w (rR M N r)
 | 0=>⟨List.length_replicate,fun k hk=>by
     show (au N 0).getD k 0<=w k
     rw [gde,List.getElem?_replicate,if_pos hk]
     exact aV _⟩
 | r+1=>Qu.A0 h1 (Kq h1 r) N (aw _)
theorem XU {G:AH} {N lo b ob:Nat} {r:Nat->Nat} {M:Nat->Nat->Bool} {wf:Nat->Nat} (h1w:∀ i k,i < N->k < N->M i k=true->wf i+1<=wf k) (hwf:∀ k,k < N->wf k < 2 ^ 50) (hN:N<=1000) (hob:G.length<=ob) (hM:jF 59 4 lo G b N N r M) {k:Nat} {rv:AV} {ol:List Nat} (hk:k < N) (hL:Low N wf ol):∀ (d q:Nat) (tm:List AV) (K:AH) (Z:Option (bk × St)),EvC aa C0 W0 rC S9 (tm,K)=Z->N - q=d->q<=N->(tm.length=52/\tm.getD 3 uA=slN b N/\tm.getD 4 uA=slN ob N/\tm.getD 5 uA=rv/\tm.getD 6 uA=I (k:Int)/\tm.getD 7 uA=I ((q:Nat):Int)/\an G K/\hU K ob (rI M ol k (q))) ->
   ∃ X K1,Z=some (.exit 4,(X,K1))/\(X.length=52/\X.getD 3 uA=slN b N/\X.getD 4 uA=slN ob N/\X.getD 5 uA=rv/\X.getD 6 uA=I (k:Int)/\X.getD 7 uA=I ((N:Nat):Int)/\an G K1/\hU K1 ob (rI M ol k (N))):=by
 have hln:=fun K=>QZ K ob 0 1 N N true;intro d;induction d with
 | zero =>
   intro q tm K Z hZ hd hq hI;subst hZ;have hql:q=N:=by omega
   subst hql;obtain ⟨hlen,h3,h4,h5,h6,h7,hA,hO⟩:=hI;have hlt:ltB ((q:Nat):Int) (q:Nat)=false:=cw (by omega);rw [NO];simp -implicitDefEqProofs only [DH,f22,aP,hlen,h3,h4,h5,h6,h7,hln,hlt,↓zzC,zzE,sevalprocAttr];exact ⟨_,K,rfl,by simp only [ls,hlen],Aj5 (by simp only [hlen,h3,h4,h5,h6,h7,gB,and_self,sevalprocAttr]) ⟨hA,hO⟩⟩
 | succ d ih =>
   intro q tm K Z hZ hd hq hI;subst hZ;have hqN:q < N:=by omega
   obtain ⟨hlen,h3,h4,h5,h6,h7,hA,hO⟩:=hI;have hlt:ltB (q:Int) (N:Nat)=true:=cu (by omega);have hw:=b6 (j:=q) (by omega);rw [NO];have hMK:=hM.aZ hA;have q1:=hMK.rdO hqN [];have q2:=hMK.rdC hqN hk [];rw [af] at q1 q2;have x1:=fun kk=>E3 b hqN kk;have x2:=fun kk=>E2 (r q) hk kk;obtain ⟨hll,hlw⟩:=Qu.Et h1w hk hL q (by omega);have hst:rI M ol k (q+1)=rl M (rI M ol k q) k q:=rfl;cases hm:M q k with
   | true =>rw [hm] at q2;simp -implicitDefEqProofs only [DH,f22,aP,hlen,h3,h4,h5,h6,h7,hln,hlt,x1,x2,q1,q2,LK,LJ,↓zzC,zzE,sevalprocAttr];generalize hR:EvC aa C0 W0 _ (Code.region _ _ _) _=R;obtain ⟨t,he,tl,t3,t4,t5,t6,t7⟩:=Ia (by simp only [ls,hlen]) (by simp only [hlen,h4,gB,sevalprocAttr]) (by simp only [hlen,h6,gB,sevalprocAttr]) (by simp only [hlen,h7,gB,sevalprocAttr]) hk hqN hO hll (Nat.lt_of_le_of_lt (hlw q hqN) (hwf q hqN)) hR;subst he;simp only [hlen,h3,h4,h5,h6,h7,gB,sevalprocAttr] at t3 t4 t5 t6 t7;simp -implicitDefEqProofs only [aP,tl,t3,t4,t5,t6,t7,hw,↓zzC,zzE,sevalprocAttr];generalize hX:EvC aa C0 W0 _ _ _=Z;refine ih (q+1) _ _ _ hX (by omega) (by omega) ⟨by simp only [ls,tl],Aj5 (by simp only [tl,t3,t4,t5,t6,t7,gB,and_self,sevalprocAttr]) ⟨hA.m3 hob _,?_⟩⟩;rw [hst];unfold rl;rw [if_pos hm];exact hO.set _
   | false =>rw [hm] at q2;simp -implicitDefEqProofs only [DH,f22,aP,hlen,h3,h4,h5,h6,h7,hln,hlt,x1,x2,q1,q2,LK,LJ,hw,↓zzC,zzE,sevalprocAttr];generalize hX:EvC aa C0 W0 _ _ _=Z;refine ih (q+1) _ _ _ hX (by omega) (by omega) ⟨by simp only [ls,hlen],Aj5 (by simp only [hlen,h3,h4,h5,h6,h7,gB,and_self,sevalprocAttr]) ⟨hA,?_⟩⟩;rw [hst];unfold rl;rw [if_neg (by rw [hm]; exact Bool.false_ne_true)];exact hO
theorem UD {G:AH} {N lo b ob:Nat} {r:Nat->Nat} {M:Nat->Nat->Bool} {wf:Nat->Nat} (h1w:∀ i k,i < N->k < N->M i k=true->wf i+1<=wf k) (hwf:∀ k,k < N->wf k < 2 ^ 50) (hN:N<=1000) (hob:G.length<=ob) (hM:jF 59 4 lo G b N N r M) {rv:AV} {ol:List Nat} (hL:Low N wf ol):∀ (d q:Nat) (tm:List AV) (K:AH) (Z:Option (bk × St)),EvC aa C0 W0 rC S8 (tm,K)=Z->N - q=d->q<=N->(tm.length=52/\tm.getD 3 uA=slN b N/\tm.getD 4 uA=slN ob N/\tm.getD 5 uA=rv/\tm.getD 6 uA=I ((q:Nat):Int)/\an G K/\hU K ob (rK M N ol (q))) ->
   ∃ X K1,Z=some (.exit 2,(X,K1))/\(X.length=52/\X.getD 3 uA=slN b N/\X.getD 4 uA=slN ob N/\X.getD 5 uA=rv/\X.getD 6 uA=I ((N:Nat):Int)/\an G K1/\hU K1 ob (rK M N ol (N))):=by
 have hln:=fun K=>QZ K ob 0 1 N N true;intro d;induction d with
 | zero =>
   intro q tm K Z hZ hd hq hI;subst hZ;have hql:q=N:=by omega
   subst hql;obtain ⟨hlen,h3,h4,h5,h6,hA,hO⟩:=hI;have hlt:ltB ((q:Nat):Int) (q:Nat)=false:=cw (by omega);rw [NN];simp -implicitDefEqProofs only [Ha,f22,aP,hlen,h3,h4,h5,h6,hln,hlt,↓zzC,zzE,sevalprocAttr];exact ⟨_,K,rfl,by simp only [ls,hlen],Aj4 (by simp only [hlen,h3,h4,h5,h6,gB,and_self,sevalprocAttr]) ⟨hA,hO⟩⟩
 | succ d ih =>
   intro q tm K Z hZ hd hq hI;subst hZ;have hqN:q < N:=by omega
   obtain ⟨hlen,h3,h4,h5,h6,hA,hO⟩:=hI;have hlt:ltB (q:Int) (N:Nat)=true:=cu (by omega);have hw:=b6 (j:=q) (by omega);rw [NN];simp -implicitDefEqProofs only [Ha,f22,aP,hlen,h3,h4,h5,h6,hln,hlt,↓zzC,zzE,sevalprocAttr];generalize hX:EvC aa C0 W0 rC (Code.loop _) _=Z;obtain ⟨X,K1,he,xl,x3,x4,x5,x6,x7,xA,xO⟩:=XU (rv:=rv) h1w hwf hN hob hM hqN (Qu.A0 h1w hL q (by omega)) _ 0 _ _ _ hX rfl (aV _) ⟨by simp only [ls,hlen],Aj4 (by simp only [hlen,h3,h4,h5,h6,gB,and_self,sevalprocAttr]) ⟨by simp only [hlen,gB,sevalprocAttr]; try rfl,hA,hO⟩⟩;subst he;simp -implicitDefEqProofs only [aP,xl,x3,x4,x5,x6,x7,hw,↓zzC,zzE,sevalprocAttr];generalize hY:EvC aa C0 W0 _ _ _=Z;exact ih (q+1) _ _ _ hY (by omega) (by omega) ⟨by simp only [ls,xl],Aj4 (by simp only [xl,x3,x4,x5,x6,gB,and_self,sevalprocAttr]) ⟨xA,xO⟩⟩
theorem UC {G:AH} {N lo b ob:Nat} {r:Nat->Nat} {M:Nat->Nat->Bool} {wf:Nat->Nat} (h1w:∀ i k,i < N->k < N->M i k=true->wf i+1<=wf k) (hwf:∀ k,k < N->wf k < 2 ^ 50) (hN:N<=1000) (hob:G.length<=ob) (hM:jF 59 4 lo G b N N r M)  : ∀ (d q:Nat) (tm:List AV) (K:AH) (Z:Option (bk × St)),EvC aa C0 W0 rC S7 (tm,K)=Z->N - q=d->q<=N->(tm.length=52/\tm.getD 3 uA=slN b N/\tm.getD 4 uA=slN ob N/\tm.getD 5 uA=I ((q:Nat):Int)/\an G K/\hU K ob (rR M N (q))) ->
   ∃ X K1,Z=some (.exit 0,(X,K1))/\(X.length=52/\X.getD 3 uA=slN b N/\X.getD 4 uA=slN ob N/\X.getD 5 uA=I ((N:Nat):Int)/\an G K1/\hU K1 ob (rR M N (N))):=by
 have hln:=fun K=>QZ K ob 0 1 N N true;intro d;induction d with
 | zero =>
   intro q tm K Z hZ hd hq hI;subst hZ;have hql:q=N:=by omega
   subst hql;obtain ⟨hlen,h3,h4,h5,hA,hO⟩:=hI;have hlt:ltB ((q:Nat):Int) (q:Nat)=false:=cw (by omega);rw [NM];simp -implicitDefEqProofs only [G9,f22,aP,hlen,h3,h4,h5,hln,hlt,↓zzC,zzE,sevalprocAttr];exact ⟨_,K,rfl,by simp only [ls,hlen],Aj3 (by simp only [hlen,h3,h4,h5,gB,and_self,sevalprocAttr]) ⟨hA,hO⟩⟩
 | succ d ih =>
   intro q tm K Z hZ hd hq hI;subst hZ;have hqN:q < N:=by omega
   obtain ⟨hlen,h3,h4,h5,hA,hO⟩:=hI;have hlt:ltB (q:Int) (N:Nat)=true:=cu (by omega);have hw:=b6 (j:=q) (by omega);rw [NM];simp -implicitDefEqProofs only [G9,f22,aP,hlen,h3,h4,h5,hln,hlt,↓zzC,zzE,sevalprocAttr];generalize hX:EvC aa C0 W0 rC (Code.loop _) _=Z;obtain ⟨X,K1,he,xl,x3,x4,x5,x6,xA,xO⟩:=UD (rv:=I (q:Int)) h1w hwf hN hob hM (Kq h1w q) _ 0 _ _ _ hX rfl (aV _) ⟨by simp only [ls,hlen],Aj3 (by simp only [hlen,h3,h4,h5,gB,and_self,sevalprocAttr]) ⟨by simp only [hlen,gB,sevalprocAttr]; try rfl,hA,hO⟩⟩;subst he;simp -implicitDefEqProofs only [aP,xl,x3,x4,x5,x6,hw,↓zzC,zzE,sevalprocAttr];generalize hY:EvC aa C0 W0 _ _ _=Z;exact ih (q+1) _ _ _ hY (by omega) (by omega) ⟨by simp only [ls,xl],Aj3 (by simp only [xl,x3,x4,x5,gB,and_self,sevalprocAttr]) ⟨xA,xO⟩⟩
theorem aeT {H:AH} {ss:List (List Itm)} {vs:AV} {wf:Nat->Nat} (hs:cT H ss vs) (hfew:ss.flatten.length<=1000) (hev:∀ i,i < ss.flatten.length->(itP ss i).kind=3->∃ e:Nat,(itP ss i).ev=e/\e < 16) (h1w:∀ i k,i < ss.flatten.length->k < ss.flatten.length->bef (qS ss) i k=true->wf i+1<=wf k) (hwf:∀ k,k < ss.flatten.length->wf k < 2 ^ 50):∃ ob K,Ev aa C0 W0 22 [vs] H=some (slN ob ss.flatten.length,K)/\an H K/\hU K ob (rR (bef (qS ss)) ss.flatten.length ss.flatten.length):=by obtain ⟨tm,ht,g0,g1⟩:=tm1 vs 52 (by decide);rw [adr,ht];obtain ⟨lo,b,r,K1,h23,hA1,hM⟩:=aam hs hfew hev;have hms:=F7 ss.flatten.length hfew none K1;have hput:∀ o,put none K1 o=some (K1.length,K1++[o]):=fun _=>rfl;rw [hput,cH] at hms;have hln:=fun K=>ab3 K b 0 1 ss.flatten.length ss.flatten.length true;simp -implicitDefEqProofs only [c22,f22,aP,g0,g1,↓ZT,h23,hln,↓g9,hms,↓zzC,zzE,sevalprocAttr];generalize hX:EvC aa C0 W0 rC (Code.loop _) _=Z;obtain ⟨X,K,he,xl,x3,x4,x5,xA,xO⟩:=UC (G:=K1) (ob:=K1.length) h1w hwf hfew (aw _) hM _ 0 _ _ _ hX rfl (aV _) ⟨by simp only [ls,g0],Aj2 (by simp only [g0,gB,and_self,sevalprocAttr]) ⟨by simp only [g0,gB,sevalprocAttr]; try rfl,an.app _ _,by unfold hU;rw [List.getElem?_append_right (aw _),Nat.sub_self];show some (bm.cells (au ss.flatten.length (I 0)) 3)=some (.cells (iv1 (au ss.flatten.length 0)) 3);unfold iv1;rw [List.map_replicate]; rfl⟩⟩;subst he;refine ⟨K1.length,K,?_,hA1.trans xA,xO⟩;simp -implicitDefEqProofs only [aP,xl,x3,x4,↓zzC,zzE,sevalprocAttr]
end Go.Dv
