/- Part 38 of the walks (own work). -/
import Derived.Test.YtilpjnckfkjkbaaGreatDoorU37
open List renaming append_nil→af,getElem?_append_right→al,mem_cons→bW,not_mem_nil→cE,replicate→au
open Nat renaming le_refl→aw,le_trans→bh,not_lt_zero→pF,sub_self→d9,zero_le→aV
open Go.Proofs.Tryz renaming prog→aa
set_option maxRecDepth 100000
set_option maxHeartbeats 4000000
set_option linter.unusedSimpArgs false
set_option linter.unusedVariables false
open Go.Proofs.Tryz (f23)
namespace Go.Dv
open Go.Proofs
attribute [local congr] aA bC aT bB bD
open Qu (places lW)
def Mb (ss:List (List Itm)) (i k:Nat):Nat->Nat->Bool:=fun a c=>if a < i∨(a=i/\c < k) then lW (qS ss) a c else false
theorem RV (ss:List (List Itm)) (i k:Nat) (v:Bool) (hv:v=lW (qS ss) i k) (a c:Nat):Ed (Mb ss i k) i k v a c=Mb ss i (k+1) a c:=by
 unfold Ed Mb;by_cases h:a=i/\c=k
 · rw [if_pos h,if_pos (by omega),hv,h.1,h.2]
 · rw [if_neg h];by_cases g:a < i∨(a=i/\c < k)
   · rw [if_pos g,if_pos (by omega)]
   · rw [if_neg g,if_neg (by omega)]
theorem WM (ss:List (List Itm)) (i n:Nat) {a c:Nat} (ha:a < i+1) (hc:c < n):Mb ss i n a c=Mb ss (i+1) 0 a c:=by
 unfold Mb;by_cases g:a < i∨(a=i/\c < n)
 · rw [if_pos g,if_pos (by omega)]
 · omega
theorem WE {G:AH} {ss:List (List Itm)} {vs lv:AV} {rb lo b:Nat} (hs:cT G ss vs) (hl:SlS 104 2 G lv (plR (places (qS ss)))) (hfew:ss.flatten.length<=1000) (hev:∀ i,i < ss.flatten.length->(itP ss i).kind=3->∃ e:Nat,(itP ss i).ev=e/\e < 16) (hrb:G[rb]? =some (.cells (rcV ss ss.flatten.length) 111)) (hlo:G.length<=lo) {i xb:Nat} {r:Nat->Nat} {va:AV} (hi:i < ss.flatten.length) (hxr:∀ j,j < i+1->r j≠xb):∀ (d k:Nat) (tm:List AV) (K:AH) (Z:Option (bk × St)),EvC aa C0 W0 jc S5 (tm,K)=Z->ss.flatten.length - k=d->k<=ss.flatten.length->(tm.length=203/\tm.getD 0 uA=vs/\tm.getD 3 uA=lv/\tm.getD 4 uA=.ptr rb 0/\tm.getD 7 uA=slN b ss.flatten.length/\tm.getD 8 uA=I (i:Int)/\tm.getD 9 uA=.ptr xb 0/\tm.getD 10 uA=I ((k:Nat):Int)/\an G K/\jF 59 4 lo K b ss.flatten.length (i+1) r (Mb ss i (k))/\K[xb]? =some (.cells (aJ (itP ss i) va) 34)) ->
   ∃ X K1,Z=some (.exit 4,(X,K1))/\(X.length=203/\X.getD 0 uA=vs/\X.getD 3 uA=lv/\X.getD 4 uA=.ptr rb 0/\X.getD 7 uA=slN b ss.flatten.length/\X.getD 8 uA=I (i:Int)/\X.getD 9 uA=.ptr xb 0/\X.getD 10 uA=I ((ss.flatten.length:Nat):Int)/\an G K1/\jF 59 4 lo K1 b ss.flatten.length (i+1) r (Mb ss i (ss.flatten.length))/\K1[xb]? =some (.cells (aJ (itP ss i) va) 34)):=by
 have hln:=fun K=>Cl hl K;obtain ⟨li,lk,i0,k0,i2,k2,w,va1,hp⟩:=pit hs hl hi;intro d;induction d with
 | zero =>
   intro k tm K Z hZ hd hk hI;subst hZ;have hkl:k=ss.flatten.length:=by omega
   subst hkl;obtain ⟨hlen,h0,h3,h4,h7,h8,h9,h10,hA,hM,hx⟩:=hI;have hlt:ltB ((ss.flatten.length:Nat):Int) (ss.flatten.length:Nat)=false:=cw (by omega);rw [NK];simp -implicitDefEqProofs only [G7,f23,aP,hlen,h0,h3,h4,h7,h8,h9,h10,hln,hlt,↓zzC,zzE,sevalprocAttr];exact ⟨_,K,rfl,by simp only [ls,hlen],Aj7 (by simp only [hlen,h0,h3,h4,h7,h8,h9,h10,gB,and_self,sevalprocAttr]) ⟨hA,hM,hx⟩⟩
 | succ d ih =>
   intro k tm K Z hZ hd hk hI;subst hZ;have hkN:k < ss.flatten.length:=by omega
   obtain ⟨hlen,h0,h3,h4,h7,h8,h9,h10,hA,hM,hx⟩:=hI;have hlt:ltB (k:Int) (ss.flatten.length:Nat)=true:=cu (by omega);have hw:=b6 (j:=k) (by omega);obtain ⟨li',lk',i0',k0',i2',k2',w',vb,hq⟩:=pit hs hl hkN;rw [NK];simp -implicitDefEqProofs only [G7,f23,aP,hlen,h0,h3,h4,h7,h8,h9,h10,hln,hlt,↓zzC,zzE,sevalprocAttr];generalize hR:EvC aa C0 W0 _ (Code.region _ _ _) _=R;obtain ⟨t,K',he,hA',hy,tl,t11,t0,t3,t4,t7,t8,t9,t10⟩:=H8 hq hA (by simp only [ls,hlen]) (by simp only [hlen,h0,gB,sevalprocAttr]) (by simp only [hlen,h3,gB,sevalprocAttr]) (by simp only [hlen,h10,gB,sevalprocAttr]) hR;subst he;simp only [hlen,h0,h3,h4,h7,h8,h9,h10,gB,sevalprocAttr] at t0 t3 t4 t7 t8 t9 t10;have hAG:=hA.trans hA';have hM':=hM.aZ hA';have hx':=hA'.get hx;obtain ⟨rx0,rx6⟩:=Jo hx';obtain ⟨ry0,ry6⟩:=Jo hy;have hi1:i < i+1:=Nat.lt_succ_self i;have hwr:=fun v=>(hM'.wr hi1 hkN v).1;have q1:=hM'.rdO hi1 [];have q2:=hp.l0 K' hAG [];have q3:=hp.l1 K' hAG [];have q4:=hq.l0 K' hAG [];have q5:=hq.l1 K' hAG [];rw [af] at q1 q2 q3 q4 q5;simp -implicitDefEqProofs only [aP,tl,t0,t3,t4,t7,t8,t9,t10,t11,↓zzC,zzE,sevalprocAttr];generalize hR2:EvC aa C0 W0 _ (Code.region _ _ _) _=R2;obtain ⟨u,he2,ul,u0,u3,u4,u7,u8,u9,u10⟩:=H7 (rc:=((rcN ss ss.flatten.length (itP ss i).ev:Nat):Int)) tl t3 t4 t7 t8 t9 t10 t11 hi hkN q1 hp.xl q2 q3 hq.xl q4 q5 rx0 rx6 ry0 ry6 (fun h3=>by obtain ⟨e,e1,e2⟩:=hev i hi ((cP _ _).1 h3);refine ⟨e,e1,e2,?_⟩;have:=Sc (hAG.get hrb) e2 [];rwa [af,<-e1] at this) hwr hR2;subst he2;rw [<-RK hi hkN];have hMM:=((hM'.wr hi1 hkN (lW (qS ss) i k)).2).congr (M':=Mb ss i (k+1)) fun a c _ _=>RV ss i k _ rfl a c;simp only [t0,t3,t4,t7,t8,t9,t10] at u0 u3 u4 u7 u8 u9 u10;simp -implicitDefEqProofs only [aP,ul,u0,u3,u4,u7,u8,u9,u10,hw,↓zzC,zzE,sevalprocAttr];generalize hX:EvC aa C0 W0 _ _ _=Z;refine ih (k+1) _ _ _ hX (by omega) (by omega) ⟨by simp only [ls,ul],Aj7 (by simp only [ul,u0,u3,u4,u7,u8,u9,u10,gB,and_self,sevalprocAttr]) ⟨hAG.m3 (bh hlo (hM'.lr i hi1)) _,hMM,?_⟩⟩;rw [List.getElem?_set_ne (hxr i hi1)];exact hx'
theorem RL {G:AH} {ss:List (List Itm)} {vs lv:AV} {rb lo b:Nat} (hs:cT G ss vs) (hl:SlS 104 2 G lv (plR (places (qS ss)))) (hfew:ss.flatten.length<=1000) (hev:∀ i,i < ss.flatten.length->(itP ss i).kind=3->∃ e:Nat,(itP ss i).ev=e/\e < 16) (hrb:G[rb]? =some (.cells (rcV ss ss.flatten.length) 111)) (hlo:G.length<=lo):∀ (d i:Nat) (tm:List AV) (K:AH) (Z:Option (bk × St)),EvC aa C0 W0 jc S4 (tm,K)=Z->ss.flatten.length - i=d->i<=ss.flatten.length->(tm.length=203/\tm.getD 0 uA=vs/\tm.getD 3 uA=lv/\tm.getD 4 uA=.ptr rb 0/\tm.getD 7 uA=slN b ss.flatten.length/\tm.getD 8 uA=I ((i:Nat):Int)/\an G K/\∃ r,jF 59 4 lo K b ss.flatten.length (i) r (Mb ss (i) 0)) ->
   ∃ X K1,Z=some (.exit 2,(X,K1))/\(X.length=203/\X.getD 0 uA=vs/\X.getD 3 uA=lv/\X.getD 4 uA=.ptr rb 0/\X.getD 7 uA=slN b ss.flatten.length/\X.getD 8 uA=I ((ss.flatten.length:Nat):Int)/\an G K1/\∃ r,jF 59 4 lo K1 b ss.flatten.length (ss.flatten.length) r (Mb ss (ss.flatten.length) 0)):=by
 have hln:=fun K=>Cl hl K;have hms:=fun H=>abS ss.flatten.length hfew H;intro d;induction d with
 | zero =>
   intro i tm K Z hZ hd hi hI;subst hZ;have hil:i=ss.flatten.length:=by omega
   subst hil;obtain ⟨hlen,h0,h3,h4,h7,h8,hA,r,hM⟩:=hI;have hlt:ltB ((ss.flatten.length:Nat):Int) (ss.flatten.length:Nat)=false:=cw (by omega);rw [NJ];simp -implicitDefEqProofs only [G6,f23,aP,hlen,h0,h3,h4,h7,h8,hln,hlt,↓zzC,zzE,sevalprocAttr];exact ⟨_,K,rfl,by simp only [ls,hlen],Aj5 (by simp only [hlen,h0,h3,h4,h7,h8,gB,and_self,sevalprocAttr]) ⟨hA,r,hM⟩⟩
 | succ d ih =>
   intro i tm K Z hZ hd hi hI;subst hZ;have hiN:i < ss.flatten.length:=by omega
   obtain ⟨hlen,h0,h3,h4,h7,h8,hA,r,hM⟩:=hI;have hlt:ltB (i:Int) (ss.flatten.length:Nat)=true:=cu (by omega);have hw:=b6 (j:=i) (by omega);obtain ⟨li,lk,i0,k0,i2,k2,w,va,hp⟩:=pit hs hl hiN;have hloK:lo<=K.length:=bh hM.lb (Nat.le_of_lt (aI hM.ob));obtain ⟨hwr,hM2⟩:=hM.row hloK hiN (fun k _=>by unfold Mb; rw [if_neg (by omega)]);have hx57:=fun kk=>E3 b hiN kk;have hA2:an G ((K++[bm.cells (au ss.flatten.length (.bool false)) 4]).set b (bm.cells (pk ss.flatten.length (i+1) (fun j=>if j=i then K.length else r j)) 59)):=(hA.bX _).m3 (bh hlo hM.lb) _;generalize hK2:(K++[bm.cells (au ss.flatten.length (.bool false)) 4]).set b (bm.cells (pk ss.flatten.length (i+1) (fun j=>if j=i then K.length else r j)) 59)=K2 at *;rw [NJ];simp -implicitDefEqProofs only [G6,f23,aP,hlen,h0,h3,h4,h7,h8,hln,hlt,↓g9,hms,hx57,hwr,abK,↓zzC,zzE,sevalprocAttr];generalize hR:EvC aa C0 W0 _ (Code.region _ _ _) _=R;obtain ⟨t,K',he,hA',hx,tl,t9,t0,t3,t4,t7,t8⟩:=H9 hp hA2 (by simp only [ls,hlen]) (by simp only [hlen,h0,gB,sevalprocAttr]) (by simp only [hlen,h3,gB,sevalprocAttr]) (by simp only [hlen,h8,gB,sevalprocAttr]) hR;subst he;simp only [hlen,h0,h3,h4,h7,h8,gB,sevalprocAttr] at t0 t3 t4 t7 t8;simp -implicitDefEqProofs only [aP,tl,t0,t3,t4,t7,t8,t9,↓zzC,zzE,sevalprocAttr];generalize hX:EvC aa C0 W0 jc (Code.loop _) _=Z;obtain ⟨X,K1,he2,xl,x0,x3,x4,x7,x8,x9,x10,xA,xM,xx⟩:=WE (xb:=K2.length+15) (va:=va) hs hl hfew hev hrb hlo hiN (fun j hj=>by have:=aI (hM2.rw j hj); omega) _ 0 _ _ _ hX rfl (aV _) ⟨by simp only [ls,tl],Aj6 (by simp only [tl,t0,t3,t4,t7,t8,t9,gB,and_self,sevalprocAttr]) ⟨by simp only [tl,gB,sevalprocAttr]; try rfl,hA2.trans hA',hM2.aZ hA',hx⟩⟩;subst he2;simp -implicitDefEqProofs only [aP,xl,x0,x3,x4,x7,x8,hw,↓zzC,zzE,sevalprocAttr];generalize hY:EvC aa C0 W0 _ _ _=Z;exact ih (i+1) _ _ _ hY (by omega) (by omega) ⟨by simp only [ls,xl],Aj5 (by simp only [xl,x0,x3,x4,x7,x8,gB,and_self,sevalprocAttr]) ⟨xA,_,xM.congr fun a c ha hc=>WM ss i _ ha hc⟩⟩
end Go.Dv
namespace Go.Dv
open Go.Proofs
attribute [local congr] aA bC aT bB bD
open Qu (places lW wn bef)
theorem H6 {K:AH} {Kw:Bool->AH} {N b ri rj i j k:Nat} {va vb vc:Bool} {tm:List AV} (hlen:tm.length=203) (h7:tm.getD 7 uA=slN b N) (h12:tm.getD 12 uA=I (j:Int)) (h13:tm.getD 13 uA=I (i:Int)) (h14:tm.getD 14 uA=I (k:Int)) (hi:i < N) (hj:j < N) (hk:k < N) (rO:ak K b i 1=some [slN ri N]) (rO':ak K b j 1=some [slN rj N]) (ra:ak K ri k 1=some [.bool va]) (rb:ak K ri j 1=some [.bool vb]) (rc:ak K rj k 1=some [.bool vc]) (hwr:∀ v,bj K ri k [.bool v]=some (Kw v)) {R:Option (bk × St)} (hR:EvC aa C0 W0 jc (aH [true,true,true,true,true,true,false,true,false,false,true,false,false,true,false,false,true,false,false,true,false,false,true,false,false] c23) (tm,K)=R) :
   ∃ tm',R=some (.normal,(tm',Kw (va || (vb && vc))))/\tm'.length=203/\tm'.getD 3 uA=tm.getD 3 uA/\tm'.getD 7 uA=tm.getD 7 uA/\tm'.getD 12 uA=tm.getD 12 uA/\tm'.getD 13 uA=tm.getD 13 uA/\tm'.getD 14 uA=tm.getD 14 uA:=by subst hR;have x1:=fun kk=>E3 b hi kk;have x2:=fun kk=>E3 b hj kk;have x3:=fun kk=>E2 ri hk kk;have x4:=fun kk=>E2 ri hj kk;have x5:=fun kk=>E2 rj hk kk;cases va <;> cases vb <;> (simp -implicitDefEqProofs only [c23,f23,aP,hlen,h7,h12,h13,h14,x1,x2,x3,x4,x5,rO,rO',ra,rb,rc,hwr,LK,LJ,st4,↓kG KS,↓zzC,zzE,sevalprocAttr]; exact ⟨_,rfl,by simp only [ls,hlen],by simp only [hlen,h7,h12,h13,h14,gB,and_self,sevalprocAttr]⟩)
def Wm (M:Nat->Nat->Bool) (j i k:Nat):Nat->Nat->Bool:=fun a c=>if a < i∨(a=i/\c < k) then wn M (j+1) a c else wn M j a c
theorem abq (M:Nat->Nat->Bool) (j i k:Nat):Wm M j i k i k=wn M j i k:=by unfold Wm; rw [if_neg (by omega)]
theorem WJ (M:Nat->Nat->Bool) (j i k:Nat):Wm M j i k i j=wn M j i j:=by
 unfold Wm;split
 · rw [Qu.Ud]
 · rfl
theorem WK (M:Nat->Nat->Bool) (j i k:Nat):Wm M j i k j k=wn M j j k:=by
 unfold Wm;split
 · rw [Qu.Ue]
 · rfl
theorem RQ (M:Nat->Nat->Bool) (j i k a c:Nat):Ed (Wm M j i k) i k (wn M j i k || (wn M j i j && wn M j j k)) a c=Wm M j i (k+1) a c:=by
 unfold Ed Wm;by_cases h:a=i/\c=k
 · rw [if_pos h,if_pos (by omega),h.1,h.2]; rfl
 · rw [if_neg h];by_cases g:a < i∨(a=i/\c < k)
   · rw [if_pos g,if_pos (by omega)]
   · rw [if_neg g,if_neg (by omega)]
theorem RR (M:Nat->Nat->Bool) (j i n:Nat) {a c:Nat} (hc:c < n):Wm M j i n a c=Wm M j (i+1) 0 a c:=by
 unfold Wm;by_cases g:a < i∨(a=i/\c < n)
 · rw [if_pos g,if_pos (by omega)]
 · rw [if_neg g,if_neg (by omega)]
theorem RS (M:Nat->Nat->Bool) (j n:Nat) {a c:Nat} (ha:a < n):Wm M j n 0 a c=Wm M (j+1) 0 0 a c:=by unfold Wm;rw [if_pos (by omega),if_neg (by omega)]
theorem Ht (M:Nat->Nat->Bool) (j a c:Nat):Wm M j 0 0 a c=wn M j a c:=by unfold Wm;rw [if_neg (by omega)]
theorem T7 {G:AH} {lv:AV} {N lo b:Nat} {r:Nat->Nat} {M:Nat->Nat->Bool} (hln:∀ K,d4 aa 104 K lv=some (I (N:Nat))) (hN:N<=1000) (hlo:G.length<=lo) {i j:Nat} (hi:i < N) (hj:j < N):∀ (d q:Nat) (tm:List AV) (K:AH) (Z:Option (bk × St)),EvC aa C0 W0 jc S3 (tm,K)=Z->N - q=d->q<=N->(tm.length=203/\tm.getD 3 uA=lv/\tm.getD 7 uA=slN b N/\tm.getD 12 uA=I (j:Int)/\tm.getD 13 uA=I (i:Int)/\tm.getD 14 uA=I ((q:Nat):Int)/\an G K/\jF 59 4 lo K b N N r (Wm M j i (q))) ->
   ∃ X K1,Z=some (.exit 10,(X,K1))/\(X.length=203/\X.getD 3 uA=lv/\X.getD 7 uA=slN b N/\X.getD 12 uA=I (j:Int)/\X.getD 13 uA=I (i:Int)/\X.getD 14 uA=I ((N:Nat):Int)/\an G K1/\jF 59 4 lo K1 b N N r (Wm M j i (N))):=by
 intro d;induction d with
 | zero =>
   intro q tm K Z hZ hd hq hI;subst hZ;have hql:q=N:=by omega
   subst hql;obtain ⟨hlen,h3,h7,h12,h13,h14,hA,hM⟩:=hI;have hlt:ltB ((q:Nat):Int) (q:Nat)=false:=cw (by omega);rw [NI];simp -implicitDefEqProofs only [G5,f23,aP,hlen,h3,h7,h12,h13,h14,hln,hlt,↓zzC,zzE,sevalprocAttr];exact ⟨_,K,rfl,by simp only [ls,hlen],Aj5 (by simp only [hlen,h3,h7,h12,h13,h14,gB,and_self,sevalprocAttr]) ⟨hA,hM⟩⟩
 | succ d ih =>
   intro q tm K Z hZ hd hq hI;subst hZ;have hqN:q < N:=by omega
   obtain ⟨hlen,h3,h7,h12,h13,h14,hA,hM⟩:=hI;have hlt:ltB (q:Int) (N:Nat)=true:=cu (by omega);have hw:=b6 (j:=q) (by omega);rw [NI];simp -implicitDefEqProofs only [G5,f23,aP,hlen,h3,h7,h12,h13,h14,hln,hlt,↓zzC,zzE,sevalprocAttr];generalize hR:EvC aa C0 W0 _ (Code.region _ _ _) _=R;have q1:=hM.rdO hi [];have q2:=hM.rdO hj [];have q3:=hM.rdC hi hqN [];have q4:=hM.rdC hi hj [];have q5:=hM.rdC hj hqN [];rw [af] at q1 q2 q3 q4 q5;rw [abq] at q3;rw [WJ] at q4;rw [WK] at q5;have hwr:=fun v=>(hM.wr hi hqN v).1;obtain ⟨t,he,tl,t3,t7,t12,t13,t14⟩:=H6 (by simp only [ls,hlen]) (by simp only [hlen,h7,gB,sevalprocAttr]) (by simp only [hlen,h12,gB,sevalprocAttr]) (by simp only [hlen,h13,gB,sevalprocAttr]) (by simp only [hlen,h14,gB,sevalprocAttr]) hi hj hqN q1 q2 q3 q4 q5 hwr hR;subst he;have hMM:=((hM.wr hi hqN (wn M j i q || (wn M j i j && wn M j j q))).2).congr (M':=Wm M j i (q+1)) fun a c _ _=>RQ M j i q a c;simp only [hlen,h3,h7,h12,h13,h14,gB,sevalprocAttr] at t3 t7 t12 t13 t14;simp -implicitDefEqProofs only [aP,tl,t3,t7,t12,t13,t14,hw,↓zzC,zzE,sevalprocAttr];generalize hX:EvC aa C0 W0 _ _ _=Z;exact ih (q+1) _ _ _ hX (by omega) (by omega) ⟨by simp only [ls,tl],Aj5 (by simp only [tl,t3,t7,t12,t13,t14,gB,and_self,sevalprocAttr]) ⟨hA.m3 (bh hlo (hM.lr i hi)) _,hMM⟩⟩
theorem O8 {G:AH} {lv:AV} {N lo b:Nat} {r:Nat->Nat} {M:Nat->Nat->Bool} (hln:∀ K,d4 aa 104 K lv=some (I (N:Nat))) (hN:N<=1000) (hlo:G.length<=lo) {j:Nat} (hj:j < N):∀ (d q:Nat) (tm:List AV) (K:AH) (Z:Option (bk × St)),EvC aa C0 W0 jc SZ (tm,K)=Z->N - q=d->q<=N->(tm.length=203/\tm.getD 3 uA=lv/\tm.getD 7 uA=slN b N/\tm.getD 12 uA=I (j:Int)/\tm.getD 13 uA=I ((q:Nat):Int)/\an G K/\jF 59 4 lo K b N N r (Wm M j (q) 0)) ->
   ∃ X K1,Z=some (.exit 8,(X,K1))/\(X.length=203/\X.getD 3 uA=lv/\X.getD 7 uA=slN b N/\X.getD 12 uA=I (j:Int)/\X.getD 13 uA=I ((N:Nat):Int)/\an G K1/\jF 59 4 lo K1 b N N r (Wm M j (N) 0)):=by
 intro d;induction d with
 | zero =>
   intro q tm K Z hZ hd hq hI;subst hZ;have hql:q=N:=by omega
   subst hql;obtain ⟨hlen,h3,h7,h12,h13,hA,hM⟩:=hI;have hlt:ltB ((q:Nat):Int) (q:Nat)=false:=cw (by omega);rw [NH];simp -implicitDefEqProofs only [G4,f23,aP,hlen,h3,h7,h12,h13,hln,hlt,↓zzC,zzE,sevalprocAttr];exact ⟨_,K,rfl,by simp only [ls,hlen],Aj4 (by simp only [hlen,h3,h7,h12,h13,gB,and_self,sevalprocAttr]) ⟨hA,hM⟩⟩
 | succ d ih =>
   intro q tm K Z hZ hd hq hI;subst hZ;have hqN:q < N:=by omega
   obtain ⟨hlen,h3,h7,h12,h13,hA,hM⟩:=hI;have hlt:ltB (q:Int) (N:Nat)=true:=cu (by omega);have hw:=b6 (j:=q) (by omega);rw [NH];simp -implicitDefEqProofs only [G4,f23,aP,hlen,h3,h7,h12,h13,hln,hlt,↓zzC,zzE,sevalprocAttr];generalize hX:EvC aa C0 W0 jc (Code.loop _) _=Z;obtain ⟨X,K1,he,xl,x3,x7,x12,x13,x14,xA,xM⟩:=T7 hln hN hlo hqN hj _ 0 _ _ _ hX rfl (aV _) ⟨by simp only [ls,hlen],Aj4 (by simp only [hlen,h3,h7,h12,h13,gB,and_self,sevalprocAttr]) ⟨by simp only [hlen,gB,sevalprocAttr]; try rfl,hA,hM⟩⟩;subst he;simp -implicitDefEqProofs only [aP,xl,x3,x7,x12,x13,x14,hw,↓zzC,zzE,sevalprocAttr];generalize hY:EvC aa C0 W0 _ _ _=Z;exact ih (q+1) _ _ _ hY (by omega) (by omega) ⟨by simp only [ls,xl],Aj4 (by simp only [xl,x3,x7,x12,x13,gB,and_self,sevalprocAttr]) ⟨xA,xM.congr fun a c _ hc=>RR M j q N hc⟩⟩
theorem O7 {G:AH} {lv:AV} {N lo b:Nat} {r:Nat->Nat} {M:Nat->Nat->Bool} (hln:∀ K,d4 aa 104 K lv=some (I (N:Nat))) (hN:N<=1000) (hlo:G.length<=lo)  : ∀ (d q:Nat) (tm:List AV) (K:AH) (Z:Option (bk × St)),EvC aa C0 W0 jc SY (tm,K)=Z->N - q=d->q<=N->(tm.length=203/\tm.getD 3 uA=lv/\tm.getD 7 uA=slN b N/\tm.getD 12 uA=I ((q:Nat):Int)/\an G K/\jF 59 4 lo K b N N r (Wm M (q) 0 0)) ->
   ∃ X K1,Z=some (.exit 6,(X,K1))/\(X.length=203/\X.getD 3 uA=lv/\X.getD 7 uA=slN b N/\X.getD 12 uA=I ((N:Nat):Int)/\an G K1/\jF 59 4 lo K1 b N N r (Wm M (N) 0 0)):=by
 intro d;induction d with
 | zero =>
   intro q tm K Z hZ hd hq hI;subst hZ;have hql:q=N:=by omega
   subst hql;obtain ⟨hlen,h3,h7,h12,hA,hM⟩:=hI;have hlt:ltB ((q:Nat):Int) (q:Nat)=false:=cw (by omega);rw [NG];simp -implicitDefEqProofs only [GZ,f23,aP,hlen,h3,h7,h12,hln,hlt,↓zzC,zzE,sevalprocAttr];exact ⟨_,K,rfl,by simp only [ls,hlen],Aj3 (by simp only [hlen,h3,h7,h12,gB,and_self,sevalprocAttr]) ⟨hA,hM⟩⟩
 | succ d ih =>
   intro q tm K Z hZ hd hq hI;subst hZ;have hqN:q < N:=by omega
   obtain ⟨hlen,h3,h7,h12,hA,hM⟩:=hI;have hlt:ltB (q:Int) (N:Nat)=true:=cu (by omega);have hw:=b6 (j:=q) (by omega);rw [NG];simp -implicitDefEqProofs only [GZ,f23,aP,hlen,h3,h7,h12,hln,hlt,↓zzC,zzE,sevalprocAttr];generalize hX:EvC aa C0 W0 jc (Code.loop _) _=Z;obtain ⟨X,K1,he,xl,x3,x7,x12,x13,xA,xM⟩:=O8 hln hN hlo hqN _ 0 _ _ _ hX rfl (aV _) ⟨by simp only [ls,hlen],Aj3 (by simp only [hlen,h3,h7,h12,gB,and_self,sevalprocAttr]) ⟨by simp only [hlen,gB,sevalprocAttr]; try rfl,hA,hM⟩⟩;subst he;simp -implicitDefEqProofs only [aP,xl,x3,x7,x12,x13,hw,↓zzC,zzE,sevalprocAttr];generalize hY:EvC aa C0 W0 _ _ _=Z;exact ih (q+1) _ _ _ hY (by omega) (by omega) ⟨by simp only [ls,xl],Aj3 (by simp only [xl,x3,x7,x12,gB,and_self,sevalprocAttr]) ⟨xA,xM.congr fun a c ha _=>RS M q N ha⟩⟩
end Go.Dv
namespace Go.Dv
open Go.Proofs
attribute [local congr] aA bC aT bB bD
open Qu (places lW wn bef)
theorem WD (ss:List (List Itm)):iV aa 111 []=some (.agg (rcV ss 0)):=by rw [Ce]; exact abe
theorem W8 (ss:List (List Itm)):d8 aa 111=some (.agg (rcV ss 0)):=by rw [Ce]; exact abv
theorem PH (ss:List (List Itm)) (i:Nat):(rcV ss i).all AV.one=true:=by unfold rcV;rw [List.all_map,List.all_eq_true];intro x _; rfl
theorem LF (ss:List (List Itm)) (G:AH) (n:Nat) (r:Nat->Nat) (M:Nat->Nat->Bool):jF 59 4 G.length (G++[.cells (au n .nilSlice) 59]) G.length n 0 r M:=
 ⟨by rw [al (aw _),d9,Ei]; rfl,fun j h=>absurd h (pF _),fun j _ h=>absurd h (pF _),fun j h=>absurd h (pF _),aw _,fun j h=>absurd h (pF _),aV _⟩
theorem aam {H:AH} {ss:List (List Itm)} {vs:AV} (hs:cT H ss vs) (hfew:ss.flatten.length<=1000) (hev:∀ i,i < ss.flatten.length->(itP ss i).kind=3->∃ e:Nat,(itP ss i).ev=e/\e < 16):∃ lo b r K,Ev aa C0 W0 23 [vs] H=some (slN b ss.flatten.length,K)/\an H K/\jF 59 4 lo K b ss.flatten.length ss.flatten.length r (bef (qS ss)):=by
 obtain ⟨tm,ht,g0,g1⟩:=tm1 vs 203 (by decide);rw [adq,ht];obtain ⟨lv,K1,h51,hA1,ho⟩:=aae hs hfew;have hl:=Own.mJ LY (by decide) ho (A7 _);have hs1:=hs.aZ hA1;have hput:∀ o,put none K1 o=some (K1.length,K1++[o]):=fun _=>rfl;have hsp:spl (rcV ss 0) 0 (rcV ss 0)=rcV ss 0:=mG _ _ rfl;have hb:=WD ss;have hz:=W8 ss;have hrl:=nq ss 0;have hro:=PH ss 0;simp -implicitDefEqProofs only [c23,f23,aP,g0,g1,↓ZL,h51,hput,hb,hz,XS,hrl,hro,↓hsp,↓zzC,zzE,sevalprocAttr];generalize hX:EvC aa C0 W0 jc (Code.loop _) _=Z;obtain ⟨X,G2,he,x0,x1,x3,x4,x5,xA,xr⟩:=XW (rb:=K1.length) hs1 hl hfew hev (aw _) _ 0 _ _ _ hX rfl (aV _) ⟨by simp only [ls,g0],Aj3 (by simp only [g0,g1,gB,and_self,sevalprocAttr]) ⟨by simp only [g0,gB,sevalprocAttr]; try rfl,an.app _ _,by rw [al (aw _),d9]; rfl⟩⟩;subst he;have hl2:=hl.same xA;have hs2:=hs1.aZ xA;have hln:=fun K=>Cl hl2 K;have hms:=abT ss.flatten.length hfew G2;simp -implicitDefEqProofs only [aP,x0,x1,x3,x4,x5,hln,↓g9,hms,↓zzC,zzE,sevalprocAttr];generalize hY:EvC aa C0 W0 jc (Code.loop _) _=Z;obtain ⟨Y,G3,he,y0,y1,y3,y4,y7,y8,yA,r,yM⟩:=RL (b:=G2.length) (lo:=G2.length) hs2 hl2 hfew hev xr (aw _) _ 0 _ _ _ hY rfl (aV _) ⟨by simp only [ls,x0],Aj4 (by simp only [x0,x1,x3,x4,gB,and_self,sevalprocAttr]) ⟨by simp only [x0,gB,sevalprocAttr]; try rfl,an.app _ _,fun _=>0,LF ss G2 _ _ _⟩⟩;subst he;simp -implicitDefEqProofs only [aP,y0,y1,y3,y4,y7,y8,↓zzC,zzE,sevalprocAttr];generalize hW:EvC aa C0 W0 jc (Code.loop _) _=Z;have hM0:=yM.congr (M':=Wm (lW (qS ss)) 0 0 0) fun j k hj hk=>by rw [Ht];unfold Mb;rw [if_pos (by omega)]; rfl
 obtain ⟨V,K,he,v0,v3,v7,v12,vA,vM⟩:=O7 (G:=G2) hln hfew (aw _) _ 0 _ _ _ hW rfl (aV _) ⟨by simp only [ls,y0],Aj2 (by simp only [y0,y3,y7,gB,and_self,sevalprocAttr]) ⟨by simp only [y0,gB,sevalprocAttr]; try rfl,yA,hM0⟩⟩;subst he;refine ⟨G2.length,G2.length,r,K,?_,(hA1.trans xA).trans vA,vM.congr fun j k _ _=>?_⟩
 · simp -implicitDefEqProofs only [aP,v0,v3,v7,↓zzC,zzE,sevalprocAttr]
 · rw [Ht];unfold Qu.bef;rw [gM,List.length_map]
end Go.Dv
namespace Go.Dv
open Go.Proofs
def ssA:List (List Itm):=[[⟨2,0,0,0,0,0,0,[],5⟩,⟨3,0,0,0,0,0,1,[],0⟩],[⟨4,0,0,0,0,0,1,[],0⟩,⟨1,0,0,0,0,1,0,[],0⟩]]
def mA:List (List Int):=[[1,2],[0,0]]
def abF (j:Nat):List Nat × List Qu.Place:=([([0,0],[]),([1,0],[(0,0)]),([2,0],[(0,0),(0,1)]),([2,1],[(0,0),(0,1),(1,0)]),([2,2],[(0,0),(0,1),(1,0),(1,1)])]:List (List Nat × List Qu.Place)).getD j ([],[])
def rA5 (j:Nat):Int->Bool:=if j < 2 then fun _=>false else fun e=>false || e == 1
theorem JQ {a:List Nat} {R:Int->Bool} {L:List Qu.Place} (h:Qu.RT (qS ssA) a R L):∃ j,j < 5/\(a,L)=abF j/\R=rA5 j:=by
 induction h with
 | init=>exact ⟨0,by omega,rfl,rfl⟩
 | @step a R L s x hr hs hx ih =>
   obtain ⟨j,hj,e,rfl⟩:=ih;match j,hj with
   | 0,_ =>
     obtain ⟨rfl,rfl⟩:=Prod.mk.inj e;have:Qu.ready (qS ssA) [0,0] (rA5 0)=[0]:=by decide
     rw [this] at hs;simp at hs;subst hs;cases hx;exact ⟨1,by omega,rfl,rfl⟩
   | 1,_ =>
     obtain ⟨rfl,rfl⟩:=Prod.mk.inj e;have:Qu.ready (qS ssA) [1,0] (rA5 1)=[0]:=by decide
     rw [this] at hs;simp at hs;subst hs;cases hx;exact ⟨2,by omega,rfl,rfl⟩
   | 2,_ =>
     obtain ⟨rfl,rfl⟩:=Prod.mk.inj e;have:Qu.ready (qS ssA) [2,0] (rA5 2)=[1]:=by decide
     rw [this] at hs;simp at hs;subst hs;cases hx;exact ⟨3,by omega,rfl,rfl⟩
   | 3,_ =>
     obtain ⟨rfl,rfl⟩:=Prod.mk.inj e;have:Qu.ready (qS ssA) [2,1] (rA5 3)=[1]:=by decide
     rw [this] at hs;simp at hs;subst hs;cases hx;exact ⟨4,by omega,rfl,rfl⟩
   | 4,_ =>
     obtain ⟨rfl,rfl⟩:=Prod.mk.inj e;have:Qu.ready (qS ssA) [2,2] (rA5 4)=[]:=by decide
     rw [this] at hs;simp at hs
theorem Z7:sG ssA:=by intro l hl x hx hk;simp only [ssA,bW,cE,or_false] at hl;rcases hl with rfl | rfl <;> simp only [bW,cE,or_false] at hx <;> rcases hx with rfl | rfl <;> simp
theorem I5 {ad:List Nat} {m:List (List Int)} {rc:List Bool} (ht:Trod ssA mA ad m rc) (hb:kV ssA ad rc=true):m=[[5,5],[5,5]]/\vr ssA ad rc=0:=by
 obtain ⟨L,hr,rfl⟩:=ht;obtain ⟨j,hj,e,hR⟩:=JQ hr;unfold kV at hb;rw [<-xU Z7,hR] at hb;match j,hj with
 | 0,_ =>
   obtain ⟨rfl,rfl⟩:=Prod.mk.inj e;have:((ey ssA [0,0] ssA.length).sum == 0 || (Qu.ready (qS ssA) [0,0] (rA5 0)).isEmpty)=false:=by decide
   rw [this] at hb; cases hb
 | 1,_ =>
   obtain ⟨rfl,rfl⟩:=Prod.mk.inj e;have:((ey ssA [1,0] ssA.length).sum == 0 || (Qu.ready (qS ssA) [1,0] (rA5 1)).isEmpty)=false:=by decide
   rw [this] at hb; cases hb
 | 2,_ =>
   obtain ⟨rfl,rfl⟩:=Prod.mk.inj e;have:((ey ssA [2,0] ssA.length).sum == 0 || (Qu.ready (qS ssA) [2,0] (rA5 2)).isEmpty)=false:=by decide
   rw [this] at hb; cases hb
 | 3,_ =>
   obtain ⟨rfl,rfl⟩:=Prod.mk.inj e;have:((ey ssA [2,1] ssA.length).sum == 0 || (Qu.ready (qS ssA) [2,1] (rA5 3)).isEmpty)=false:=by decide
   rw [this] at hb; cases hb
 | 4,_ =>obtain ⟨rfl,rfl⟩:=Prod.mk.inj e;exact ⟨by decide,by unfold vr; rw [if_pos (by decide)]⟩
end Go.Dv
