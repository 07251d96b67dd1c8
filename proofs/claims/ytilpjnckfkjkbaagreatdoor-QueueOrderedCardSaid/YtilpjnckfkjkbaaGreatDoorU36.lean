/- Part 36 of the walks (own work). -/
import Derived.Test.YtilpjnckfkjkbaaGreatDoorU35
open Bool renaming not_eq_true'→bl
open List renaming any_cons→cW,any_nil→dz,any_toArray→cj,any_toArray'→dn,append_nil→af,getElem?_append_right→al,head?_cons→qv,length→ew,length_append→ai,length_cons→cR,length_filter_le→gW,length_map→ao,length_replicate→gT,length_set→aq,map_map→pD,mem_filter→fm,mem_map→bI,replicate→au,replicate_succ→cQ,replicate_zero→cG,size_toArray→dm
open Nat renaming add_assoc→bN,le_add_right→dI,le_refl→aw,le_trans→bh,lt_of_le_of_lt→vG,zero_le→aV
open Option renaming map_some→cH
open Option.some renaming inj→aB
open Go.Proofs.Tryz renaming prog→aa
set_option maxRecDepth 100000
set_option maxHeartbeats 4000000
set_option linter.unusedSimpArgs false
set_option linter.unusedVariables false
open Go.Proofs.Tryz (f19 f55)
namespace Go.Dv
open Go.Proofs
attribute [local congr] aA bC aT bB bD
theorem Lz (a b:Nat):(if ((b:Nat):Int) > ((a:Nat):Int) then ((b:Nat):Int) else ((a:Nat):Int))=((max a b:Nat):Int):=by split <;> omega
theorem UL (A:List (List Nat)) (N:Nat) (D:List Nat) (y:Nat):Qu.rem A N D y<=Qu.rem A N [] y:=by
 unfold Qu.rem;have:∀ (l:List Nat) (f:Nat->Nat) (p q:Nat->Bool),(∀ z,p z=true->q z=true)->((l.filter p).map f).sum<=((l.filter q).map f).sum:=by
   intro l f p q hpq;induction l with
   | nil=>simp
   | cons z l ih =>
     simp only [List.filter_cons];cases hp:p z with
     | true=>rw [hpq z hp]; simp; exact ih
     | false =>
       cases hq:q z with
       | true=>simp; omega
       | false=>simpa using ih
 exact this _ _ _ _ fun z _=>rfl
theorem Ur {G:AH} {a ob wb hb N:Nat} {iv av:AV} {A:List (List Nat)} {Ds:List Nat} {x:Nat} {rv:AV} (haft:m8 G A av) (hN:N<=1000) (hA:∀ l∈A,∀ y∈l,y < N) (hrow:∀ l∈A,l.length < 2 ^ 20) (hlA:A.length=N) (hx:x < N) (hs:SlS 30 1 G rv (ints (A.getD x []))):∀ (d q:Nat) (tm:List AV) (K:AH) (Z:Option (bk × St)),EvC aa C0 W0 kC Te (tm,K)=Z->(A.getD x []).length - q=d->q<=(A.getD x []).length->(tm.length=158/\tm.getD 15 uA=.ptr a 0/\tm.getD 16 uA=slN ob N/\tm.getD 17 uA=slN wb N/\tm.getD 22 uA=.ptr hb 0/\tm.getD 25 uA=I (x:Nat)/\tm.getD 121 uA=rv/\tm.getD 122 uA=I ((A.getD x []).length:Nat)/\tm.getD 123 uA=I ((q:Nat):Int)/\∃ w b v T,WvS G K a ob wb iv av N w b/\HpS G a ob wb hb v/\HpR K hb v T/\Qu.KI A N Ds x q w b T) ->
   ∃ X K1,Z=some (.exit 10,(X,K1))/\(X.length=158/\X.getD 15 uA=.ptr a 0/\X.getD 16 uA=slN ob N/\X.getD 17 uA=slN wb N/\X.getD 22 uA=.ptr hb 0/\X.getD 25 uA=I (x:Nat)/\X.getD 121 uA=rv/\X.getD 122 uA=I ((A.getD x []).length:Nat)/\X.getD 123 uA=I (((A.getD x []).length:Nat):Int)/\∃ w b v T,WvS G K1 a ob wb iv av N w b/\HpS G a ob wb hb v/\HpR K1 hb v T/\Qu.KI A N Ds x (A.getD x []).length w b T):=by
 have hrl:=hrow _ (eF (show x < A.length by omega) []);intro d;induction d with
 | zero =>
   intro q tm K Z hZ hd hq hI;subst hZ;have hql:q=(A.getD x []).length:=by omega
   subst hql;obtain ⟨hlen,h15,h16,h17,h22,h25,h121,h122,h123,w,b,v,T,hW,hS,hH,hK⟩:=hI;have hlt:ltB (((A.getD x []).length:Nat):Int) ((A.getD x []).length:Nat)=false:=cw (by omega);rw [NT];simp -implicitDefEqProofs only [DI,f19,aP,hlen,h15,h16,h17,h22,h25,h121,h122,h123,hlt,↓zzA,zzB,sevalprocAttr];exact ⟨_,K,rfl,by simp only [ls,hlen],Aj8 (by simp only [hlen,h15,h16,h17,h22,h25,h121,h122,h123,gB,and_self,sevalprocAttr]) ⟨w,b,v,T,hW,hS,hH,hK⟩⟩
 | succ d ih =>
   intro q tm K Z hZ hd hq hI;subst hZ;obtain ⟨hlen,h15,h16,h17,h22,h25,h121,h122,h123,w,b,v,T,hW,hS,hH,hK⟩:=hI;have hqN:q < (A.getD x []).length:=by omega
   have hlt:ltB (q:Int) ((A.getD x []).length:Nat)=true:=cu (by omega);have hwi:=b6 (j:=q) (by omega);obtain ⟨i1,k1,hix,hrd⟩:=ints_at hs hW.ag hqN;have hrd:=hrd [];rw [af] at hrd;obtain ⟨y,hy⟩:∃ y,(A.getD x [])[q]? =some y:=⟨_,List.getElem?_eq_getElem hqN⟩;have hyd:(A.getD x []).getD q 0=y:=by rw [gde,hy]; rfl
   rw [hyd] at hrd;obtain ⟨hb1,hyN,hK2⟩:=hK.step hA hy;have hyb:y < b.length:=by rw [hW.lb]; exact hyN
   have hyw:y < w.length:=by rw [hW.lw]; exact hyN
   have hxw:x < w.length:=by rw [hW.lw]; exact hx
   have hxo:=fun kk=>ixN (N:=N) ob hx kk;have hyo:=fun kk=>ixN (N:=N) ob hyN kk;have hyw':=fun kk=>ixN (N:=N) wb hyN kk;have hry:=hW.fo.rd hyw;have hrx:=hW.fo.rd hxw;have hDl:Ds.length<=N:=Qu.mP N Ds hK.nd hK.dN;have hwxl:w.getD x 0 < 2 ^ 50:=by have:=hK.w3 x hx; omega
   have hwx:=b6 (j:=w.getD x 0) (by omega);have hmx:=Lz (w.getD y 0) (w.getD x 0+1);have hwo:=hW.fo.wr hyw (max (w.getD y 0) (w.getD x 0+1));have hW2:=hW.UB (w':=w.set y (max (w.getD y 0) (w.getD x 0+1))) (by rw [aq,hW.lw]);have hH2:=hH.XT hS.c2 hS.v2 (.cells (iv1 (w.set y (max (w.getD y 0) (w.getD x 0+1)))) 3);generalize hK2e:K.set ob (.cells (iv1 (w.set y (max (w.getD y 0) (w.getD x 0+1)))) 3)=K2 at hwo hW2 hH2;have hrb:=hW2.fb.rd hyb;have hwb:=hW2.fb.wr hyb (b.getD y 0 - 1);have hsub:IntKind.i64.wrap (((b.getD y 0:Nat):Int) - 1)=((b.getD y 0 - 1:Nat):Int):=by
     have h1:b.getD y 0<=2 ^ 50:=by have h1:=hK.hb y hyN;have h2:=Od hrow y N;rw [Oc] at h2;have h3:Qu.rem A N Ds y<=Qu.rem A N [] y:=UL A N Ds y;have h4:=List.count_le_length (a:=y) (l:=(A.getD x []).drop q);rw [List.length_drop] at h4;omega
     rw [IntWalk.i64_in _ (by omega)]; omega
   have hW3:=hW2.JK (b':=b.set y (b.getD y 0 - 1)) (by rw [aq,hW.lb]);have hH3:=hH2.XT hS.c3 hS.v3 (.cells (iv1 (b.set y (b.getD y 0 - 1))) 3);generalize hK3e:K2.set wb (.cells (iv1 (b.set y (b.getD y 0 - 1))) 3)=K3 at hwb hW3 hH3;have hrb3:=hW3.fb.rd (i:=y) (by rw [aq]; exact hyb);rw [Qu.gU,if_pos ⟨rfl,hyb⟩] at hrb3;rw [NT];by_cases h0:b.getD y 0 - 1=0
   · have hc:eqB ((b.getD y 0 - 1:Nat):Int) 0=true:=by rw [h0]; rfl
     rw [if_pos h0] at hK2;have hTl:T.length<=1000:=bh (Qu.mP N T hK.tn fun t ht=>((hK.tm t).1 ht).1) hN;obtain ⟨v',K',T',h48,hp,hH',hf⟩:=aaf hH3 hTl y;obtain ⟨hW',hS'⟩:=hW3.fr hS hf;simp -implicitDefEqProofs only [DI,f19,aP,hlen,h15,h16,h17,h22,h25,h121,h122,h123,hlt,hwi,hix,hrd,hxo,hyo,hyw',hry,hrx,hwx,↓cD Ck,Bc,↓vw,LA,hmx,hwo,hrb,hsub,hwb,hrb3,hc,st3,↓vF,↓BO,↓ZN,h48,dn,cj,cW,dz,bZ,dm,cQ,cG,↓dW,↓dS,↓gK,↓eP,↓dU,↓eR,↓da,↓dX,↓bP,↓bz,↓cg,↓eT,↓de,↓dY,↓bR,↓bQ,↓ch,↓dJ,↓cJ,dg,bH,ai,bN,cd,cI,dh,↓zzC,zzE,sevalprocAttr];exact ih (q+1) _ K' _ rfl (by omega) (by omega) ⟨by simp only [ls,hlen],Aj8 (by simp only [hlen,h15,h16,h17,h22,h25,h121,h122,gB,and_self,sevalprocAttr]) ⟨_,_,_,_,hW',hS',hH',hK2.perm hp.symm⟩⟩
   · have hc:eqB ((b.getD y 0 - 1:Nat):Int) 0=false:=fR (by omega);rw [if_neg h0] at hK2;simp -implicitDefEqProofs only [DI,f19,aP,hlen,h15,h16,h17,h22,h25,h121,h122,h123,hlt,hwi,hix,hrd,hxo,hyo,hyw',hry,hrx,hwx,↓cD Ck,Bc,↓vw,LA,hmx,hwo,hrb,hsub,hwb,hrb3,hc,st3,dn,cj,cW,dz,bZ,dm,cQ,cG,↓dW,↓dS,↓gK,↓eP,↓dU,↓eR,↓da,↓dX,↓bP,↓bz,↓cg,↓eT,↓de,↓dY,↓bR,↓bQ,↓ch,↓dJ,↓cJ,dg,bH,ai,bN,cd,cI,dh,↓zzC,zzE,sevalprocAttr];exact ih (q+1) _ K3 _ rfl (by omega) (by omega) ⟨by simp only [ls,hlen],Aj8 (by simp only [hlen,h15,h16,h17,h22,h25,h121,h122,gB,and_self,sevalprocAttr]) ⟨_,_,_,_,hW3,hS,hH3,hK2⟩⟩
theorem Pn {G:AH} {a ob wb hb N:Nat} {iv av:AV} {A:List (List Nat)} (haft:m8 G A av) (hN:N<=1000) (hA:∀ l∈A,∀ y∈l,y < N) (hrow:∀ l∈A,l.length < 2 ^ 20) (hlA:A.length=N):∀ (M:Nat) (Ds w b T:List Nat) (v:AV) (tm:List AV) (K:AH),N - Ds.length=M->(tm.length=158/\tm.getD 15 uA=.ptr a 0/\tm.getD 16 uA=slN ob N/\tm.getD 17 uA=slN wb N/\tm.getD 22 uA=.ptr hb 0)->WvS G K a ob wb iv av N w b->HpS G a ob wb hb v->HpR K hb v T->Qu.KO A N Ds w b T ->
   ∃ X K1 Ds w b,EvC aa C0 W0 kC LO (tm,K)=some (.exit 8,(X,K1))/\X.length=158/\X.getD 16 uA=slN ob N/\WvS G K1 a ob wb iv av N w b/\Qu.KO A N Ds w b []:=by
 intro M;induction M using Nat.strongRecOn with
 | ind M ih =>
   intro Ds w b T v tm K hM hI hW hS hH hK;obtain ⟨hlen,h15,h16,h17,h22⟩:=hI;have hTl:T.length<=1000:=bh (Qu.mP N T hK.tn fun t ht=>((hK.tm t).1 ht).1) hN;have hrd:=hH.rd;have h49:=V0 hH.sl;rw [V8];cases hT:T with
   | nil =>subst hT;have l0:ltB 0 ((([]:List Nat).length:Nat):Int)=false:=rfl;simp -implicitDefEqProofs only [He,f19,aP,hlen,h15,h16,h17,h22,nu,hrd,qv,↓ZM,h49,l0,↓zzC,zzE,sevalprocAttr];exact ⟨_,K,Ds,w,b,rfl,by simp only [ls,hlen],by simp only [hlen,h16,gB,sevalprocAttr],hW,hK⟩
   | cons t0 Tt =>
     have hpos:0 < T.length:=by rw [hT]; simp
     have l0:ltB 0 ((T.length:Nat):Int)=true:=cu (by omega);obtain ⟨x,T0,v',K',h50,hp,hH',hf⟩:=aeB hH hTl hpos;obtain ⟨hW',hS'⟩:=hW.fr hS hf;have hK1:=(hK.perm hp.symm).pop;have hx:x < N:=hK1.dN x (List.mem_cons_self ..);obtain ⟨i1,k1,rv,hix,hrd1,hs⟩:=haft.at hW'.ag (j:=x) (by omega);have hrd1:=hrd1 [];rw [af] at hrd1;have hrp:=hW'.rdp;have hln:=fun K=>iZ hs K;have hDl:(x::Ds).length<=N:=Qu.mP N _ hK1.nd hK1.dN;simp only [cR] at hDl;simp -implicitDefEqProofs only [He,f19,aP,hlen,h15,h16,h17,h22,nu,hrd,qv,↓ZM,h49,l0,↓vF,↓adQ,h50,↓OD,XK,vf,EY,hrp,hix,hrd1,hln,↓zzC,zzE,sevalprocAttr];generalize hX:EvC aa C0 W0 kC (Code.loop _) _=Z;obtain ⟨X,K1,he,x0,x15,x16,x17,x22,x25,x121,x122,x123,w1,b1,v1,T1,hW1,hS1,hH1,hKI⟩:=Ur (Ds:=x::Ds) (x:=x) haft hN hA hrow hlA hx hs _ 0 _ _ _ hX rfl (aV _) ⟨by simp only [ls,hlen],Aj7 (by simp only [hlen,h15,h16,h17,h22,gB,and_self,sevalprocAttr]) ⟨by simp only [hlen,gB,sevalprocAttr]; try rfl,w,b,v',T0,hW',hS',hH',hK1⟩⟩;subst he;simp -implicitDefEqProofs only [x0,x15,x16,x17,x22,↓zzA,zzB,sevalprocAttr];generalize hX2:EvC aa C0 W0 kC _ _=Z;obtain ⟨X',K2,D2,w2,b2,e1,e2⟩:=ih (N - (x::Ds).length) (by simp only [cR]; omega) (x::Ds) w1 b1 T1 v1 X K1 rfl ⟨x0,x15,x16,x17,x22⟩ hW1 hS1 hH1 (hKI.out (aw _));exact ⟨X',K2,D2,w2,b2,hX2.symm.trans e1,e2⟩
theorem JA {G:AH} {a ob wb hb N:Nat} {iv av:AV} {A:List (List Nat)} (haft:m8 G A av) (hN:N<=1000) (hA:∀ l∈A,∀ y∈l,y < N) (hrow:∀ l∈A,l.length < 2 ^ 20) (hlA:A.length=N) {w b T:List Nat} {v:AV} {tm:List AV} {K:AH} {Z:Option (bk × St)} (hX:EvC aa C0 W0 kC LO (tm,K)=Z) (hI:tm.length=158/\tm.getD 15 uA=.ptr a 0/\tm.getD 16 uA=slN ob N/\tm.getD 17 uA=slN wb N/\tm.getD 22 uA=.ptr hb 0) (hW:WvS G K a ob wb iv av N w b) (hS:HpS G a ob wb hb v) (hH:HpR K hb v T) (hK:Qu.KO A N [] w b T) :
   ∃ X K1 Ds w b,Z=some (.exit 8,(X,K1))/\X.length=158/\X.getD 16 uA=slN ob N/\WvS G K1 a ob wb iv av N w b/\Qu.KO A N Ds w b []:=by subst hX;exact Pn haft hN hA hrow hlA _ [] w b T v tm K rfl hI hW hS hH hK
end Go.Dv
namespace Go.Dv
open Go.Proofs
theorem yX {ss:List (List Itm)} {l:List Itm} (h:l∈gZ ss):∃ l0∈ss,l=l0.filter nkB:=by unfold gZ at h;obtain ⟨l0,h0,rfl⟩:=bI.1 h;exact ⟨l0,h0,rfl⟩
theorem F4 {x:Itm}:nkB x=true↔x.kind≠0:=by unfold nkB;rw [bl,<-Bool.not_eq_true,cP]
theorem GJ {ss:List (List Itm)}:∀ l∈gZ ss,∀ x∈l,x.kind≠0:=by intro l hl x hx;obtain ⟨l0,_,rfl⟩:=yX hl;exact F4.1 (fm.1 hx).2
theorem Dk {ss:List (List Itm)} {l:List Itm} {x:Itm} (hl:l∈gZ ss) (hx:x∈l):∃ l0∈ss,x∈l0:=by obtain ⟨l0,h0,rfl⟩:=yX hl;exact ⟨l0,h0,(fm.1 hx).1⟩
theorem yY (ss:List (List Itm)):(gZ ss).length=ss.length:=by unfold gZ; simp
theorem HX {cs cs':List Cod} {m:List (List Int)} {x:Itm} (hk:x.kind≠0):cC cs m x=cC cs' m x:=by unfold cC;rw [fR hk];simp only [cM]
theorem Ow (ss:List (List Itm)):((gZ ss).map ew).sum<=(ss.map ew).sum:=by
 unfold gZ;induction ss with
 | nil=>simp
 | cons l ss ih =>have:=gW nkB l;simp only [List.map_cons,List.sum_cons];omega
theorem Iy {cs:List Cod} {m:List (List Int)} {ss:List (List Itm)} {f:Con} (h:g8 cs m ss f=0):sX cs m ss=true:=by
 unfold g8 at h;cases h0:vt f && wv cs with
 | false=>rw [h0] at h; cases h
 | true =>
   rw [h0] at h;cases h1:sX cs m ss with
   | false=>rw [h1] at h; cases h
   | true=>rfl
theorem Ft {cs:List Cod} {m:List (List Int)} {ss:List (List Itm)} (hl:∀ l∈ss,l.length < 2 ^ 50) (h:g8 cs m ss fH=0) (hg:Good cs m ss fH):g8 [] m (gZ ss) fH=0:=by
 have hs:=Iy h;have h1:sX [] m (gZ ss)=true:=by
   unfold sX at hs ⊢;simp only [Bool.and_eq_true,bl,fZ] at hs ⊢;obtain ⟨⟨⟨⟨⟨a1,a2⟩,a3⟩,a4⟩,a5⟩,a6⟩:=hs;have hlb:∀ l∈gZ ss,l.length < 2 ^ 50:=fun l hl'=>by obtain ⟨l0,h0,rfl⟩:=yX hl';exact vG (gW _ _) (hl l0 h0)
   have hn4:=hg.n4;obtain ⟨s1,_⟩:=AQ hlb (gZ ss).length (aw _) (by rw [yY]; omega);rw [List.take_of_length_le (by rw [ao]; exact aw _)] at s1;have s2:=Ow ss;have s3:=hg.few;rw [s1];refine ⟨⟨⟨⟨⟨?_,?_⟩,?_⟩,?_⟩,a5⟩,a6⟩
   · rw [yY]; exact a1
   · rw [yY]; exact a2
   · simp
   · omega
 have h2:Fw [] m (gZ ss)=true:=by unfold Fw;rw [gz];intro i hi;unfold rB;rw [gz];intro k hk;have m1:aM (gZ ss) i∈gZ ss:=gG hi;have m2:bo (aM (gZ ss) i) k∈aM (gZ ss) i:=fA hk;obtain ⟨l0,h0,hx⟩:=Dk m1 m2;rw [HX (cs':=cs) (GJ _ m1 _ m2)];exact hg.it l0 h0 _ hx
 unfold g8;rw [show (vt fH && wv [])=true from rfl,h1,h2]; rfl
theorem PS (ss:List (List Itm)):qS (gZ ss)=Qu.nM (fun y=>decide (y.kind≠0)) (qS ss):=by
 unfold qS gZ Qu.nM;rw [pD,pD];refine List.map_congr_left fun l _=>?_;simp only [Function.comp];rw [List.filter_map];congr 1;refine List.filter_congr fun x _=>?_;have:=@F4 x;cases h:nkB x with
 | true=>exact (decide_eq_true (this.1 h)).symm
 | false=>exact (decide_eq_false fun c=>by rw [this.2 c] at h; cases h).symm
theorem OG (ss:List (List Itm)):Qu.ja (qS (gZ ss))↔Qu.ja (qS ss):=by rw [PS];exact Qu.zg (fun x hx=>decide_eq_true (by omega)) _
theorem BW {ss:List (List Itm)} {m m':List (List Int)} {ad:List Nat} {rc:List Bool} (hev:sG ss) (ht:Trod ss m ad m' rc) (hb:kV ss ad rc=true):(vr ss ad rc=0/\Qu.ja (qS ss))∨(vr ss ad rc=11/\¬ Qu.ja (qS ss)):=by
 obtain ⟨L,hr,_⟩:=ht;have hR:=hr.reach;by_cases h0:(ey ss ad ss.length).sum=0
 · refine .inl ⟨by unfold vr; rw [if_pos h0],fun s k x hx=>?_⟩;rw [<-Bg,Qu.uY] at h0;exact hR.inv.2.1 s k (h0 s k x hx)
 · have hre:cO ss ad rc ss.length=[]:=by
     unfold kV at hb
     rw [Bool.or_eq_true] at hb
     rcases hb with hb | hb
     · exact absurd (by simpa using hb) h0
     · simpa using hb
   refine .inr ⟨by unfold vr; rw [if_neg h0,if_pos hre],fun hA=>h0 ?_⟩
   rw [<-Bg,Qu.LI hR (by rw [xU hev]; exact hre)]
   exact hA
theorem Gr {cs:List Cod} {m:List (List Int)} {ss:List (List Itm)} {f:Con} (hg:Good cs m ss f):sG ss:=fun l hl x hx hk=>uH (hg.it l hl x hx) hk
theorem IK {ss:List (List Itm)} (h:sG ss):sG (gZ ss):=fun l hl x hx hk=>by
 obtain ⟨l0,h0,hx0⟩:=Dk hl hx
 exact h l0 h0 x hx0 hk
end Go.Dv
namespace Go.Dv
open Go.Proofs
attribute [local congr] aA bC aT bB bD
theorem Gl (n:Nat):iv1 (au n 0)=au n (I 0):=by unfold iv1; rw [List.map_replicate]; rfl
theorem WB (H:AH):bn aa none 101 0 [] H=some (.slice H.length 0 1 0 0 true,H++[.cells [] 3]):=by kernel_rfl
theorem qN {K L:AH} {n:Nat} {o:bm} (h:L[n]? =some o):(K++L)[K.length+n]? =some o:=by rw [al (dI _ _),Nat.add_sub_cancel_left]; exact h
theorem Kh {K:AH} {iv av:AV} {N:Nat} {tm:List AV} {Z:Option (bk × St)} (hR:EvC aa C0 W0 kC (aH [true,true,true,true,true,true,false] c19) (tm,K++[.cells [iv,av] 93])=Z) (hlen:tm.length=158) (h15:tm.getD 15 uA=.ptr K.length 0) (hln:∀ G,d4 aa 31 G iv=some (I (N:Nat))) (hN:N<=1000) :
   ∃ tm' K' ob wb,Z=some (.normal,(tm',K'))/\tm'.length=158/\(∀ i,i < 16->tm'.getD i uA=tm.getD i uA)/\tm'.getD 16 uA=slN ob N/\tm'.getD 17 uA=slN wb N/\WvS K K' K.length ob wb iv av N (au N 0) (au N 0):=by
 subst hR;have hrd:∀ L,ak (K++(.cells [iv,av] 93::L)) K.length 0 1=some [iv]:=fun L=>by unfold ak;rw [al (aw _),Nat.sub_self]; rfl
 have hms:=F7 N hN;simp -implicitDefEqProofs only [c19,f19,aP,hlen,h15,hln,hrd,qd,↓cD KX,ER,dn,cj,cW,dz,bZ,dm,cQ,cG,↓g9,hms,↓dW,↓dS,↓gK,↓eP,↓dU,↓eR,↓da,↓dX,↓bP,↓bz,↓cg,↓eT,↓de,↓dY,↓bR,↓bQ,↓ch,↓dJ,↓cJ,dg,bH,ai,bN,cd,cI,dh,↓zzC,zzE,sevalprocAttr];have e1:∀ L:AH,(K++L).length=K.length+L.length:=fun L=>ai;refine ⟨_,_,K.length+1+3,K.length+1+7,rfl,?_,?_,?_,?_,?_⟩
 · simp only [aq,hlen]
 · intro i hi;simp only [yI hi,Nat.reduceLeDiff]
 · simp only [hlen,gB,sevalprocAttr]
 · simp only [hlen,gB,sevalprocAttr]
 · exact { ag:=an.app _ _,pc:=qN (n:=0) rfl,fo:=by unfold hU; rw [Gl]; exact qN (n:=4) rfl,fb:=by unfold hU; rw [Gl]; exact qN (n:=8) rfl,lw:=gT,lb:=gT,n1:=by omega,n2:=by omega,n3:=by omega,go:=by omega,gb:=by omega }
theorem m8.len {H:AH} {A:List (List Nat)} {av:AV} (h:m8 H A av) (G:AH):d4 aa 91 G av=some (I (A.length:Nat)):=by obtain ⟨ws,h1,h2,_⟩:=h;have:=h2.len G;rwa [ao,h1] at this
theorem WvS.app {G K:AH} {a ob wb N:Nat} {iv av:AV} {w b:List Nat} (h:WvS G K a ob wb iv av N w b) (L:AH):WvS G (K++L) a ob wb iv av N w b:=
 { h with ag:=h.ag.trans (an.app K L),pc:=(an.app K L).get h.pc,fo:=(an.app K L).get h.fo,fb:=(an.app K L).get h.fb }
def afb (H K:AH) (ss:List (List Itm)) (v:AV) (e:Int):Prop:=(e=11/\v=.nilSlice/\¬ Qu.ja (qS ss))∨(e=0/\Qu.ja (qS ss)/\∃ w Ds b ob,v=slN ob w.length/\hU K ob w/\H.length<=ob/\w.length=ss.flatten.length/\Qu.KO (Qu.aft (qS ss)) ss.flatten.length Ds w b [])
theorem aeW {H:AH} {cs:List Cod} {m:List (List Int)} {ss:List (List Itm)} {vc vm vs:AV} (hc:dy H cs vc) (hm:eo H m vm) (hs:cT H ss vs) (hk:g8 cs m ss fH=0) (hg:Good cs m ss fH):∃ v e K,Ev aa C0 W0 19 [vc,vm,vs] H=some (.tuple [v,I e],K)/\Sub H K/\H.length<=K.length/\afb H K ss v e:=by
 obtain ⟨tm,ht,g0,g1,g2,g3⟩:=tm3 vc vm vs 158 (by decide);rw [adu,ht];have hH0:=an.app H [bm.cells (fx fH) 27];have h26:=V3 (hc.aZ hH0) (hm.aZ hH0) (hs.aZ hH0) fH;have h41:=V1 H;rw [hk] at h26;have hq0:eqB 0 0=true:=rfl;have hsl:=hs.len;have hev:=Gr hg;have hxl:∀ l∈ss,l.length < 2 ^ 50:=fun xs hx=>by obtain ⟨⟨l2,e2,_,h2⟩,_⟩:=hs;rw [<-e2] at hx;obtain ⟨p,hp,rfl⟩:=bI.1 hx;exact (h2 p hp).n
 have hbk:=Ft hxl hk hg;have hfew:ss.flatten.length<=1000:=by rw [List.length_flatten]; have:=hg.few; omega
 have hl1000:∀ l∈ss,l.length<=1000:=fun l hl=>by have h1:=mT (ss.map ew) l.length (bI.2 ⟨l,hl,rfl⟩);have:=hg.few;omega
 have hn4:=hg.n4;simp only [fx,fH] at h26 h41;simp -implicitDefEqProofs only [c19,f19,aP,g0,g1,g2,g3,↓Ri,h41,↓VV,h26,hq0,hsl,↓zzC,zzE,sevalprocAttr];generalize hX:EvC aa C0 W0 kC (Code.loop _) _=Z;have hG:an H (H++[.cells (fx fH) 27]):=hH0;obtain ⟨X,K1,he,xl,x0,x1,x2,x36,x37,x38,hA1,v1,ws,x9,hov,hwl,hR⟩:=WG (G:=H++[.cells (fx fH) 27]) (vc:=vc) (vm:=vm) (hs.aZ hG) (by omega) hl1000 _ 0 _ _ _ hX rfl (aV _) ⟨by simp only [ls,g0],by simp only [g0,g1,gB,sevalprocAttr]; try rfl,by simp only [g0,g2,gB,sevalprocAttr]; try rfl,by simp only [g0,g3,gB,sevalprocAttr]; try rfl,by simp only [g0,gB,sevalprocAttr]; try rfl,by simp only [g0,gB,sevalprocAttr]; try rfl,by simp only [g0,gB,sevalprocAttr]; try rfl,an.refl _,.nilSlice,[],by simp only [g0,gB,sevalprocAttr],.nil,rfl,fun i hi=>absurd hi (Nat.not_lt_zero _)⟩;subst he;have hbs:=I4 hov hwl (by omega) hR;have hH1:an H K1:=hG.trans hA1;have hP1:=an.app K1 [bm.cells (fx fH) 27];have h41':=V1 K1;obtain ⟨v2,K3,ad,m',rc',h17,hS3,hl3,_,_,htr,hend,_⟩:=aap (cs:=[]) (vc:=.nilSlice) ⟨⟨[],rfl,k5 Ac _,fun p hp=>by simp at hp⟩,by simp⟩ ((hm.aZ hH1).aZ hP1) (hbs.aZ hP1) fH hbk GJ;have hte:=BW (IK hev) htr hend;rw [OG] at hte;have hS03:Sub H K3:=((hH1.trans hP1).sub).trans hS3;have hl03:H.length<=K3.length:=by have h1:=hH1.len;rw [ai] at hl3;exact bh (bh h1 (dI _ _)) hl3
 simp only [fx,fH] at h17 h41';rcases hte with ⟨h0,hall⟩ | ⟨h0,hall⟩
 · rw [h0] at h17;obtain ⟨iv,av,K,h42,hS,hlK,hI,haf,hic,hac,hiv⟩:=aah (hs.sub hS03) hfew (fun l hl x hx hkx=>(hev l hl x hx hkx).1);have hput:∀ o,put none K o=some (K.length,K++[o]):=fun _=>rfl;have hic1:=hic.1;have hac1:=hac.1;have hic2:=hic.2;have hac2:=hac.2;rw [<-af K] at h42;simp -implicitDefEqProofs only [xl,x0,x1,x2,x36,x37,x9,↓Ri,h41',↓VX,h17,hq0,↓ZO,h42,z93,EX,Ux,↓hic1,↓hac1,↓hic2,↓hac2,hput,↓zzC,zzE,sevalprocAttr];generalize hR:EvC aa C0 W0 kC (Code.region _ _ _) _=Zr;obtain ⟨t1,K5,ob,wb,he5,y0,ylow,y16,y17,hW⟩:=Kh (iv:=iv) (av:=av) (N:=ss.flatten.length) hR (by simp only [ls,xl]) (by simp only [xl,gB,sevalprocAttr]) hI.len hfew;subst he5;have y15:t1.getD 15 uA=.ptr K.length 0:=by rw [ylow 15 (by decide)]; simp only [xl,gB,sevalprocAttr]
   have hla:=m8.len haf;have hlA:(Qu.aft (qS ss)).length=ss.flatten.length:=by rw [Qu.Hr,gM,ao]
   rw [hlA] at hla;have hNq:(qS ss).flatten.length=ss.flatten.length:=by rw [gM,ao]
   have hAl:∀ l∈Qu.aft (qS ss),∀ y∈l,y < ss.flatten.length:=fun l hl y hy=>by rw [<-hNq]; exact Qu.OH l hl y hy
   have hrow:∀ l∈Qu.aft (qS ss),l.length < 2 ^ 20:=fun l hl=>by unfold Qu.aft at hl;obtain ⟨n,hn,rfl⟩:=bI.1 hl;exact vG (zj _ _ _) (by omega)
   have hrp:=hW.rdp;simp -implicitDefEqProofs only [y0,y15,y16,y17,vf,EY,hrp,hla,↓zzC,zzE,sevalprocAttr];generalize hX:EvC aa C0 W0 kC (Code.loop _) _=Z;obtain ⟨X2,K6,he6,z0,z15,z16,z17,z71,z72,z73,b1,hW1,hb1⟩:=Rx (a:=K.length) (ob:=ob) (wb:=wb) (iv:=iv) (w:=au ss.flatten.length 0) haf hfew hAl hrow hlA _ 0 _ _ _ hX rfl (aV _) ⟨by simp only [ls,y0],Aj5 (by simp only [y0,y15,y16,y17,gB,and_self,sevalprocAttr]) ⟨by simp only [y0,gB,sevalprocAttr]; try rfl,_,hW,fun y hy=>by rw [gde,List.getElem?_replicate,if_pos hy]; rfl⟩⟩;subst he6;have bs1:=WB K6;simp -implicitDefEqProofs only [z0,z15,z16,z17,z71,z72,z73,bs1,Yo,↓zzC,zzE,sevalprocAttr];generalize hX:EvC aa C0 W0 kC (Code.loop _) _=Z;have la:=aI hW1.pc;have lo:=aI hW1.fo;have lb:=aI hW1.fb;have lK:=hW1.ag.len;obtain ⟨X3,K7,he7,u0,u15,u16,u17,u22,u93,u94,u95,v3,T3,hW3,hS3,hH3,hP3⟩:=W6 (G:=K) (a:=K.length) (ob:=ob) (wb:=wb) (hb:=K6.length+1) (N:=ss.flatten.length) (iv:=iv) (av:=av) (w:=au ss.flatten.length 0) (b:=b1) hfew _ 0 _ _ _ hX rfl (aV _) ⟨by simp only [ls,z0],Aj6 (by simp only [z0,z15,z16,z17,gB,and_self,sevalprocAttr]) ⟨by simp only [z0,gB,sevalprocAttr]; try rfl,.slice K6.length 0 1 0 0 true,[],hW1.app _,
     ⟨by omega,by omega,by omega,by omega,fun e=>by have:=aB (show some K6.length=_ from e); omega,fun e=>by have:=aB (show some K6.length=_ from e); omega,fun e=>by have:=aB (show some K6.length=_ from e); omega,fun i e=>by have:=aB (show some K6.length=_ from e); omega⟩,
     ⟨qN (n:=1) rfl,.at K6.length 0 0 0 true [] [] (aV _) (qN (n:=0) rfl) (aw _) (by simp) (by unfold ak; rw [show (K6++[bm.cells [] 3,bm.cells [AV.slice K6.length 0 1 0 0 true] 101])[K6.length]? =some (.cells [] 3) from qN (n:=0) rfl]; rfl),fun e=>by have:=aB (show some K6.length=some (K6.length+1) from e); omega⟩,by simp⟩⟩
   subst he7;simp -implicitDefEqProofs only [u0,u15,u16,u17,u22,↓zzC,zzE,sevalprocAttr];generalize hX:EvC aa C0 W0 kC (Code.loop _) _=Z;obtain ⟨X4,K8,Ds,w,b,he8,q0,q16,hW8,hK8⟩:=JA (a:=K.length) (ob:=ob) (wb:=wb) (hb:=K6.length+1) (iv:=iv) haf hfew hAl hrow hlA hX ⟨by first | exact u0 | simp only [aq,u0],by first | exact u15 | simp only [u0,u15,gB,sevalprocAttr],by first | exact u16 | simp only [u0,u16,gB,sevalprocAttr],by first | exact u17 | simp only [u0,u17,gB,sevalprocAttr],by first | exact u22 | simp only [u0,u22,gB,sevalprocAttr]⟩ hW3 hS3 hH3 ((Q2 hW1.lb hb1).perm hP3.symm);subst he8;simp -implicitDefEqProofs only [q0,q16,↓zzC,zzE,sevalprocAttr];refine ⟨_,_,_,rfl,hS03.trans (hS.trans hW8.ag.sub),bh hl03 (bh hlK hW8.ag.len),.inr ⟨rfl,hall,w,Ds,b,ob,by rw [hW8.lw],hW8.fo,bh (bh hl03 hlK) hW8.go,hW8.lw,hK8⟩⟩
 · rw [h0] at h17;have hq1:eqB 11 0=false:=rfl;simp -implicitDefEqProofs only [xl,x0,x1,x2,x36,x37,x9,↓Ri,h41',↓VX,h17,hq1,↓zzC,zzE,sevalprocAttr];exact ⟨_,_,_,rfl,hS03,hl03,.inl ⟨rfl,rfl,hall⟩⟩
end Go.Dv
namespace Go.Dv
open Go.Proofs
open Qu (bef aft)
theorem Iz {cs:List Cod} {m:List (List Int)} {ss:List (List Itm)} {f:Con} (hg:Good cs m ss f):∀ x∈ss.flatten,cC cs m x=true:=fun x hx=>by
 obtain ⟨l,h1,h2⟩:=List.mem_flatten.1 hx
 exact hg.it l h1 x h2
end Go.Dv
namespace Go.Dv
open Go.Proofs
attribute [local congr] aA bC aT bB bD
theorem aco {tm:List AV} {H:AH} {a b:Nat} {u c':List AV} (h4:tm.getD 4 uA=.ptr a 0) (h5:tm.getD 5 uA=.ptr b 0) (ha:ak H a 0 6=some u) (hb:ak H b 0 6=some c'):r55 (tm,H)=some (.tuple [.agg u,.agg c'],H):=by
 show lz aa f55 (tm,H)=_;have hr:f55.results.toList=[.cell 4 112,.cell 5 112]:=by rfl
 unfold lz;rw [hr];simp only [iO,h4,h5,Sp,ha,hb,cH]; rfl
theorem BS:d8 aa 112=some (.agg (bits [])):=by rw [abu,Ov]
theorem H3 {tm:List AV} {K:AH} {u c':List AV} {i j:Nat} {R:Option (bk × St)} (hR:EvC aa C0 W0 pz (aH [true,true,false] c55) (tm,K)=R) (hij:i≠j) (hu:K[i]? =some (.cells u 112)) (hc:K[j]? =some (.cells c' 112)) (lu:u.length=6) (lc:c'.length=6) (ou:u.all AV.one=true) (oc:c'.all AV.one=true) (hlen:tm.length=63) (h4:tm.getD 4 uA=.ptr i 0) (h5:tm.getD 5 uA=.ptr j 0) :
   ∃ tm',R=some (.normal,(tm',K))/\tm'.length=63/\tm'.getD 4 uA=.ptr i 0/\tm'.getD 5 uA=.ptr j 0:=by subst hR;exact J5 hij hu hc lu lc ou oc hlen h4 h5
theorem J3 {tm:List AV} {G K:AH} {x:Itm} {va:AV} {l l':List Nat} {cr:List AV} {j:Nat} {R:Option (bk × St)} (hR:EvC aa C0 W0 pz (aH [true,false,true,false,true,false,true,true,false,false,true,false,false,true,false] c55) (tm,K)=R) (hK:K=G++[.cells (aJ x va) 34,.cells (bits l) 112,.cells (bits l') 112,.cells cr 66]) (hlen:tm.length=63) (h3:tm.getD 3 uA=.ptr G.length 0) (h4:tm.getD 4 uA=.ptr (G.length+1) 0) (h5:tm.getD 5 uA=.ptr (G.length+2) 0) (h7:tm.getD 7 uA=I (j:Int)) {y i2 k2:Nat} (hy:y < 6) (hix:∀ kk,aC aa 32 va (.int kk (j:Int))=some (.ptr i2 k2)) (hra:∀ L,ak (G++L) i2 k2 1=some [.int .i32 (y:Int)]) :
   ∃ tm',R=some (.normal,(tm',G++[.cells (aJ x va) 34,.cells (bits (l++[y])) 112,.cells (bits (l'++[y])) 112,.cells cr 66]))/\tm'.length=63/\tm'.getD 0 uA=tm.getD 0 uA/\tm'.getD 3 uA=tm.getD 3 uA/\tm'.getD 4 uA=tm.getD 4 uA/\tm'.getD 5 uA=tm.getD 5 uA/\tm'.getD 6 uA=tm.getD 6 uA/\tm'.getD 7 uA=tm.getD 7 uA:=by subst hK;have h:=J4 (u:=bits l) (c':=bits l') (iz l) (iz l') hlen h3 h4 h5 h7 va x.kind x.code x.grid x.block x.src x.dst x.ev x.word hy hix hra hR;rw [tY,tY] at h;exact h
theorem Up {G:AH} {c:Cod} {vp vs vi va:AV} {x:Itm} (h:eW G c vp vs vi) (ha:SlS 32 1 G va (x.args.map dH)) (hal:x.args.length=c.params.length) (hpos:∀ j,j < c.params.length->iS c (j:Int)=true->0<=fS x.args j/\fS x.args j < 6) (hN:c.params.length < 2 ^ 60):∀ (d j:Nat) (tm:List AV) (K:AH) (Z:Option (bk × St)),EvC aa C0 W0 pz SI (tm,K)=Z->c.params.length - j=d->j<=c.params.length->(tm.length=63/\tm.getD 3 uA=.ptr G.length 0/\tm.getD 4 uA=.ptr (G.length+1) 0/\tm.getD 5 uA=.ptr (G.length+2) 0/\tm.getD 6 uA=.ptr (G.length+3) 0/\tm.getD 7 uA=I ((j:Nat):Int)/\K=G++[.cells (aJ x va) 34,.cells (bits (js c x.args (j))) 112,.cells (bits (js c x.args (j))) 112,.cells (bO c vp vs vi) 66]) ->
   ∃ X K1,Z=some (.exit 1,(X,K1))/\(X.length=63/\X.getD 3 uA=.ptr G.length 0/\X.getD 4 uA=.ptr (G.length+1) 0/\X.getD 5 uA=.ptr (G.length+2) 0/\X.getD 6 uA=.ptr (G.length+3) 0/\X.getD 7 uA=I ((c.params.length:Nat):Int)/\K1=G++[.cells (aJ x va) 34,.cells (bits (js c x.args (c.params.length))) 112,.cells (bits (js c x.args (c.params.length))) 112,.cells (bO c vp vs vi) 66]):=by
 have hlp:=h.lp;intro d;induction d with
 | zero =>
   intro j tm K Z hZ hd hj hI;subst hZ;have hjl:j=c.params.length:=by omega
   subst hjl;obtain ⟨hlen,h3,h4,h5,h6,h7,hK⟩:=hI;have hb1:ak K (G.length+3) 1 1=some [vp]:=by rw [hK,jE]; rfl
   have hlt:ltB ((c.params.length:Nat):Int) (c.params.length:Nat)=false:=cw (by omega);rw [Nl];simp -implicitDefEqProofs only [Dz,f55,aP,hlen,h3,h4,h5,h6,h7,hb1,hlp,hlt,↓zzC,zzE,sevalprocAttr];exact ⟨_,K,rfl,by simp only [ls,hlen],Aj5 (by simp only [hlen,h3,h4,h5,h6,h7,gB,and_self,sevalprocAttr]) hK⟩
 | succ d ih =>
   intro j tm K Z hZ hd hj hI;subst hZ;obtain ⟨hlen,h3,h4,h5,h6,h7,hK⟩:=hI;have hjN:j < c.params.length:=by omega
   have hA:an G K:=by rw [hK]; exact an.app _ _
   have hb1:ak K (G.length+3) 1 1=some [vp]:=by rw [hK,jE]; rfl
   have hlt:ltB (j:Int) (c.params.length:Nat)=true:=cu (by omega);have hw:=b6 (j:=j) (by omega);obtain ⟨i1,k1,nm,hix,hrd1',_⟩:=xX h hA hjN;have hrd1:=hrd1' [];rw [af] at hrd1;rw [Nl];cases hb:iS c (j:Int) with
   | true =>rw [hb] at hrd1;obtain ⟨i2,k2,hix2,hra⟩:=zd ha (an.refl G) (j:=j) (by omega);have hn:=hpos j hjN hb;obtain ⟨y,hy⟩:∃ y:Nat,fS x.args j=y:=⟨(fS x.args j).toNat,by omega⟩;rw [hy] at hra hn;simp -implicitDefEqProofs only [Dz,f55,aP,hlen,h3,h4,h5,h6,h7,hb1,hlp,hlt,hix,hrd1,↓zzC,zzE,sevalprocAttr];generalize hR:EvC aa C0 W0 _ (Code.region _ _ _) _=R;obtain ⟨t,he,tl,t0,t3,t4,t5,t6,t7⟩:=J3 hR hK (by simp only [ls,hlen]) (by simp only [hlen,h3,gB,sevalprocAttr]) (by simp only [hlen,h4,gB,sevalprocAttr]) (by simp only [hlen,h5,gB,sevalprocAttr]) (by simp only [hlen,h7,gB,sevalprocAttr]) (by omega) hix2 hra;subst he;simp only [hlen,h3,h4,h5,h6,h7,gB,sevalprocAttr] at t3 t4 t5 t6 t7;simp -implicitDefEqProofs only [aP,tl,t3,t4,t5,t6,t7,hw,↓zzC,zzE,sevalprocAttr];generalize hX:EvC aa C0 W0 _ _ _=Z;refine ih (j+1) _ _ _ hX (by omega) (by omega) ⟨by simp only [ls,tl],Aj5 (by simp only [tl,t3,t4,t5,t6,t7,gB,and_self,sevalprocAttr]) (?_)⟩;rw [pd,hb,if_pos rfl,hy,Int.toNat_natCast];rfl
   | false =>rw [hb] at hrd1;simp -implicitDefEqProofs only [Dz,f55,aP,hlen,h3,h4,h5,h6,h7,hb1,hlp,hlt,hix,hrd1,hw,↓zzC,zzE,sevalprocAttr];generalize hX:EvC aa C0 W0 _ _ _=Z;refine ih (j+1) _ _ _ hX (by omega) (by omega) ⟨by simp only [ls,hlen],Aj5 (by simp only [hlen,h3,h4,h5,h6,h7,gB,and_self,sevalprocAttr]) (?_)⟩;rw [pd,hb];exact hK
end Go.Dv
