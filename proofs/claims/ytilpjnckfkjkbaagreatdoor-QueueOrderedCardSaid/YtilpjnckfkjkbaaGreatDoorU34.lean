/- Part 34 of the walks (own work). -/
import Derived.Test.YtilpjnckfkjkbaaGreatDoorU33
open List.Perm renaming refl→iW
open List renaming append_nil→af,filter_cons→Jk,filter_nil→O1,getElem?_append_left→ar,getElem?_append_right→al,getElem?_eq_getElem→aj,getElem?_map→aO,getElem?_replicate→kL,getElem?_set_ne→ay,length_append→ai,length_map→ao,mem_filter→fm,range→bp,range_succ→jf,zip→xm
open Nat renaming le_refl→aw,le_trans→bh,lt_of_lt_of_le→bF,lt_or_ge→bc,reduceAdd→bg,reduceEqDiff→aQ,reduceLT→aR,reduceLeDiff→aK,sub_self→d9,zero_le→aV
open Option renaming bind_some→ax,map_some→cH
open Option.some renaming inj→aB
open Go.Proofs.Tryz renaming prog→aa
set_option maxRecDepth 100000
set_option maxHeartbeats 4000000
set_option linter.unusedSimpArgs false
set_option linter.unusedVariables false
open Go.Proofs.Tryz (f19 f350 f351 f352 f353 f48 f49 f50 f77 f78 func350 func351 func352 func353 func49)
namespace Go.Dv
open Go.Proofs
attribute [local congr] aA bC aT bB bD
theorem Ix {n:Nat} (h:n < 2 ^ 50):IntKind.i64.wrap (n:Int)=(n:Int):=IntWalk.i64_in _ (by omega)
theorem Fr.own {hb:Nat} {v:AV} {K K':AH} (hl:K'.length=K.length) (h:∀ c,cF v≠some c->K'[c]? =K[c]?):Fr hb v v K K':=⟨by omega,fun c _ _ hc=>h c hc,fun _ h=>.inl h⟩
theorem HpR.swap {K K':AH} {hb:Nat} {v:AV} {T T':List Nat} (h:HpR K hb v T) (ho:Own 0 K' 1 3 v (iv1 T')) (hf:∀ c,cF v≠some c->K'[c]? =K[c]?):HpR K' hb v T':=⟨by rw [hf hb h.ne]; exact h.cell,ho,h.ne⟩
theorem abA {hb:Nat} {v:AV}:∀ (n j:Nat) (tm:List AV) (K:AH) (T:List Nat),j<=n->j < T.length->T.length<=2000->HpR K hb v T->tm.length=23->tm.getD 0 uA=.iface 100 (.ptr hb 0)->tm.getD 1 uA=I ((j:Nat):Int) ->
   ∃ X K' T',EvC aa C0 W0 plN Ge (tm,K)=some (.exit 0,(X,K'))/\X.length=23/\T'.Perm T/\HpR K' hb v T'/\K'.length=K.length/\∀ c,cF v≠some c->K'[c]? =K[c]?:=by
 intro n;induction n with
 | zero =>
   intro j tm K T hjn hj hT h hlen h0 h1;have hj0:j=0:=by omega
   subst hj0;have hs:IntKind.i64.wrap (((0:Nat):Int) - 1)=-1:=by rw [IntWalk.i64_in _ (by omega)]; rfl
   have hq:fy .quo .i64 (-1) 2=some (I 0):=by rfl
   have he:eqB 0 ((0:Nat):Int)=true:=rfl;rw [Nc];simp -implicitDefEqProofs only [Ax,f77,aP,hlen,h0,h1,hs,hq,he,reduceCtorEq,reduceIte,aR,aQ,bg,aK,↓zzC,zzE];exact ⟨_,K,T,rfl,by simp only [ls,hlen],iW _,h,rfl,fun _ _=>rfl⟩
 | succ n ih =>
   intro j tm K T hjn hj hT h hlen h0 h1;rcases Nat.eq_zero_or_pos j with hz | hp
   · subst hz;exact ih 0 tm K T (aV _) hj hT h hlen h0 h1
   have hs:IntKind.i64.wrap (((j:Nat):Int) - 1)=((j - 1:Nat):Int):=by rw [show ((j:Nat):Int) - 1=((j - 1:Nat):Int) by omega]; exact Ix (by omega)
   have hq:fy .quo .i64 ((j - 1:Nat):Int) 2=some (I (((j - 1) / 2:Nat):Int)):=by show some (AV.int .i64 (IntKind.i64.wrap ((((j - 1:Nat):Int)).tdiv 2)))=_;rw [show ((((j - 1:Nat):Int)).tdiv 2)=(((j - 1) / 2:Nat):Int) from rfl,Ix (by omega)]
   have hij:(j - 1) / 2 < j:=by omega
   generalize (j - 1) / 2=i at *;have he:eqB (i:Int) (j:Int)=false:=fR (by omega);have hi:i < T.length:=by omega
   have hrd:=h.rd;have h350:=C1 h.sl hj hi;rw [Nc];cases hc:ltB (T.getD j 0:Nat) (T.getD i 0:Nat) with
   | false =>rw [hc] at h350;simp -implicitDefEqProofs only [Ax,f77,aP,hlen,h0,h1,hs,hq,he,hrd,h350,↓fU,rU,nQ,nO,nP,rT,nu,func49,show f49.body.isSome=true from rfl,func350,show f350.body.isSome=true from rfl,func351,show f351.body.isSome=true from rfl,func352,show f352.body.isSome=true from rfl,func353,show f353.body.isSome=true from rfl,reduceCtorEq,reduceIte,aR,aQ,bg,aK,↓zzC,zzE];exact ⟨_,K,T,rfl,by simp only [ls,hlen],iW _,h,rfl,fun _ _=>rfl⟩
   | true =>
     rw [hc] at h350;obtain ⟨K1,h353,ho,hl1,hf⟩:=CZ h.own hi hj;have h1':=h.swap ho hf;simp -implicitDefEqProofs only [Ax,f77,aP,hlen,h0,h1,hs,hq,he,hrd,h350,h353,↓fU,rU,nQ,nO,nP,rT,nu,func49,show f49.body.isSome=true from rfl,func350,show f350.body.isSome=true from rfl,func351,show f351.body.isSome=true from rfl,func352,show f352.body.isSome=true from rfl,func353,show f353.body.isSome=true from rfl,reduceCtorEq,reduceIte,aR,aQ,bg,aK,↓zzC,zzE];generalize hX:EvC aa C0 W0 plN _ _=Z;have key:∀ (tm1:List AV),EvC aa C0 W0 plN Ge (tm1,K1)=Z->tm1.length=23->tm1.getD 0 uA=.iface 100 (.ptr hb 0)->tm1.getD 1 uA=I ((i:Nat):Int)->∃ X K' T',Z=some (.exit 0,(X,K'))/\X.length=23/\T'.Perm T/\HpR K' hb v T'/\K'.length=K.length/\∀ c,cF v≠some c->K'[c]? =K[c]?:=by intro tm1 hZ hl1' a0 a1;rw [<-hZ];obtain ⟨X,K',T',e1,e2,e3,e4,e5,e6⟩:=ih i tm1 K1 (sQ T i j) (by omega) (by rw [mq]; omega) (by rw [mq]; exact hT) h1' hl1' a0 a1;exact ⟨X,K',T',e1,e2,e3.trans (mE hi hj),e4,by omega,fun c hc=>by rw [e6 c hc,hf c hc]⟩
     exact key _ hX (by simp only [ls,hlen]) (by simp only [hlen,h0,gB,sevalprocAttr]) (by simp only [hlen,gB,sevalprocAttr])
theorem aei {K:AH} {hb:Nat} {v:AV} {T:List Nat} {j:Nat} (h:HpR K hb v T) (hj:j < T.length) (hT:T.length<=2000):∃ K' T',Ev aa C0 W0 77 [.iface 100 (.ptr hb 0),I (j:Nat)] K=some (.tuple [],K')/\T'.Perm T/\HpR K' hb v T'/\K'.length=K.length/\∀ c,cF v≠some c->K'[c]? =K[c]?:=by
 obtain ⟨tm,ht,g0,g1,g2⟩:=tm2 (.iface 100 (.ptr hb 0)) (I (j:Nat)) 23 (by decide);rw [acI,ht];obtain ⟨X,K',T',e1,e2,e3,e4,e5,e6⟩:=abA j j tm K T (aw _) hj hT h g0 g1 g2;have e1':EvC aa C0 W0 plN (Code.loop Ax) (tm,K)=some (.exit 0,(X,K')):=e1;have hc:c77=.block 0 Ge:=by kernel_rfl
 rw [hc];simp -implicitDefEqProofs only [e1,reduceCtorEq,reduceIte,aR,aQ,bg,aK,↓zzA,zzB];exact ⟨K',T',rfl,e3,e4,e5,e6⟩
theorem Wa {hb i0 n:Nat} {v:AV}:∀ (d i:Nat) (tm:List AV) (K:AH) (T:List Nat),n - i<=d->i<=n->n<=T.length->i < T.length->T.length<=2000->HpR K hb v T->tm.length=48->tm.getD 0 uA=.iface 100 (.ptr hb 0)->tm.getD 1 uA=I (i0:Nat)->tm.getD 2 uA=I (n:Nat)->tm.getD 7 uA=I ((i:Nat):Int) ->
   ∃ X K' T',EvC aa C0 W0 plN Gd (tm,K)=some (.exit 0,(X,K'))/\X.length=48/\X.getD 1 uA=I (i0:Nat)/\(∃ e:Nat,X.getD 7 uA=I (e:Nat))/\T'.Perm T/\HpR K' hb v T'/\K'.length=K.length/\∀ c,cF v≠some c->K'[c]? =K[c]?:=by
 intro d;induction d with
 | zero =>
   intro i tm K T hd hin hn hi hT h hlen h0 h1 h2 h7;have hm:fy .mul .i64 2 ((i:Nat):Int)=some (I ((2 * i:Nat):Int)):=by show some (AV.int .i64 (IntKind.i64.wrap (2 * (i:Int))))=_;rw [show 2 * (i:Int)=((2 * i:Nat):Int) by omega,Ix (by omega)]
   have hw:=b6 (j:=2 * i) (by omega);have hge:leB (n:Int) ((2 * i+1:Nat):Int)=true:=z3 (by omega);rw [Fa];simp -implicitDefEqProofs only [r4,f78,aP,hlen,h0,h1,h2,h7,hm,hw,hge,reduceCtorEq,reduceIte,aR,aQ,bg,aK,↓zzC,zzE];exact ⟨_,K,T,rfl,by simp only [ls,hlen],by simp only [hlen,h1,gB,sevalprocAttr],⟨i,by simp only [hlen,h7,gB,sevalprocAttr]⟩,iW _,h,rfl,fun _ _=>rfl⟩
 | succ d ih =>
   intro i tm K T hd hin hn hi hT h hlen h0 h1 h2 h7;have hm:fy .mul .i64 2 ((i:Nat):Int)=some (I ((2 * i:Nat):Int)):=by show some (AV.int .i64 (IntKind.i64.wrap (2 * (i:Int))))=_;rw [show 2 * (i:Int)=((2 * i:Nat):Int) by omega,Ix (by omega)]
   have hw:=b6 (j:=2 * i) (by omega);have hw2:=b6 (j:=2 * i+1) (by omega);have hrd:=h.rd;rcases bc (2 * i+1) n with hlt | hge'
   case inr =>
     have hge:leB (n:Int) ((2 * i+1:Nat):Int)=true:=z3 (by omega)
     rw [Fa]
     simp -implicitDefEqProofs only [r4,f78,aP,hlen,h0,h1,h2,h7,hm,hw,hge,reduceCtorEq,reduceIte,aR,aQ,bg,aK,↓zzC,zzE]
     exact ⟨_,K,T,rfl,by simp only [ls,hlen],by simp only [hlen,h1,gB,sevalprocAttr],⟨i,by simp only [hlen,h7,gB,sevalprocAttr]⟩,iW _,h,rfl,fun _ _=>rfl⟩
   have hge:leB (n:Int) ((2 * i+1:Nat):Int)=false:=Yu (by omega);have hneg:ltB ((2 * i+1:Nat):Int) 0=false:=cw (by omega);have key:∀ (j:Nat) (K1:AH) (T1:List Nat) (tm1:List AV) (Z:Option (bk × St)),i < j->j < n->T1.Perm T->T1.length=T.length->HpR K1 hb v T1->K1.length=K.length->(∀ c,cF v≠some c->K1[c]? =K[c]?)->EvC aa C0 W0 plN Gd (tm1,K1)=Z->tm1.length=48->tm1.getD 0 uA=.iface 100 (.ptr hb 0)->tm1.getD 1 uA=I (i0:Nat)->tm1.getD 2 uA=I (n:Nat)->tm1.getD 7 uA=I ((j:Nat):Int)->∃ X K' T',Z=some (.exit 0,(X,K'))/\X.length=48/\X.getD 1 uA=I (i0:Nat)/\(∃ e:Nat,X.getD 7 uA=I (e:Nat))/\T'.Perm T/\HpR K' hb v T'/\K'.length=K.length/\∀ c,cF v≠some c->K'[c]? =K[c]?:=by intro j K1 T1 tm1 Z hij hjn hp hl1 hh hk hf hZ a a0 a1 a2 a7;rw [<-hZ];obtain ⟨X,K',T',e1,e2,e2a,e2b,e3,e4,e5,e6⟩:=ih j tm1 K1 T1 (by omega) (by omega) (by omega) (by omega) (by omega) hh a a0 a1 a2 a7;exact ⟨X,K',T',e1,e2,e2a,e2b,e3.trans hp,e4,by omega,fun c hc=>by rw [e6 c hc,hf c hc]⟩
   have hj1:2 * i+1 < T.length:=by omega
   rw [Fa];rcases bc (2 * i+1+1) n with hlt2 | hge2
   case inr =>
     have hl2:ltB ((2 * i+1+1:Nat):Int) (n:Int)=false:=cw (by omega)
     have hjT:2 * i+1 < T.length:=by omega
     have hLi:=C1 h.sl hjT hi
     cases hci:ltB (T.getD (2 * i+1) 0:Nat) (T.getD i 0:Nat) with
     | false =>
       rw [hci] at hLi
       simp -implicitDefEqProofs only [r4,f78,aP,hlen,h0,h1,h2,h7,hm,hw,hw2,hge,hneg,hrd,hLi,hl2,↓fU,rU,nQ,nO,nP,rT,nu,func49,show f49.body.isSome=true from rfl,func350,show f350.body.isSome=true from rfl,func351,show f351.body.isSome=true from rfl,func352,show f352.body.isSome=true from rfl,func353,show f353.body.isSome=true from rfl,reduceCtorEq,reduceIte,aR,aQ,bg,aK,↓zzC,zzE]
       exact ⟨_,K,T,rfl,by simp only [ls,hlen],by simp only [hlen,h1,gB,sevalprocAttr],⟨i,by simp only [hlen,h7,gB,sevalprocAttr]⟩,iW _,h,rfl,fun _ _=>rfl⟩
     | true =>
       rw [hci] at hLi
       obtain ⟨K1,h353,ho,hl1,hf⟩:=CZ h.own hi hjT
       simp -implicitDefEqProofs only [r4,f78,aP,hlen,h0,h1,h2,h7,hm,hw,hw2,hge,hneg,hrd,hLi,h353,hl2,↓fU,rU,nQ,nO,nP,rT,nu,func49,show f49.body.isSome=true from rfl,func350,show f350.body.isSome=true from rfl,func351,show f351.body.isSome=true from rfl,func352,show f352.body.isSome=true from rfl,func353,show f353.body.isSome=true from rfl,reduceCtorEq,reduceIte,aR,aQ,bg,aK,↓zzC,zzE]
       generalize hX:EvC aa C0 W0 plN _ _=Z
       exact key (2 * i+1) K1 _ _ Z (by omega) (by omega) (mE hi hjT) (mq _ _ _) (h.swap ho hf) hl1 hf hX (by simp only [ls,hlen]) (by simp only [hlen,h0,gB,sevalprocAttr]) (by simp only [hlen,h1,gB,sevalprocAttr]) (by simp only [hlen,h2,gB,sevalprocAttr]) (by simp only [hlen,gB,sevalprocAttr])
   have hl2:ltB ((2 * i+1+1:Nat):Int) (n:Int)=true:=cu (by omega);have hj2:2 * i+1+1 < T.length:=by omega
   have hL2:=C1 h.sl hj2 hj1;cases hc2:ltB (T.getD (2 * i+1+1) 0:Nat) (T.getD (2 * i+1) 0:Nat) with
   | false =>
     rw [hc2] at hL2;have hjT:2 * i+1 < T.length:=by omega
     have hLi:=C1 h.sl hjT hi;cases hci:ltB (T.getD (2 * i+1) 0:Nat) (T.getD i 0:Nat) with
     | false =>rw [hci] at hLi;simp -implicitDefEqProofs only [r4,f78,aP,hlen,h0,h1,h2,h7,hm,hw,hw2,hge,hneg,hrd,hLi,hl2,hL2,↓fU,rU,nQ,nO,nP,rT,nu,func49,show f49.body.isSome=true from rfl,func350,show f350.body.isSome=true from rfl,func351,show f351.body.isSome=true from rfl,func352,show f352.body.isSome=true from rfl,func353,show f353.body.isSome=true from rfl,reduceCtorEq,reduceIte,aR,aQ,bg,aK,↓zzC,zzE];exact ⟨_,K,T,rfl,by simp only [ls,hlen],by simp only [hlen,h1,gB,sevalprocAttr],⟨i,by simp only [hlen,h7,gB,sevalprocAttr]⟩,iW _,h,rfl,fun _ _=>rfl⟩
     | true =>rw [hci] at hLi;obtain ⟨K1,h353,ho,hl1,hf⟩:=CZ h.own hi hjT;simp -implicitDefEqProofs only [r4,f78,aP,hlen,h0,h1,h2,h7,hm,hw,hw2,hge,hneg,hrd,hLi,h353,hl2,hL2,↓fU,rU,nQ,nO,nP,rT,nu,func49,show f49.body.isSome=true from rfl,func350,show f350.body.isSome=true from rfl,func351,show f351.body.isSome=true from rfl,func352,show f352.body.isSome=true from rfl,func353,show f353.body.isSome=true from rfl,reduceCtorEq,reduceIte,aR,aQ,bg,aK,↓zzC,zzE];generalize hX:EvC aa C0 W0 plN _ _=Z;exact key (2 * i+1) K1 _ _ Z (by omega) (by omega) (mE hi hjT) (mq _ _ _) (h.swap ho hf) hl1 hf hX (by simp only [ls,hlen]) (by simp only [hlen,h0,gB,sevalprocAttr]) (by simp only [hlen,h1,gB,sevalprocAttr]) (by simp only [hlen,h2,gB,sevalprocAttr]) (by simp only [hlen,gB,sevalprocAttr])
   | true =>
     rw [hc2] at hL2;have hjT:2 * i+1+1 < T.length:=by omega
     have hLi:=C1 h.sl hjT hi;cases hci:ltB (T.getD (2 * i+1+1) 0:Nat) (T.getD i 0:Nat) with
     | false =>rw [hci] at hLi;simp -implicitDefEqProofs only [r4,f78,aP,hlen,h0,h1,h2,h7,hm,hw,hw2,hge,hneg,hrd,hLi,hl2,hL2,↓fU,rU,nQ,nO,nP,rT,nu,func49,show f49.body.isSome=true from rfl,func350,show f350.body.isSome=true from rfl,func351,show f351.body.isSome=true from rfl,func352,show f352.body.isSome=true from rfl,func353,show f353.body.isSome=true from rfl,reduceCtorEq,reduceIte,aR,aQ,bg,aK,↓zzC,zzE];exact ⟨_,K,T,rfl,by simp only [ls,hlen],by simp only [hlen,h1,gB,sevalprocAttr],⟨i,by simp only [hlen,h7,gB,sevalprocAttr]⟩,iW _,h,rfl,fun _ _=>rfl⟩
     | true =>rw [hci] at hLi;obtain ⟨K1,h353,ho,hl1,hf⟩:=CZ h.own hi hjT;simp -implicitDefEqProofs only [r4,f78,aP,hlen,h0,h1,h2,h7,hm,hw,hw2,hge,hneg,hrd,hLi,h353,hl2,hL2,↓fU,rU,nQ,nO,nP,rT,nu,func49,show f49.body.isSome=true from rfl,func350,show f350.body.isSome=true from rfl,func351,show f351.body.isSome=true from rfl,func352,show f352.body.isSome=true from rfl,func353,show f353.body.isSome=true from rfl,reduceCtorEq,reduceIte,aR,aQ,bg,aK,↓zzC,zzE];generalize hX:EvC aa C0 W0 plN _ _=Z;exact key (2 * i+1+1) K1 _ _ Z (by omega) (by omega) (mE hi hjT) (mq _ _ _) (h.swap ho hf) hl1 hf hX (by simp only [ls,hlen]) (by simp only [hlen,h0,gB,sevalprocAttr]) (by simp only [hlen,h1,gB,sevalprocAttr]) (by simp only [hlen,h2,gB,sevalprocAttr]) (by simp only [hlen,gB,sevalprocAttr])
theorem aeh {K:AH} {hb n:Nat} {v:AV} {T:List Nat} (h:HpR K hb v T) (hn:n < T.length) (hT:T.length<=2000):∃ bb K' T',Ev aa C0 W0 78 [.iface 100 (.ptr hb 0),I 0,I (n:Nat)] K=some (.bool bb,K')/\T'.Perm T/\HpR K' hb v T'/\K'.length=K.length/\∀ c,cF v≠some c->K'[c]? =K[c]?:=by
 obtain ⟨tm,ht,g0,g1,g2,g3⟩:=tm3 (.iface 100 (.ptr hb 0)) (I 0) (I (n:Nat)) 48 (by decide);rw [acH,ht];simp -implicitDefEqProofs only [c78,f78,aP,g0,g1,g2,g3,reduceCtorEq,reduceIte,aR,aQ,bg,aK,↓zzC,zzE];generalize hX:EvC aa C0 W0 plN _ _=Z;have key:∀ (tm1:List AV),EvC aa C0 W0 plN Gd (tm1,K)=Z->tm1.length=48->tm1.getD 0 uA=.iface 100 (.ptr hb 0)->tm1.getD 1 uA=I ((0:Nat):Int)->tm1.getD 2 uA=I (n:Nat)->tm1.getD 7 uA=I ((0:Nat):Int)->∃ X K' T',Z=some (.exit 0,(X,K'))/\X.length=48/\X.getD 1 uA=I (0:Nat)/\(∃ e:Nat,X.getD 7 uA=I (e:Nat))/\T'.Perm T/\HpR K' hb v T'/\K'.length=K.length/\∀ c,cF v≠some c->K'[c]? =K[c]?:=by intro tm1 hZ a a0 a1 a2 a7;rw [<-hZ];exact Wa n 0 tm1 K T (by omega) (aV _) (by omega) (by omega) hT h a a0 a1 a2 a7
 obtain ⟨X,K',T',e1,e2,e2a,⟨e,e2b⟩,e3,e4,e5,e6⟩:=key _ hX (by simp only [ls,g0]) (by simp only [g0,g1,gB,sevalprocAttr]) (by simp only [g0,g2,gB,sevalprocAttr]; try rfl) (by simp only [g0,g3,gB,sevalprocAttr]) (by simp only [g0,g2,gB,sevalprocAttr]; try rfl);subst e1;simp -implicitDefEqProofs only [c78,f78,aP,e2,e2a,e2b,reduceCtorEq,reduceIte,aR,aQ,bg,aK,↓zzC,zzE];exact ⟨_,K',T',rfl,e3,e4,e5,e6⟩
theorem aaf {K:AH} {hb:Nat} {v:AV} {T:List Nat} (h:HpR K hb v T) (hN:T.length<=1000) (x:Nat):∃ v' K' T',Ev aa C0 W0 48 [.iface 100 (.ptr hb 0),.iface 3 (I (x:Nat))] K=some (.tuple [],K')/\T'.Perm (T++[x])/\HpR K' hb v' T'/\Fr hb v v' K K':=by
 obtain ⟨tm,ht,g0,g1,g2⟩:=tm2 (.iface 100 (.ptr hb 0)) (.iface 3 (I (x:Nat))) 12 (by decide);rw [ac7,ht];obtain ⟨v',K1,h352,hp1,hf1⟩:=aai h hN x;have hrd:=hp1.rd;have h49:=V0 hp1.sl;rw [ai,List.length_singleton] at h49;have hs:IntKind.i64.wrap (((T.length+1:Nat):Int) - 1)=(T.length:Int):=by rw [show (((T.length+1:Nat):Int) - 1)=(T.length:Int) by omega]; exact Ix (by omega)
 obtain ⟨K2,T2,h77,e3,e4,e5,e6⟩:=aei (j:=T.length) hp1 (by simp) (by simp; omega);simp -implicitDefEqProofs only [c48,f48,aP,g0,g1,g2,h352,hrd,h49,hs,↓adJ,h77,↓fU,rU,nQ,nO,nP,rT,nu,func49,show f49.body.isSome=true from rfl,func350,show f350.body.isSome=true from rfl,func351,show f351.body.isSome=true from rfl,func352,show f352.body.isSome=true from rfl,func353,show f353.body.isSome=true from rfl,reduceCtorEq,reduceIte,aR,aQ,bg,aK,↓zzC,zzE];exact ⟨v',K2,T2,rfl,e3,e4,hf1.trans (Fr.own e5 e6)⟩
theorem aeB {K:AH} {hb:Nat} {v:AV} {T:List Nat} (h:HpR K hb v T) (hN:T.length<=1000) (hT:0 < T.length):∃ x T0 v' K',Ev aa C0 W0 50 [.iface 100 (.ptr hb 0)] K=some (.iface 3 (I (x:Nat)),K')/\(x::T0).Perm T/\HpR K' hb v' T0/\Fr hb v v' K K':=by
 obtain ⟨tm,ht,g0,g1⟩:=tm1 (.iface 100 (.ptr hb 0)) 15 (by decide);rw [ac5,ht];obtain ⟨n,hn⟩:∃ n,T.length=n+1:=⟨T.length - 1,by omega⟩;have hrd:=h.rd;have h49:=V0 h.sl;rw [hn] at h49;have hs:IntKind.i64.wrap (((n+1:Nat):Int) - 1)=(n:Int):=by rw [show (((n+1:Nat):Int) - 1)=(n:Int) by omega]; exact Ix (by omega)
 obtain ⟨K1,h353,ho,hl1,hf⟩:=CZ (i:=0) (j:=n) h.own (by omega) (by omega);have hp1:=h.swap ho hf;have hp1l:(sQ T 0 n).length=n+1:=by rw [mq]; exact hn
 have h353':Ev aa C0 W0 353 [v,I 0,I (n:Nat)] K=some (.tuple [],K1):=h353;obtain ⟨bb,K2,T2,h78,e3,e4,e5,e6⟩:=aeh (n:=n) hp1 (by omega) (by omega);have hT2:T2.length=n+1:=by rw [e3.length_eq,hp1l]
 obtain ⟨T0,x,hT0⟩:∃ T0 x,T2=T0++[x]:=by
   rcases List.eq_nil_or_concat T2 with e | ⟨T0,x,e⟩
   · rw [e] at hT2; simp at hT2
   · exact ⟨T0,x,by rw [e]; simp⟩
 rw [hT0] at e4;have hrd1:=hp1.rd;obtain ⟨v',K3,h351,hp3,hf3⟩:=aaj e4 (by rw [hT0,ai] at hT2; simp at hT2; omega);simp -implicitDefEqProofs only [c50,f50,aP,g0,g1,show ofV 6 Value.nilIface=some .nilIface from rfl,hrd,hrd1,h49,hs,h353',↓adI,h78,h351,↓fU,rU,nQ,nO,nP,rT,nu,func49,show f49.body.isSome=true from rfl,func350,show f350.body.isSome=true from rfl,func351,show f351.body.isSome=true from rfl,func352,show f352.body.isSome=true from rfl,func353,show f353.body.isSome=true from rfl,reduceCtorEq,reduceIte,aR,aQ,bg,aK,↓zzC,zzE];refine ⟨x,T0,v',K3,rfl,?_,hp3,(Fr.own hl1 hf).trans ((Fr.own e5 e6).trans hf3)⟩;have:(x::T0).Perm T2:=by rw [hT0]; exact (List.perm_append_singleton x T0).symm
 exact this.trans (e3.trans (mE (by omega) (by omega)))
def nkB (x:Itm):Bool:=!eqB x.kind 0
def gZ (ss:List (List Itm)):List (List Itm):=ss.map (·.filter nkB)
theorem zM {G K:AH} {v:AV} (hA:an G K) (hv:∀ i,cF v=some i->G.length<=i):Sub G (bU v K):=fun i o hi _=>by
 rw [dD fun e=>by have:=hv i e; have:=aI hi; omega]
 exact hA.get hi
theorem IY {es n:Nat} {v:AV} {b i:Nat} (h:cF (bu es n v b)=some i):b<=i:=by
 unfold bu at h;split at h
 · cases h
 · split at h
   · cases h; exact aw _
   · cases h; exact Nat.le_succ _
theorem LX (l:List (Itm × AV)):(l.filter fQ).map (·.1)=(l.map (·.1)).filter nkB:=by rw [List.filter_map]; rfl
theorem WG {G:AH} {ss:List (List Itm)} {vc vm vs:AV} (hs:cT G ss vs) (hn4:ss.length<=100) (hl24:∀ l∈ss,l.length<=1000):∀ (d j:Nat) (tm:List AV) (K:AH) (Z:Option (bk × St)),EvC aa C0 W0 kC Ti (tm,K)=Z->ss.length - j=d->j<=ss.length->(tm.length=158/\tm.getD 0 uA=vc/\tm.getD 1 uA=vm/\tm.getD 2 uA=vs/\tm.getD 36 uA=vs/\tm.getD 37 uA=I ss.length/\tm.getD 38 uA=I ((j:Nat):Int)/\an G K/\∃ v ws,tm.getD 9 uA=v/\Own G.length K 1 31 v ws/\ws.length=j/\∀ i,i < j->eD (bU v K) ((aM ss i).filter nkB) (ws.getD i uA)) ->
   ∃ X K1,Z=some (.exit 0,(X,K1))/\(X.length=158/\X.getD 0 uA=vc/\X.getD 1 uA=vm/\X.getD 2 uA=vs/\X.getD 36 uA=vs/\X.getD 37 uA=I ss.length/\X.getD 38 uA=I ((ss.length:Nat):Int)/\an G K1/\∃ v ws,X.getD 9 uA=v/\Own G.length K1 1 31 v ws/\ws.length=ss.length/\∀ i,i < ss.length->eD (bU v K1) ((aM ss i).filter nkB) (ws.getD i uA)):=by
 intro d;induction d with
 | zero =>
   intro j tm K Z hZ hd hj hI;subst hZ;have hjl:j=ss.length:=by omega
   subst hjl;obtain ⟨hlen,h0,h1,h2,h36,h37,h38,hA,v,ws,h9,hR⟩:=hI;have hlt:ltB (ss.length:Nat) (ss.length:Nat)=false:=cw (by omega);rw [NX];simp -implicitDefEqProofs only [Hh,f19,aP,hlen,h0,h1,h2,h36,h37,h38,hlt,↓zzA,zzB,sevalprocAttr];exact ⟨_,K,rfl,by simp only [ls,hlen],Aj6 (by simp only [hlen,h0,h1,h2,h36,h37,h38,gB,and_self,sevalprocAttr]) ⟨hA,v,ws,by simp only [hlen,h9,gB,sevalprocAttr],hR⟩⟩
 | succ d ih =>
   intro j tm K Z hZ hd hj hI;subst hZ;obtain ⟨hlen,h0,h1,h2,h36,h37,h38,hA,v,ws,h9,hov,hwl,hR⟩:=hI;have hjN:j < ss.length:=by omega
   have hlt:ltB (j:Int) (ss.length:Nat)=true:=cu (by omega);have hw:=b6 (j:=j) (by omega);obtain ⟨i0,k0,v0,hix,hrd,hx⟩:=hs.at hA hjN;have hl1000:=hl24 _ (gG hjN);have hrd:=hrd [];rw [af] at hrd;obtain ⟨⟨l,hl1,hl2,hl3⟩,xn,xa,xi,xw⟩:=hx;have hll:l.length=(aM ss j).length:=by rw [<-hl1,ao]
   have h46:=aeC (hl2.same hA) (fu l) (gY b34 (by rw [ao]; omega)) [];rw [af,List.nil_append,List.length_nil,Nat.add_zero,ao] at h46;have o1:=kW (E:=34) (es:=9) (G:=K) (v:=v0) (xs:=(l.map fC).flatten) (n:=l.length) (by decide) (by rw [d5 (fu l),ao]) (fun e=>by have:=mQ hl2 e; have h2:l.map fC=[]:=this; rw [h2]; rfl);have hAK:=an.app K (bq 34 v0 (l.map fC).flatten);have h46':Ev aa C0 W0 46 [v0] K=some (bu 9 l.length v0 K.length,K++bq 34 v0 (l.map fC).flatten):=h46;clear h46;have hcb:∀ i,cF (bu 9 l.length v0 K.length)=some i->K.length<=i:=fun i hi=>IY hi;generalize bu 9 l.length v0 K.length=cv at *;generalize K++bq 34 v0 (l.map fC).flatten=K1 at *;have hA1:=hA.trans hAK;have hI1:eD K1 (l.map (·.1)) cv:=⟨⟨l,rfl,o1.mJ mV (by decide) (fu l),fun p hp=>(hl3 p hp).same hA1⟩,by rw [hl1]; exact xn,by rw [hl1]; exact xa,by rw [hl1]; exact xi,by rw [hl1]; exact xw⟩;have hG1:Sub G (bU cv K1):=zM hA1 fun i hi=>bh hA.len (hcb i hi);obtain ⟨cv',K2,h45,hAg,hbk,ho2⟩:=aeD o1 hI1 fun p hp=>(hl3 p hp).sub hG1;have hsh:=ho2.sh;have hcc:=ho2.cells;have hb25:=Ot hcc hsh K2;have hvb:∀ i,cF v=some i->G.length<=i/\i < K.length:=fun i hi=>gX hov hi;have hK12:∀ c,c < K.length->K2[c]? =K[c]?:=fun c hc=>by rw [hAg.2 c (bF hc hAK.len) fun e=>by have:=hcb c e; omega,hAK c hc]
   have hK2l:K.length<=K2.length:=bh hAK.len hAg.1;have hov2:Own G.length (K2++[.cells [cv'] 31]) 1 31 v ws:=hov.other fun i k e len cap ex hv=>by have:=(hvb i (by rw [hv]; rfl)).2;rw [ar (by omega),hK12 i this]
   have hlv:=hov.length;obtain ⟨v',K3,happ,hov',hll3,hsame,hblk⟩:=tZ Oz hov2 (by rw [ai]; exact bh hA.len (bh hK2l (Nat.le_add_right _ _))) (x:=.slice K2.length 0 1 1 1 true) (new:=[cv']) (.at _ _ _ _ _ _ (by unfold ak;rw [al (aw _),d9]; rfl)) (by simp [hcc.2]) (gY b31 (by rw [cp]; omega));have hKK:∀ c,c < K.length->cF v≠some c->K3[c]? =K[c]?:=fun c hc hne=>by rw [hsame c (by rw [ai]; omega) hne,ar (by omega),hK12 c hc]
   have hAn:an G K3:=fun c hc=>by rw [hKK c (bF hc hA.len) fun e=>by have:=(hvb c e).1; omega,hA c hc]
   have hGv':∀ i,cF v'=some i->G.length<=i:=fun i hi=>by
     rcases hblk i hi with e | e
     · exact (hvb i e).1
     · rw [ai] at e; have:=hA.len; omega
   have hSub:Sub (bU v K) (bU v' K3):=fun i ob hi hne=>by
     have hvi:cF v≠some i:=fun e=>(mU (K:=K) e).ne hi hne rfl;rw [dD hvi] at hi;have hil:=aI hi;rw [dD fun e=>by
       rcases hblk i e with e2 | e2
       · exact hvi e2
       · rw [ai] at e2; omega,hKK i hil hvi]
     exact hi
   have hnew:eD (bU v' K3) ((aM ss j).filter nkB) cv':=by
     have hob:Own K.length (bU v' K3) 9 34 cv' ((l.filter fQ).map fC).flatten:=ho2.other fun i k e len cap ex hv=>by
       have hi:cF cv'=some i:=by rw [hv]; rfl
       have hiK2:=(gX ho2 hi).2;have hiK:=(gX ho2 hi).1;have hvi:cF v≠some i:=fun e=>by have:=(hvb i e).2; omega
       rw [dD fun e=>by
         rcases hblk i e with e2 | e2
         · exact hvi e2
         · rw [ai] at e2; omega,hsame i (by rw [ai]; omega) hvi,ar hiK2]
     refine ⟨⟨l.filter fQ,by rw [LX,hl1],hob.mJ mV (by decide) (fu _),fun p hp=>(hl3 p (fm.1 hp).1).sub (zM hAn hGv')⟩,Nat.lt_of_le_of_lt (List.length_filter_le _ _) xn,fun x hx=>xa x (fm.1 hx).1,fun x hx=>xi x (fm.1 hx).1,fun x hx=>xw x (fm.1 hx).1⟩
   rw [NX];simp -implicitDefEqProofs only [Hh,f19,aP,hlen,h0,h1,h2,h36,h37,h38,h9,hlt,hw,hix,hrd,↓adR,h46',↓adS,show ∀ gl tm,cY gl tm (.func 47)=some (.func (.func 47) [] []) from fun _ _=>rfl,h45,hb25,happ,↓zzC,zzE,sevalprocAttr];refine ih (j+1) _ K3 _ rfl (by omega) (by omega) ⟨by simp only [ls,hlen],Aj6 (by simp only [hlen,h0,h1,h2,h36,h37,gB,and_self,sevalprocAttr]) ⟨hAn,v',ws++[cv'],by simp only [hlen,gB,sevalprocAttr],hov',by rw [ai,hwl]; rfl,fun i hi=>?_⟩⟩;rcases bc i j with c | c
   · rw [gde,ar (by omega),<-gde];exact (hR i c).sub hSub
   · have:i=j:=by omega
     subst this;rw [gde,al (by omega),hwl,d9];exact hnew
theorem I4 {G K:AH} {ss:List (List Itm)} {v:AV} {ws:List AV} (hov:Own G.length K 1 31 v ws) (hwl:ws.length=ss.length) (hn:ss.length < 2 ^ 50) (hR:∀ i,i < ss.length->eD (bU v K) ((aM ss i).filter nkB) (ws.getD i uA)):cT K (gZ ss) v:=by
 refine ⟨⟨xm (gZ ss) ws,List.map_fst_zip (by unfold gZ; rw [ao]; omega),?_,fun p hp=>?_⟩,by unfold gZ; rw [ao]; exact hn⟩
 · have e:(xm (gZ ss) ws).map (fun p=>[p.2])=ws.map fun w=>[w]:=by
     have:=congrArg (List.map fun w=>[w]) (List.map_snd_zip (l₁:=gZ ss) (l₂:=ws) (by unfold gZ; rw [ao]; omega))
     rw [List.map_map] at this
     exact this
   rw [e]
   refine Own.mJ (elem:=31) (b:=G.length) CI (by decide) (rows:=ws.map fun w=>[w]) ?_ (fun r hr=>by obtain ⟨w,_,rfl⟩:=List.mem_map.1 hr; rfl)
   rw [show (ws.map fun w=>[w]).flatten=ws from by
     have:=qb (fun w:AV=>w) ws
     simpa using this]
   exact hov
 · obtain ⟨i,hi⟩:=List.mem_iff_getElem?.1 hp;obtain ⟨h1,h2⟩:=List.getElem?_zip_eq_some.1 hi;have hil:i < ss.length:=by have:=aI h2; omega
   have:=(hR i hil).sub (z6 v K);have e1:p.1=(aM ss i).filter nkB:=by unfold gZ at h1;rw [aO,mF hil] at h1;exact (aB h1).symm
   have e2:p.2=ws.getD i uA:=by rw [gde,h2]; rfl
   rw [e1,e2]; exact this
def mx2:AV->AV->Option Int
 | .int .i64 a,.int .i64 b=>some (if b > a then b else a)
 | _,_=>none
theorem LA (a b:Int):mx2 (I a) (I b)=some (if b > a then b else a):=rfl
theorem QW {x y:AV} {n:Int} (h:mx2 x y=some n):∃ a b,x=I a/\y=I b/\n=if b > a then b else a:=by
 unfold mx2 at h;split at h
 · exact ⟨_,_,rfl,rfl,(aB h).symm⟩
 · cases h
theorem Ig {ev:Operand->Option AV} {x y:Operand} {a b:Int} (hx:ev x=some (I a)) (hy:ev y=some (I b)) (dst:Option Tmp) (ty:TypeId) (pos:String) (after:Array Edge) (g:Option (Nat × Bool)) (t u:TypeId) :
   dq aa ev ⟨dst,.call ⟨.builtin .max,#[x,y],#[t,u]⟩,ty,pos,after,g⟩=some (.val (I (if b > a then b else a))):=by simp [dq,notSelect,Op.operands,Call.operands,hx,hy,toV,execOp,kr,gC,resolve,invoke,builtin,Builtin.max_,Builtin.max2,nr,bind,Sem.bind,pure]
theorem vw {C:Cfg aa} {slot:Option Nat} {ev:Operand->Option AV} {H:AH} (dst:Option Tmp) (ty:TypeId) (pos:String) (after:Array Edge) (g:Option (Nat × Bool)) (x y:Operand) (t u:TypeId) :
   gk aa C slot ev ⟨dst,.call ⟨.builtin .max,#[x,y],#[t,u]⟩,ty,pos,after,g⟩ ⟨.builtin .max,#[x,y],#[t,u]⟩ H=(ev x).bind fun a=>(ev y).bind fun b=>match mx2 a b with
     | some n=>some (.val (I n),H)
     | none=>(dq aa ev ⟨dst,.call ⟨.builtin .max,#[x,y],#[t,u]⟩,ty,pos,after,g⟩).map fun n=>(n,H):=by
 unfold gk
 simp only [evL]
 cases hx:ev x with
 | none=>rfl
 | some a =>
   cases hy:ev y with
   | none=>rfl
   | some b =>
     simp only [ax,cH]
     cases hm:mx2 a b with
     | none=>rfl
     | some n =>
       obtain ⟨p,q,rfl,rfl,rfl⟩:=QW hm
       rw [Ig hx hy]; rfl
end Go.Dv
namespace Go.Dv
open Go.Proofs
abbrev slN (b n:Nat):AV:=.slice b 0 1 n n true
def hU (K:AH) (b:Nat) (l:List Nat):Prop:=K[b]? =some (.cells (iv1 l) 3)
theorem ixN {N i:Nat} (b:Nat) (h:i < N) (kk:IntKind):aC aa 30 (slN b N) (.int kk (i:Int))=some (.ptr b i):=by rw [vV.ia,if_pos ⟨by omega,by omega,rfl⟩];simp
theorem VG {l:List Nat} {i:Nat} (h:i < l.length):(iv1 l)[i]? =some (I ((l.getD i 0:Nat):Int)):=by unfold iv1;rw [aO,aj h,gde,aj h]; rfl
theorem hU.rd {K:AH} {b:Nat} {l:List Nat} (h:hU K b l) {i:Nat} (hi:i < l.length):ak K b i 1=some [I ((l.getD i 0:Nat):Int)]:=by unfold ak;rw [show K[b]? =_ from h];simp only [iY];rw [if_pos (by omega)];have:=VG hi;congr 1;rw [List.drop_eq_getElem_cons (by rw [iY]; exact hi)];rw [aj (by rw [iY]; exact hi)] at this;rw [aB this]; rfl
theorem xJ (v:AV) (cs:List AV) (k:Nat):spl cs k [v]=cs.set k v:=rfl
theorem hU.wr {K:AH} {b:Nat} {l:List Nat} (h:hU K b l) {i:Nat} (hi:i < l.length) (x:Nat):bj K b i [I (x:Int)]=some (K.set b (.cells (iv1 (l.set i x)) 3)):=by unfold bj;rw [show K[b]? =_ from h];simp only [iY];rw [if_pos ⟨by simp; omega,rfl⟩,Bk]; rfl
theorem hU.set {K:AH} {b:Nat} {l:List Nat} (h:hU K b l) (m:List Nat):hU (K.set b (.cells (iv1 m) 3)) b m:=by unfold hU;rw [List.getElem?_set_self (aI h)]
theorem hU.other {K:AH} {b c:Nat} {l m:List Nat} (h:hU K b l) (hne:b≠c):hU (K.set c (.cells (iv1 m) 3)) b l:=by unfold hU;rw [ay (Ne.symm hne)]; exact h
theorem hU.sls {K:AH} {b:Nat} {l:List Nat} (h:hU K b l):SlS 30 1 K (slN b l.length) (ints l):=by
 have hl:(ints l).length=l.length:=by unfold ints; simp
 rw [<-hl];refine mI vV (ot l) (by unfold okC; rw [show K[b]? =_ from h]) ?_;unfold ak;rw [show K[b]? =_ from h];simp only [iY,hl];rw [if_pos (by omega),mu,List.drop_zero];unfold iv1;rw [List.take_of_length_le (by simp)]
theorem Yo (G:AH) (b n:Nat):d4 aa 30 G (slN b n)=some (I (n:Nat)):=vV.ln _ _ _ _ _ _ _
theorem AD {G K:AH} (h:an G K) {b:Nat} (hb:G.length<=b) (o:bm):an G (K.set b o):=fun j hj=>by
 rw [ay (by omega)]; exact h j hj
theorem Ry (l:List Nat) (q y z:Nat) (hy:l[q]? =some y):(l.take (q+1)).count z=(l.take q).count z+if y=z then 1 else 0:=by have hq:=aI hy;rw [List.take_add_one,hy];simp [List.count_append,List.count_singleton]
structure WvS (G K:AH) (a ob wb:Nat) (iv av:AV) (N:Nat) (w b:List Nat):Prop where
 ag:an G K
 pc:K[a]? =some (.cells [iv,av] 93)
 fo:hU K ob w
 fb:hU K wb b
 lw:w.length=N
 lb:b.length=N
 n1:ob≠wb
 n2:a≠ob
 n3:a≠wb
 go:G.length<=ob
 gb:G.length<=wb
theorem WvS.JK {G K:AH} {a ob wb N:Nat} {iv av:AV} {w b:List Nat} (h:WvS G K a ob wb iv av N w b) {b':List Nat} (hl:b'.length=N):WvS G (K.set wb (.cells (iv1 b') 3)) a ob wb iv av N w b':=
 { h with ag:=AD h.ag h.gb _,pc:=by rw [ay (Ne.symm h.n3)]; exact h.pc,fo:=h.fo.other h.n1,fb:=h.fb.set b',lb:=hl }
theorem WvS.UB {G K:AH} {a ob wb N:Nat} {iv av:AV} {w b:List Nat} (h:WvS G K a ob wb iv av N w b) {w':List Nat} (hl:w'.length=N):WvS G (K.set ob (.cells (iv1 w') 3)) a ob wb iv av N w' b:=
 { h with ag:=AD h.ag h.go _,pc:=by rw [ay (Ne.symm h.n2)]; exact h.pc,fb:=h.fb.other (Ne.symm h.n1),fo:=h.fo.set w',lw:=hl }
theorem WvS.rdp {G K:AH} {a ob wb N:Nat} {iv av:AV} {w b:List Nat} (h:WvS G K a ob wb iv av N w b):ak K a 1 1=some [av]:=by unfold ak; rw [h.pc]; rfl
structure HpS (G:AH) (a ob wb hb:Nat) (v:AV):Prop where
 c1:hb≠a
 c2:hb≠ob
 c3:hb≠wb
 c4:G.length<=hb
 v1:cF v≠some a
 v2:cF v≠some ob
 v3:cF v≠some wb
 v4:∀ i,cF v=some i->G.length<=i
theorem WvS.fr {G K K':AH} {a ob wb N hb:Nat} {iv av v v':AV} {w b:List Nat} (h:WvS G K a ob wb iv av N w b) (hh:HpS G a ob wb hb v) (hf:Fr hb v v' K K'):WvS G K' a ob wb iv av N w b/\HpS G a ob wb hb v':=by
 have k:∀ c,c < K.length->c≠hb->cF v≠some c->K'[c]? =K[c]?:=hf.2.1;have la:=aI h.pc;have lo:=aI h.fo;have lb:=aI h.fb;have lg:=h.ag.len;refine ⟨{ h with ag:=fun i hi=>?_,pc:=?_,fo:=?_,fb:=?_ },{ hh with v1:=?_,v2:=?_,v3:=?_,v4:=?_ }⟩
 · rw [k i (by omega) (by have:=hh.c4; omega) fun e=>by have:=hh.v4 i e; omega]; exact h.ag i hi
 · rw [k a la (Ne.symm hh.c1) hh.v1]; exact h.pc
 · unfold hU; rw [k ob lo (Ne.symm hh.c2) hh.v2]; exact h.fo
 · unfold hU; rw [k wb lb (Ne.symm hh.c3) hh.v3]; exact h.fb
 · intro e; rcases hf.2.2 _ e with e | e
   · exact hh.v1 e
   · omega
 · intro e; rcases hf.2.2 _ e with e | e
   · exact hh.v2 e
   · omega
 · intro e; rcases hf.2.2 _ e with e | e
   · exact hh.v3 e
   · omega
 · intro i e; rcases hf.2.2 _ e with e | e
   · exact hh.v4 i e
   · omega
theorem HpR.XT {K:AH} {hb c:Nat} {v:AV} {T:List Nat} (h:HpR K hb v T) (h1:hb≠c) (h2:cF v≠some c) (o:bm):HpR (K.set c o) hb v T:=
 ⟨by rw [ay (Ne.symm h1)]; exact h.cell,h.own.other fun i k es len cap ex hv=>ay fun e=>h2 (by rw [hv,e]; rfl),h.ne⟩
def cn (A:List (List Nat)) (j y:Nat):Nat:=((bp j).map fun x=>(A.getD x []).count y).sum
theorem GD (A:List (List Nat)) (j y:Nat):cn A (j+1) y=cn A j y+(A.getD j []).count y:=by unfold cn; rw [jf,List.map_append,List.sum_append]; simp
theorem Oc (A:List (List Nat)) (N y:Nat):cn A N y=Qu.rem A N [] y:=by unfold cn Qu.rem;have h:(bp N).filter (fun x=>!([]:List Nat).contains x)=bp N:=List.filter_eq_self.2 fun x _=>rfl;rw [h]
theorem Od {A:List (List Nat)} (hA:∀ l∈A,l.length < 2 ^ 20) (y:Nat):∀ j,cn A j y<=j * 2 ^ 20
 | 0=>by simp [cn]
 | j+1=>by
   rw [GD]
   have h1:=Od hA y j
   have h2:=List.count_le_length (a:=y) (l:=A.getD j [])
   have h3:(A.getD j []).length<=2 ^ 20:=by
     rw [gde]
     cases h:A[j]? with
     | none=>simp
     | some l=>exact Nat.le_of_lt (hA l (List.mem_of_getElem? h))
   omega
theorem Q2 {A:List (List Nat)} {N:Nat} {b:List Nat} (hl:b.length=N) (hb:∀ y,y < N->b.getD y 0=cn A N y):Qu.KO A N [] (List.replicate N 0) b ((bp N).filter fun y=>b.getD y 0 == 0) where
 lw:=List.length_replicate
 lb:=hl
 nd:=List.nodup_nil
 dN:=fun d hd=>by simp at hd
 d0:=fun d hd=>by simp at hd
 hb:=fun y hy=>by rw [hb y hy,Oc]
 tn:=List.nodup_range.filter _
 tm:=fun y=>by simp [fm]
 w1:=fun d hd=>by simp at hd
 w2:=fun y hy=>.inl (by rw [gde,kL]; split <;> rfl)
 w3:=fun y hy=>by rw [gde,kL]; split <;> simp
theorem zG (b:List Nat) (j:Nat):(bp (j+1)).filter (fun y=>b.getD y 0 == 0)=(bp j).filter (fun y=>b.getD y 0 == 0)++if b.getD j 0=0 then [j] else []:=by
 rw [jf,List.filter_append];by_cases h:b.getD j 0=0
 · rw [if_pos h]; simp only [Jk,O1,h]; rfl
 · rw [if_neg h];have:(b.getD j 0 == 0)=false:=by simpa using h
   simp only [Jk,O1,this]; rfl
end Go.Dv
