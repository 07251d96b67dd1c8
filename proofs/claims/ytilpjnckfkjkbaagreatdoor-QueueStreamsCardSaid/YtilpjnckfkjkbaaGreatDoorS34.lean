/- Part 34 of the walks (own work). -/
import Derived.Test.YtilpjnckfkjkbaaGreatDoorS33
open List.Perm renaming refl→iC
open List renaming append_nil→af,filter_cons→Hs,filter_nil→MJ,getElem?_append_left→aq,getElem?_append_right→aw,getElem?_eq_getElem→aj,getElem?_map→aI,getElem?_replicate→ki,getElem?_set_ne→aB,length_append→ai,length_map→au,mem_filter→gf,range→bn,range_succ→kh,zip→wo
open Nat renaming le_refl→ax,le_trans→bc,lt_of_lt_of_le→bm,lt_or_ge→aY,reduceAdd→aW,reduceEqDiff→aK,reduceLT→aM,reduceLeDiff→aF,sub_self→dI,zero_le→fy
open Option renaming bind_some→ay,map_some→cE
open Option.some renaming inj→aC
open Go.Proofs.Tryz renaming prog→aa
set_option maxRecDepth 100000
set_option maxHeartbeats 4000000
set_option linter.unusedSimpArgs false
set_option linter.unusedVariables false
namespace Go.Dv
open Go.Proofs
attribute [local congr] aH bP bj bO bQ
theorem GC {n:Nat} (h:n < 2 ^ 50):IntKind.i64.wrap (n:Int)=(n:Int):=IntWalk.i64_in _ (by omega)
theorem Fr.own {hb:Nat} {v:AV} {K K':AH} (hl:K'.length=K.length) (h:∀ c,bZ v≠some c->K'[c]? =K[c]?):Fr hb v v K K':=⟨by omega,fun c _ _ hc=>h c hc,fun _ h=>.inl h⟩
theorem HpR.swap {K K':AH} {hb:Nat} {v:AV} {T T':List Nat} (h:HpR K hb v T) (ho:Own 0 K' 1 3 v (iv1 T')) (hf:∀ c,bZ v≠some c->K'[c]? =K[c]?):HpR K' hb v T':=⟨by rw [hf hb h.ne]; exact h.cell,ho,h.ne⟩
theorem XN {hb:Nat} {v:AV}:∀ (n j:Nat) (tm:List AV) (K:AH) (T:List Nat),j<=n->j < T.length->T.length<=2000->HpR K hb v T->tm.length=23->tm.getD 0 uA=.iface 100 (.ptr hb 0)->tm.getD 1 uA=I ((j:Nat):Int) ->
   ∃ X K' T',EvC aa C0 W0 plN EG (tm,K)=some (.exit 0,(X,K'))/\X.length=23/\T'.Perm T/\HpR K' hb v T'/\K'.length=K.length/\∀ c,bZ v≠some c->K'[c]? =K[c]?:=by
 intro n
 induction n with
 | zero =>
   intro j tm K T hjn hj hT h hlen h0 h1
   have hj0:j=0:=by omega
   subst hj0
   have hs:IntKind.i64.wrap (((0:Nat):Int) - 1)=-1:=by rw [IntWalk.i64_in _ (by omega)]; rfl
   have hq:eV .quo .i64 (-1) 2=some (I 0):=by rfl
   have he:eqB 0 ((0:Nat):Int)=true:=rfl
   rw [Lb]
   simp -implicitDefEqProofs only [zA,Tryz.f77,aP,hlen,h0,h1,hs,hq,he,r5,↓az,nck,↓cbT,↓cbF,↓ao,an,eu,reduceCtorEq,reduceIte,aM,aK,aW,aF]
   exact ⟨_,K,T,rfl,by simp only [ls,hlen],iC _,h,rfl,fun _ _=>rfl⟩
 | succ n ih =>
   intro j tm K T hjn hj hT h hlen h0 h1
   rcases Nat.eq_zero_or_pos j with hz | hp
   · subst hz
     exact ih 0 tm K T (fy _) hj hT h hlen h0 h1
   have hs:IntKind.i64.wrap (((j:Nat):Int) - 1)=((j - 1:Nat):Int):=by rw [show ((j:Nat):Int) - 1=((j - 1:Nat):Int) by omega]; exact GC (by omega)
   have hq:eV .quo .i64 ((j - 1:Nat):Int) 2=some (I (((j - 1) / 2:Nat):Int)):=by
     show some (AV.int .i64 (IntKind.i64.wrap ((((j - 1:Nat):Int)).tdiv 2)))=_
     rw [show ((((j - 1:Nat):Int)).tdiv 2)=(((j - 1) / 2:Nat):Int) from rfl,GC (by omega)]
   have hij:(j - 1) / 2 < j:=by omega
   generalize (j - 1) / 2=i at *
   have he:eqB (i:Int) (j:Int)=false:=jh (by omega)
   have hi:i < T.length:=by omega
   have hrd:=h.rd
   have h350:=BT h.sl hj hi
   rw [Lb]
   cases hc:ltB (T.getD j 0:Nat) (T.getD i 0:Nat) with
   | false =>
     rw [hc] at h350
     simp -implicitDefEqProofs only [zA,Tryz.f77,aP,hlen,h0,h1,hs,hq,he,hrd,h350,↓fC,q8,ng,m9,nf,qZ,mJ,Tryz.func49,show Tryz.f49.body.isSome=true from rfl,Tryz.func350,show Tryz.f350.body.isSome=true from rfl,Tryz.func351,show Tryz.f351.body.isSome=true from rfl,Tryz.func352,show Tryz.f352.body.isSome=true from rfl,Tryz.func353,show Tryz.f353.body.isSome=true from rfl,r5,↓az,nck,↓cbT,↓cbF,↓ao,an,eu,reduceCtorEq,reduceIte,aM,aK,aW,aF]
     exact ⟨_,K,T,rfl,by simp only [ls,hlen],iC _,h,rfl,fun _ _=>rfl⟩
   | true =>
     rw [hc] at h350
     obtain ⟨K1,h353,ho,hl1,hf⟩:=BS h.own hi hj
     have h1':=h.swap ho hf
     simp -implicitDefEqProofs only [zA,Tryz.f77,aP,hlen,h0,h1,hs,hq,he,hrd,h350,h353,↓fC,q8,ng,m9,nf,qZ,mJ,Tryz.func49,show Tryz.f49.body.isSome=true from rfl,Tryz.func350,show Tryz.f350.body.isSome=true from rfl,Tryz.func351,show Tryz.f351.body.isSome=true from rfl,Tryz.func352,show Tryz.f352.body.isSome=true from rfl,Tryz.func353,show Tryz.f353.body.isSome=true from rfl,r5,↓az,nck,↓cbT,↓cbF,↓ao,an,eu,reduceCtorEq,reduceIte,aM,aK,aW,aF]
     generalize hX:EvC aa C0 W0 plN _ _=Z
     have key:∀ (tm1:List AV),EvC aa C0 W0 plN EG (tm1,K1)=Z->tm1.length=23->tm1.getD 0 uA=.iface 100 (.ptr hb 0)->tm1.getD 1 uA=I ((i:Nat):Int)->∃ X K' T',Z=some (.exit 0,(X,K'))/\X.length=23/\T'.Perm T/\HpR K' hb v T'/\K'.length=K.length/\∀ c,bZ v≠some c->K'[c]? =K[c]?:=by
       intro tm1 hZ hl1' a0 a1
       rw [<-hZ]
       obtain ⟨X,K',T',e1,e2,e3,e4,e5,e6⟩:=ih i tm1 K1 (so T i j) (by omega) (by rw [l7]; omega) (by rw [l7]; exact hT) h1' hl1' a0 a1
       exact ⟨X,K',T',e1,e2,e3.trans (me hi hj),e4,by omega,fun c hc=>by rw [e6 c hc,hf c hc]⟩
     exact key _ hX (by simp only [ls,hlen]) (by simp only [hlen,h0,gB,sevalprocAttr]) (by simp only [hlen,gB,sevalprocAttr])
theorem ZY {K:AH} {hb:Nat} {v:AV} {T:List Nat} {j:Nat} (h:HpR K hb v T) (hj:j < T.length) (hT:T.length<=2000):∃ K' T',Ev aa C0 W0 77 [.iface 100 (.ptr hb 0),I (j:Nat)] K=some (.tuple [],K')/\T'.Perm T/\HpR K' hb v T'/\K'.length=K.length/\∀ c,bZ v≠some c->K'[c]? =K[c]?:=by
 obtain ⟨tm,ht,g0,g1,g2⟩:=tm2 (.iface 100 (.ptr hb 0)) (I (j:Nat)) 23 (by decide)
 rw [YI,ht]
 obtain ⟨X,K',T',e1,e2,e3,e4,e5,e6⟩:=XN j j tm K T (ax _) hj hT h g0 g1 g2
 have e1':EvC aa C0 W0 plN (Code.loop zA) (tm,K)=some (.exit 0,(X,K')):=e1
 have hc:c77=.block 0 EG:=by kernel_rfl
 rw [hc]
 simp -implicitDefEqProofs only [e1,↓cbT,↓cbF,↓ao,an,eu,reduceCtorEq,reduceIte,aM,aK,aW,aF]
 exact ⟨K',T',rfl,e3,e4,e5,e6⟩
theorem SM {hb i0 n:Nat} {v:AV}:∀ (d i:Nat) (tm:List AV) (K:AH) (T:List Nat),n - i<=d->i<=n->n<=T.length->i < T.length->T.length<=2000->HpR K hb v T->tm.length=48->tm.getD 0 uA=.iface 100 (.ptr hb 0)->tm.getD 1 uA=I (i0:Nat)->tm.getD 2 uA=I (n:Nat)->tm.getD 7 uA=I ((i:Nat):Int) ->
   ∃ X K' T',EvC aa C0 W0 plN EF (tm,K)=some (.exit 0,(X,K'))/\X.length=48/\X.getD 1 uA=I (i0:Nat)/\(∃ e:Nat,X.getD 7 uA=I (e:Nat))/\T'.Perm T/\HpR K' hb v T'/\K'.length=K.length/\∀ c,bZ v≠some c->K'[c]? =K[c]?:=by
 intro d
 induction d with
 | zero =>
   intro i tm K T hd hin hn hi hT h hlen h0 h1 h2 h7
   have hm:eV .mul .i64 2 ((i:Nat):Int)=some (I ((2 * i:Nat):Int)):=by
     show some (AV.int .i64 (IntKind.i64.wrap (2 * (i:Int))))=_
     rw [show 2 * (i:Int)=((2 * i:Nat):Int) by omega,GC (by omega)]
   have hw:=cD (j:=2 * i) (by omega)
   have hge:leB (n:Int) ((2 * i+1:Nat):Int)=true:=yQ (by omega)
   rw [DP]
   simp -implicitDefEqProofs only [rC,Tryz.f78,aP,hlen,h0,h1,h2,h7,hm,hw,hge,r5,↓az,nck,↓cbT,↓cbF,↓ao,an,eu,reduceCtorEq,reduceIte,aM,aK,aW,aF]
   exact ⟨_,K,T,rfl,by simp only [ls,hlen],by simp only [hlen,h1,gB,sevalprocAttr],⟨i,by simp only [hlen,h7,gB,sevalprocAttr]⟩,iC _,h,rfl,fun _ _=>rfl⟩
 | succ d ih =>
   intro i tm K T hd hin hn hi hT h hlen h0 h1 h2 h7
   have hm:eV .mul .i64 2 ((i:Nat):Int)=some (I ((2 * i:Nat):Int)):=by
     show some (AV.int .i64 (IntKind.i64.wrap (2 * (i:Int))))=_
     rw [show 2 * (i:Int)=((2 * i:Nat):Int) by omega,GC (by omega)]
   have hw:=cD (j:=2 * i) (by omega)
   have hw2:=cD (j:=2 * i+1) (by omega)
   have hrd:=h.rd
   rcases aY (2 * i+1) n with hlt | hge'
   case inr =>
     have hge:leB (n:Int) ((2 * i+1:Nat):Int)=true:=yQ (by omega)
     rw [DP]
     simp -implicitDefEqProofs only [rC,Tryz.f78,aP,hlen,h0,h1,h2,h7,hm,hw,hge,r5,↓az,nck,↓cbT,↓cbF,↓ao,an,eu,reduceCtorEq,reduceIte,aM,aK,aW,aF]
     exact ⟨_,K,T,rfl,by simp only [ls,hlen],by simp only [hlen,h1,gB,sevalprocAttr],⟨i,by simp only [hlen,h7,gB,sevalprocAttr]⟩,iC _,h,rfl,fun _ _=>rfl⟩
   have hge:leB (n:Int) ((2 * i+1:Nat):Int)=false:=UU (by omega)
   have hneg:ltB ((2 * i+1:Nat):Int) 0=false:=db (by omega)
   have key:∀ (j:Nat) (K1:AH) (T1:List Nat) (tm1:List AV) (Z:Option (bu × St)),i < j->j < n->T1.Perm T->T1.length=T.length->HpR K1 hb v T1->K1.length=K.length->(∀ c,bZ v≠some c->K1[c]? =K[c]?)->EvC aa C0 W0 plN EF (tm1,K1)=Z->tm1.length=48->tm1.getD 0 uA=.iface 100 (.ptr hb 0)->tm1.getD 1 uA=I (i0:Nat)->tm1.getD 2 uA=I (n:Nat)->tm1.getD 7 uA=I ((j:Nat):Int)->∃ X K' T',Z=some (.exit 0,(X,K'))/\X.length=48/\X.getD 1 uA=I (i0:Nat)/\(∃ e:Nat,X.getD 7 uA=I (e:Nat))/\T'.Perm T/\HpR K' hb v T'/\K'.length=K.length/\∀ c,bZ v≠some c->K'[c]? =K[c]?:=by
     intro j K1 T1 tm1 Z hij hjn hp hl1 hh hk hf hZ a a0 a1 a2 a7
     rw [<-hZ]
     obtain ⟨X,K',T',e1,e2,e2a,e2b,e3,e4,e5,e6⟩:=ih j tm1 K1 T1 (by omega) (by omega) (by omega) (by omega) (by omega) hh a a0 a1 a2 a7
     exact ⟨X,K',T',e1,e2,e2a,e2b,e3.trans hp,e4,by omega,fun c hc=>by rw [e6 c hc,hf c hc]⟩
   have hj1:2 * i+1 < T.length:=by omega
   rw [DP]
   rcases aY (2 * i+1+1) n with hlt2 | hge2
   case inr =>
     have hl2:ltB ((2 * i+1+1:Nat):Int) (n:Int)=false:=db (by omega)
     have hjT:2 * i+1 < T.length:=by omega
     have hLi:=BT h.sl hjT hi
     cases hci:ltB (T.getD (2 * i+1) 0:Nat) (T.getD i 0:Nat) with
     | false =>
       rw [hci] at hLi
       simp -implicitDefEqProofs only [rC,Tryz.f78,aP,hlen,h0,h1,h2,h7,hm,hw,hw2,hge,hneg,hrd,hLi,hl2,↓fC,q8,ng,m9,nf,qZ,mJ,Tryz.func49,show Tryz.f49.body.isSome=true from rfl,Tryz.func350,show Tryz.f350.body.isSome=true from rfl,Tryz.func351,show Tryz.f351.body.isSome=true from rfl,Tryz.func352,show Tryz.f352.body.isSome=true from rfl,Tryz.func353,show Tryz.f353.body.isSome=true from rfl,r5,↓az,nck,↓cbT,↓cbF,↓ao,an,eu,reduceCtorEq,reduceIte,aM,aK,aW,aF]
       exact ⟨_,K,T,rfl,by simp only [ls,hlen],by simp only [hlen,h1,gB,sevalprocAttr],⟨i,by simp only [hlen,h7,gB,sevalprocAttr]⟩,iC _,h,rfl,fun _ _=>rfl⟩
     | true =>
       rw [hci] at hLi
       obtain ⟨K1,h353,ho,hl1,hf⟩:=BS h.own hi hjT
       simp -implicitDefEqProofs only [rC,Tryz.f78,aP,hlen,h0,h1,h2,h7,hm,hw,hw2,hge,hneg,hrd,hLi,h353,hl2,↓fC,q8,ng,m9,nf,qZ,mJ,Tryz.func49,show Tryz.f49.body.isSome=true from rfl,Tryz.func350,show Tryz.f350.body.isSome=true from rfl,Tryz.func351,show Tryz.f351.body.isSome=true from rfl,Tryz.func352,show Tryz.f352.body.isSome=true from rfl,Tryz.func353,show Tryz.f353.body.isSome=true from rfl,r5,↓az,nck,↓cbT,↓cbF,↓ao,an,eu,reduceCtorEq,reduceIte,aM,aK,aW,aF]
       generalize hX:EvC aa C0 W0 plN _ _=Z
       exact key (2 * i+1) K1 _ _ Z (by omega) (by omega) (me hi hjT) (l7 _ _ _) (h.swap ho hf) hl1 hf hX (by simp only [ls,hlen]) (by simp only [hlen,h0,gB,sevalprocAttr]) (by simp only [hlen,h1,gB,sevalprocAttr]) (by simp only [hlen,h2,gB,sevalprocAttr]) (by simp only [hlen,gB,sevalprocAttr])
   have hl2:ltB ((2 * i+1+1:Nat):Int) (n:Int)=true:=cQ (by omega)
   have hj2:2 * i+1+1 < T.length:=by omega
   have hL2:=BT h.sl hj2 hj1
   cases hc2:ltB (T.getD (2 * i+1+1) 0:Nat) (T.getD (2 * i+1) 0:Nat) with
   | false =>
     rw [hc2] at hL2
     have hjT:2 * i+1 < T.length:=by omega
     have hLi:=BT h.sl hjT hi
     cases hci:ltB (T.getD (2 * i+1) 0:Nat) (T.getD i 0:Nat) with
     | false =>
       rw [hci] at hLi
       simp -implicitDefEqProofs only [rC,Tryz.f78,aP,hlen,h0,h1,h2,h7,hm,hw,hw2,hge,hneg,hrd,hLi,hl2,hL2,↓fC,q8,ng,m9,nf,qZ,mJ,Tryz.func49,show Tryz.f49.body.isSome=true from rfl,Tryz.func350,show Tryz.f350.body.isSome=true from rfl,Tryz.func351,show Tryz.f351.body.isSome=true from rfl,Tryz.func352,show Tryz.f352.body.isSome=true from rfl,Tryz.func353,show Tryz.f353.body.isSome=true from rfl,r5,↓az,nck,↓cbT,↓cbF,↓ao,an,eu,reduceCtorEq,reduceIte,aM,aK,aW,aF]
       exact ⟨_,K,T,rfl,by simp only [ls,hlen],by simp only [hlen,h1,gB,sevalprocAttr],⟨i,by simp only [hlen,h7,gB,sevalprocAttr]⟩,iC _,h,rfl,fun _ _=>rfl⟩
     | true =>
       rw [hci] at hLi
       obtain ⟨K1,h353,ho,hl1,hf⟩:=BS h.own hi hjT
       simp -implicitDefEqProofs only [rC,Tryz.f78,aP,hlen,h0,h1,h2,h7,hm,hw,hw2,hge,hneg,hrd,hLi,h353,hl2,hL2,↓fC,q8,ng,m9,nf,qZ,mJ,Tryz.func49,show Tryz.f49.body.isSome=true from rfl,Tryz.func350,show Tryz.f350.body.isSome=true from rfl,Tryz.func351,show Tryz.f351.body.isSome=true from rfl,Tryz.func352,show Tryz.f352.body.isSome=true from rfl,Tryz.func353,show Tryz.f353.body.isSome=true from rfl,r5,↓az,nck,↓cbT,↓cbF,↓ao,an,eu,reduceCtorEq,reduceIte,aM,aK,aW,aF]
       generalize hX:EvC aa C0 W0 plN _ _=Z
       exact key (2 * i+1) K1 _ _ Z (by omega) (by omega) (me hi hjT) (l7 _ _ _) (h.swap ho hf) hl1 hf hX (by simp only [ls,hlen]) (by simp only [hlen,h0,gB,sevalprocAttr]) (by simp only [hlen,h1,gB,sevalprocAttr]) (by simp only [hlen,h2,gB,sevalprocAttr]) (by simp only [hlen,gB,sevalprocAttr])
   | true =>
     rw [hc2] at hL2
     have hjT:2 * i+1+1 < T.length:=by omega
     have hLi:=BT h.sl hjT hi
     cases hci:ltB (T.getD (2 * i+1+1) 0:Nat) (T.getD i 0:Nat) with
     | false =>
       rw [hci] at hLi
       simp -implicitDefEqProofs only [rC,Tryz.f78,aP,hlen,h0,h1,h2,h7,hm,hw,hw2,hge,hneg,hrd,hLi,hl2,hL2,↓fC,q8,ng,m9,nf,qZ,mJ,Tryz.func49,show Tryz.f49.body.isSome=true from rfl,Tryz.func350,show Tryz.f350.body.isSome=true from rfl,Tryz.func351,show Tryz.f351.body.isSome=true from rfl,Tryz.func352,show Tryz.f352.body.isSome=true from rfl,Tryz.func353,show Tryz.f353.body.isSome=true from rfl,r5,↓az,nck,↓cbT,↓cbF,↓ao,an,eu,reduceCtorEq,reduceIte,aM,aK,aW,aF]
       exact ⟨_,K,T,rfl,by simp only [ls,hlen],by simp only [hlen,h1,gB,sevalprocAttr],⟨i,by simp only [hlen,h7,gB,sevalprocAttr]⟩,iC _,h,rfl,fun _ _=>rfl⟩
     | true =>
       rw [hci] at hLi
       obtain ⟨K1,h353,ho,hl1,hf⟩:=BS h.own hi hjT
       simp -implicitDefEqProofs only [rC,Tryz.f78,aP,hlen,h0,h1,h2,h7,hm,hw,hw2,hge,hneg,hrd,hLi,h353,hl2,hL2,↓fC,q8,ng,m9,nf,qZ,mJ,Tryz.func49,show Tryz.f49.body.isSome=true from rfl,Tryz.func350,show Tryz.f350.body.isSome=true from rfl,Tryz.func351,show Tryz.f351.body.isSome=true from rfl,Tryz.func352,show Tryz.f352.body.isSome=true from rfl,Tryz.func353,show Tryz.f353.body.isSome=true from rfl,r5,↓az,nck,↓cbT,↓cbF,↓ao,an,eu,reduceCtorEq,reduceIte,aM,aK,aW,aF]
       generalize hX:EvC aa C0 W0 plN _ _=Z
       exact key (2 * i+1+1) K1 _ _ Z (by omega) (by omega) (me hi hjT) (l7 _ _ _) (h.swap ho hf) hl1 hf hX (by simp only [ls,hlen]) (by simp only [hlen,h0,gB,sevalprocAttr]) (by simp only [hlen,h1,gB,sevalprocAttr]) (by simp only [hlen,h2,gB,sevalprocAttr]) (by simp only [hlen,gB,sevalprocAttr])
theorem ZX {K:AH} {hb n:Nat} {v:AV} {T:List Nat} (h:HpR K hb v T) (hn:n < T.length) (hT:T.length<=2000):∃ bb K' T',Ev aa C0 W0 78 [.iface 100 (.ptr hb 0),I 0,I (n:Nat)] K=some (.bool bb,K')/\T'.Perm T/\HpR K' hb v T'/\K'.length=K.length/\∀ c,bZ v≠some c->K'[c]? =K[c]?:=by
 obtain ⟨tm,ht,g0,g1,g2,g3⟩:=tm3 (.iface 100 (.ptr hb 0)) (I 0) (I (n:Nat)) 48 (by decide)
 rw [YH,ht]
 simp -implicitDefEqProofs only [c78,Tryz.f78,aP,g0,g1,g2,g3,r5,↓az,nck,↓cbT,↓cbF,↓ao,an,eu,reduceCtorEq,reduceIte,aM,aK,aW,aF]
 generalize hX:EvC aa C0 W0 plN _ _=Z
 have key:∀ (tm1:List AV),EvC aa C0 W0 plN EF (tm1,K)=Z->tm1.length=48->tm1.getD 0 uA=.iface 100 (.ptr hb 0)->tm1.getD 1 uA=I ((0:Nat):Int)->tm1.getD 2 uA=I (n:Nat)->tm1.getD 7 uA=I ((0:Nat):Int)->∃ X K' T',Z=some (.exit 0,(X,K'))/\X.length=48/\X.getD 1 uA=I (0:Nat)/\(∃ e:Nat,X.getD 7 uA=I (e:Nat))/\T'.Perm T/\HpR K' hb v T'/\K'.length=K.length/\∀ c,bZ v≠some c->K'[c]? =K[c]?:=by
   intro tm1 hZ a a0 a1 a2 a7
   rw [<-hZ]
   exact SM n 0 tm1 K T (by omega) (fy _) (by omega) (by omega) hT h a a0 a1 a2 a7
 obtain ⟨X,K',T',e1,e2,e2a,⟨e,e2b⟩,e3,e4,e5,e6⟩:=key _ hX (by simp only [ls,g0]) (by simp only [g0,g1,gB,sevalprocAttr]) (by simp only [g0,g2,gB,sevalprocAttr]; try rfl) (by simp only [g0,g3,gB,sevalprocAttr]) (by simp only [g0,g2,gB,sevalprocAttr]; try rfl)
 subst e1
 simp -implicitDefEqProofs only [c78,Tryz.f78,aP,e2,e2a,e2b,r5,↓az,nck,↓cbT,↓cbF,↓ao,an,eu,reduceCtorEq,reduceIte,aM,aK,aW,aF]
 exact ⟨_,K',T',rfl,e3,e4,e5,e6⟩
theorem Wt {K:AH} {hb:Nat} {v:AV} {T:List Nat} (h:HpR K hb v T) (hN:T.length<=1000) (x:Nat):∃ v' K' T',Ev aa C0 W0 48 [.iface 100 (.ptr hb 0),.iface 3 (I (x:Nat))] K=some (.tuple [],K')/\T'.Perm (T++[x])/\HpR K' hb v' T'/\Fr hb v v' K K':=by
 obtain ⟨tm,ht,g0,g1,g2⟩:=tm2 (.iface 100 (.ptr hb 0)) (.iface 3 (I (x:Nat))) 12 (by decide)
 rw [Y6,ht]
 obtain ⟨v',K1,h352,hp1,hf1⟩:=Ww h hN x
 have hrd:=hp1.rd
 have h49:=SD hp1.sl
 rw [ai,List.length_singleton] at h49
 have hs:IntKind.i64.wrap (((T.length+1:Nat):Int) - 1)=(T.length:Int):=by rw [show (((T.length+1:Nat):Int) - 1)=(T.length:Int) by omega]; exact GC (by omega)
 obtain ⟨K2,T2,h77,e3,e4,e5,e6⟩:=ZY (j:=T.length) hp1 (by simp) (by simp; omega)
 simp -implicitDefEqProofs only [c48,Tryz.f48,aP,g0,g1,g2,h352,hrd,h49,hs,↓Zy,h77,↓fC,q8,ng,m9,nf,qZ,mJ,Tryz.func49,show Tryz.f49.body.isSome=true from rfl,Tryz.func350,show Tryz.f350.body.isSome=true from rfl,Tryz.func351,show Tryz.f351.body.isSome=true from rfl,Tryz.func352,show Tryz.f352.body.isSome=true from rfl,Tryz.func353,show Tryz.f353.body.isSome=true from rfl,r5,↓az,nck,↓cbT,↓cbF,↓ao,an,eu,reduceCtorEq,reduceIte,aM,aK,aW,aF]
 exact ⟨v',K2,T2,rfl,e3,e4,hf1.trans (Fr.own e5 e6)⟩
theorem aag {K:AH} {hb:Nat} {v:AV} {T:List Nat} (h:HpR K hb v T) (hN:T.length<=1000) (hT:0 < T.length):∃ x T0 v' K',Ev aa C0 W0 50 [.iface 100 (.ptr hb 0)] K=some (.iface 3 (I (x:Nat)),K')/\(x::T0).Perm T/\HpR K' hb v' T0/\Fr hb v v' K K':=by
 obtain ⟨tm,ht,g0,g1⟩:=tm1 (.iface 100 (.ptr hb 0)) 15 (by decide)
 rw [Y1,ht]
 obtain ⟨n,hn⟩:∃ n,T.length=n+1:=⟨T.length - 1,by omega⟩
 have hrd:=h.rd
 have h49:=SD h.sl
 rw [hn] at h49
 have hs:IntKind.i64.wrap (((n+1:Nat):Int) - 1)=(n:Int):=by rw [show (((n+1:Nat):Int) - 1)=(n:Int) by omega]; exact GC (by omega)
 obtain ⟨K1,h353,ho,hl1,hf⟩:=BS (i:=0) (j:=n) h.own (by omega) (by omega)
 have hp1:=h.swap ho hf
 have hp1l:(so T 0 n).length=n+1:=by rw [l7]; exact hn
 have h353':Ev aa C0 W0 353 [v,I 0,I (n:Nat)] K=some (.tuple [],K1):=h353
 obtain ⟨bb,K2,T2,h78,e3,e4,e5,e6⟩:=ZX (n:=n) hp1 (by omega) (by omega)
 have hT2:T2.length=n+1:=by rw [e3.length_eq,hp1l]
 obtain ⟨T0,x,hT0⟩:∃ T0 x,T2=T0++[x]:=by
   rcases List.eq_nil_or_concat T2 with e | ⟨T0,x,e⟩
   · rw [e] at hT2; simp at hT2
   · exact ⟨T0,x,by rw [e]; simp⟩
 rw [hT0] at e4
 have hrd1:=hp1.rd
 obtain ⟨v',K3,h351,hp3,hf3⟩:=Wx e4 (by rw [hT0,ai] at hT2; simp at hT2; omega)
 simp -implicitDefEqProofs only [c50,Tryz.f50,aP,g0,g1,show ofV 6 Value.nilIface=some .nilIface from rfl,hrd,hrd1,h49,hs,h353',↓Zx,h78,h351,↓fC,q8,ng,m9,nf,qZ,mJ,Tryz.func49,show Tryz.f49.body.isSome=true from rfl,Tryz.func350,show Tryz.f350.body.isSome=true from rfl,Tryz.func351,show Tryz.f351.body.isSome=true from rfl,Tryz.func352,show Tryz.f352.body.isSome=true from rfl,Tryz.func353,show Tryz.f353.body.isSome=true from rfl,r5,↓az,nck,↓cbT,↓cbF,↓ao,an,eu,reduceCtorEq,reduceIte,aM,aK,aW,aF]
 refine ⟨x,T0,v',K3,rfl,?_,hp3,(Fr.own hl1 hf).trans ((Fr.own e5 e6).trans hf3)⟩
 have:(x::T0).Perm T2:=by rw [hT0]; exact (List.perm_append_singleton x T0).symm
 exact this.trans (e3.trans (me (by omega) (by omega)))
def nkB (x:Itm):Bool:=!eqB x.kind 0
def gI (ss:List (List Itm)):List (List Itm):=ss.map (·.filter nkB)
theorem yF {G K:AH} {v:AV} (hA:al G K) (hv:∀ i,bZ v=some i->G.length<=i):Sub G (bC v K):=fun i o hi _=>by
 rw [cI fun e=>by have:=hv i e; have:=aJ hi; omega]
 exact hA.get hi
theorem G7 {es n:Nat} {v:AV} {b i:Nat} (h:bZ (bl es n v b)=some i):b<=i:=by
 unfold bl at h
 split at h
 · cases h
 · split at h
   · cases h; exact ax _
   · cases h; exact Nat.le_succ _
theorem JQ (l:List (Itm × AV)):(l.filter dL).map (·.1)=(l.map (·.1)).filter nkB:=by
 rw [List.filter_map]; rfl
theorem Tk {G:AH} {ss:List (List Itm)} {vc vm vs:AV} (hs:da G ss vs) (hn4:ss.length<=100) (hl24:∀ l∈ss,l.length<=1000):∀ (d j:Nat) (tm:List AV) (K:AH),ss.length - j=d->j<=ss.length->(tm.length=158/\tm.getD 0 uA=vc/\tm.getD 1 uA=vm/\tm.getD 2 uA=vs/\tm.getD 36 uA=vs/\tm.getD 37 uA=I ss.length/\tm.getD 38 uA=I ((j:Nat):Int)/\al G K/\∃ v ws,tm.getD 9 uA=v/\Own G.length K 1 31 v ws/\ws.length=j/\∀ i,i < j->dA (bC v K) ((aR ss i).filter nkB) (ws.getD i uA)) ->
   ∃ X K1,EvC aa C0 W0 iV JK (tm,K)=some (.exit 0,(X,K1))/\(X.length=158/\X.getD 0 uA=vc/\X.getD 1 uA=vm/\X.getD 2 uA=vs/\X.getD 36 uA=vs/\X.getD 37 uA=I ss.length/\X.getD 38 uA=I ((ss.length:Nat):Int)/\al G K1/\∃ v ws,X.getD 9 uA=v/\Own G.length K1 1 31 v ws/\ws.length=ss.length/\∀ i,i < ss.length->dA (bC v K1) ((aR ss i).filter nkB) (ws.getD i uA)):=by
 intro d
 induction d with
 | zero =>
   intro j tm K hd hj hI
   have hjl:j=ss.length:=by omega
   subst hjl
   obtain ⟨hlen,h0,h1,h2,h36,h37,h38,hA,v,ws,h9,hR⟩:=hI
   have hlt:ltB (ss.length:Nat) (ss.length:Nat)=false:=db (by omega)
   rw [LC]
   simp -implicitDefEqProofs only [FC,Tryz.f19,aP,hlen,h0,h1,h2,h36,h37,h38,hlt,↓cbT,↓cbF,↓ao,an,eu,sevalprocAttr]
   exact ⟨_,K,rfl,by simp only [ls,hlen],Aj6 (by simp only [hlen,h0,h1,h2,h36,h37,h38,gB,and_self,sevalprocAttr]) ⟨hA,v,ws,by simp only [hlen,h9,gB,sevalprocAttr],hR⟩⟩
 | succ d ih =>
   intro j tm K hd hj hI
   obtain ⟨hlen,h0,h1,h2,h36,h37,h38,hA,v,ws,h9,hov,hwl,hR⟩:=hI
   have hjN:j < ss.length:=by omega
   have hlt:ltB (j:Int) (ss.length:Nat)=true:=cQ (by omega)
   have hw:=cD (j:=j) (by omega)
   obtain ⟨i0,k0,v0,hix,hrd,hx⟩:=hs.at hA hjN
   have hl1000:=hl24 _ (gO hjN)
   have hrd:=hrd []
   rw [af] at hrd
   obtain ⟨⟨l,hl1,hl2,hl3⟩,xn,xa,xi,xw⟩:=hx
   have hll:l.length=(aR ss j).length:=by rw [<-hl1,au]
   have h46:=aah (hl2.same hA) (eU l) (il b34 (by rw [au]; omega)) []
   rw [af,List.nil_append,List.length_nil,Nat.add_zero,au] at h46
   have o1:=ky (E:=34) (es:=9) (G:=K) (v:=v0) (xs:=(l.map dQ).flatten) (n:=l.length) (by decide) (by rw [dP (eU l),au]) (fun e=>by have:=mi hl2 e; have h2:l.map dQ=[]:=this; rw [h2]; rfl)
   have hAK:=al.app K (bh 34 v0 (l.map dQ).flatten)
   have h46':Ev aa C0 W0 46 [v0] K=some (bl 9 l.length v0 K.length,K++bh 34 v0 (l.map dQ).flatten):=h46
   clear h46
   have hcb:∀ i,bZ (bl 9 l.length v0 K.length)=some i->K.length<=i:=fun i hi=>G7 hi
   generalize bl 9 l.length v0 K.length=cv at *
   generalize K++bh 34 v0 (l.map dQ).flatten=K1 at *
   have hA1:=hA.trans hAK
   have hI1:dA K1 (l.map (·.1)) cv:=⟨⟨l,rfl,o1.nz mL (by decide) (eU l),fun p hp=>(hl3 p hp).same hA1⟩,by rw [hl1]; exact xn,by rw [hl1]; exact xa,by rw [hl1]; exact xi,by rw [hl1]; exact xw⟩
   have hG1:Sub G (bC cv K1):=yF hA1 fun i hi=>bc hA.len (hcb i hi)
   obtain ⟨cv',K2,h45,hAg,hbk,ho2⟩:=aai o1 hI1 fun p hp=>(hl3 p hp).sub hG1
   have hsh:=ho2.sh
   have hcc:=ho2.cells
   have hb25:=Qr hcc hsh K2
   have hvb:∀ i,bZ v=some i->G.length<=i/\i < K.length:=fun i hi=>gH hov hi
   have hK12:∀ c,c < K.length->K2[c]? =K[c]?:=fun c hc=>by
     rw [hAg.2 c (bm hc hAK.len) fun e=>by have:=hcb c e; omega,hAK c hc]
   have hK2l:K.length<=K2.length:=bc hAK.len hAg.1
   have hov2:Own G.length (K2++[.cells [cv'] 31]) 1 31 v ws:=hov.other fun i k e len cap ex hv=>by
     have:=(hvb i (by rw [hv]; rfl)).2
     rw [aq (by omega),hK12 i this]
   have hlv:=hov.length
   obtain ⟨v',K3,happ,hov',hll3,hsame,hblk⟩:=wh Mi hov2 (by rw [ai]; exact bc hA.len (bc hK2l (Nat.le_add_right _ _))) (x:=.slice K2.length 0 1 1 1 true) (new:=[cv']) (.at _ _ _ _ _ _ (by
     unfold ak
     rw [aw (ax _),dI]; rfl)) (by simp [hcc.2]) (il b31 (by rw [cg]; omega))
   have hKK:∀ c,c < K.length->bZ v≠some c->K3[c]? =K[c]?:=fun c hc hne=>by
     rw [hsame c (by rw [ai]; omega) hne,aq (by omega),hK12 c hc]
   have hAn:al G K3:=fun c hc=>by
     rw [hKK c (bm hc hA.len) fun e=>by have:=(hvb c e).1; omega,hA c hc]
   have hGv':∀ i,bZ v'=some i->G.length<=i:=fun i hi=>by
     rcases hblk i hi with e | e
     · exact (hvb i e).1
     · rw [ai] at e; have:=hA.len; omega
   have hSub:Sub (bC v K) (bC v' K3):=fun i ob hi hne=>by
     have hvi:bZ v≠some i:=fun e=>(mm (K:=K) e).ne hi hne rfl
     rw [cI hvi] at hi
     have hil:=aJ hi
     rw [cI fun e=>by
       rcases hblk i e with e2 | e2
       · exact hvi e2
       · rw [ai] at e2; omega,hKK i hil hvi]
     exact hi
   have hnew:dA (bC v' K3) ((aR ss j).filter nkB) cv':=by
     have hob:Own K.length (bC v' K3) 9 34 cv' ((l.filter dL).map dQ).flatten:=ho2.other fun i k e len cap ex hv=>by
       have hi:bZ cv'=some i:=by rw [hv]; rfl
       have hiK2:=(gH ho2 hi).2
       have hiK:=(gH ho2 hi).1
       have hvi:bZ v≠some i:=fun e=>by have:=(hvb i e).2; omega
       rw [cI fun e=>by
         rcases hblk i e with e2 | e2
         · exact hvi e2
         · rw [ai] at e2; omega,hsame i (by rw [ai]; omega) hvi,aq hiK2]
     refine ⟨⟨l.filter dL,by rw [JQ,hl1],hob.nz mL (by decide) (eU _),fun p hp=>(hl3 p (gf.1 hp).1).sub (yF hAn hGv')⟩,Nat.lt_of_le_of_lt (List.length_filter_le _ _) xn,fun x hx=>xa x (gf.1 hx).1,fun x hx=>xi x (gf.1 hx).1,fun x hx=>xw x (gf.1 hx).1⟩
   rw [LC]
   simp -implicitDefEqProofs only [FC,Tryz.f19,aP,hlen,h0,h1,h2,h36,h37,h38,h9,hlt,hw,hix,hrd,↓ZD,h46',↓ZE,show ∀ gl tm,cz gl tm (.func 47)=some (.func (.func 47) [] []) from fun _ _=>rfl,h45,hb25,happ,r5,↓az,nck,↓cbT,↓cbF,↓ao,an,eu,sevalprocAttr]
   refine ih (j+1) _ K3 (by omega) (by omega) ⟨by simp only [ls,hlen],Aj6 (by simp only [hlen,h0,h1,h2,h36,h37,gB,and_self,sevalprocAttr]) ⟨hAn,v',ws++[cv'],by simp only [hlen,gB,sevalprocAttr],hov',by rw [ai,hwl]; rfl,fun i hi=>?_⟩⟩
   rcases aY i j with c | c
   · rw [gde,aq (by omega),<-gde]
     exact (hR i c).sub hSub
   · have:i=j:=by omega
     subst this
     rw [gde,aw (by omega),hwl,dI]
     exact hnew
theorem Hc {G K:AH} {ss:List (List Itm)} {v:AV} {ws:List AV} (hov:Own G.length K 1 31 v ws) (hwl:ws.length=ss.length) (hn:ss.length < 2 ^ 50) (hR:∀ i,i < ss.length->dA (bC v K) ((aR ss i).filter nkB) (ws.getD i uA)):da K (gI ss) v:=by
 refine ⟨⟨wo (gI ss) ws,List.map_fst_zip (by unfold gI; rw [au]; omega),?_,fun p hp=>?_⟩,by unfold gI; rw [au]; exact hn⟩
 · have e:(wo (gI ss) ws).map (fun p=>[p.2])=ws.map fun w=>[w]:=by
     have:=congrArg (List.map fun w=>[w]) (List.map_snd_zip (l₁:=gI ss) (l₂:=ws) (by unfold gI; rw [au]; omega))
     rw [List.map_map] at this
     exact this
   rw [e]
   refine Own.nz (elem:=31) (b:=G.length) BC (by decide) (rows:=ws.map fun w=>[w]) ?_ (fun r hr=>by obtain ⟨w,_,rfl⟩:=List.mem_map.1 hr; rfl)
   rw [show (ws.map fun w=>[w]).flatten=ws from by
     have:=pF (fun w:AV=>w) ws
     simpa using this]
   exact hov
 · obtain ⟨i,hi⟩:=List.mem_iff_getElem?.1 hp
   obtain ⟨h1,h2⟩:=List.getElem?_zip_eq_some.1 hi
   have hil:i < ss.length:=by have:=aJ h2; omega
   have:=(hR i hil).sub (yT v K)
   have e1:p.1=(aR ss i).filter nkB:=by
     unfold gI at h1
     rw [aI,ny hil] at h1
     exact (aC h1).symm
   have e2:p.2=ws.getD i uA:=by rw [gde,h2]; rfl
   rw [e1,e2]; exact this
def mx2:AV->AV->Option Int
 | .int .i64 a,.int .i64 b=>some (if b > a then b else a)
 | _,_=>none
theorem PV (a b:Int):mx2 (I a) (I b)=some (if b > a then b else a):=rfl
theorem OH {x y:AV} {n:Int} (h:mx2 x y=some n):∃ a b,x=I a/\y=I b/\n=if b > a then b else a:=by
 unfold mx2 at h
 split at h
 · exact ⟨_,_,rfl,rfl,(aC h).symm⟩
 · cases h
theorem Gn {ev:Operand->Option AV} {x y:Operand} {a b:Int} (hx:ev x=some (I a)) (hy:ev y=some (I b)) (dst:Option Tmp) (ty:TypeId) (pos:String) (after:Array Edge) (g:Option (Nat × Bool)) (t u:TypeId) :
   cM aa ev ⟨dst,.call ⟨.builtin .max,#[x,y],#[t,u]⟩,ty,pos,after,g⟩=some (.val (I (if b > a then b else a))):=by
 simp [cM,notSelect,Op.operands,Call.operands,hx,hy,toV,execOp,jT,fY,resolve,invoke,builtin,Builtin.max_,Builtin.max2,mG,bind,Sem.bind,pure]
theorem zr {C:Cfg aa} {slot:Option Nat} {ev:Operand->Option AV} {H:AH} (dst:Option Tmp) (ty:TypeId) (pos:String) (after:Array Edge) (g:Option (Nat × Bool)) (x y:Operand) (t u:TypeId) :
   fN aa C slot ev ⟨dst,.call ⟨.builtin .max,#[x,y],#[t,u]⟩,ty,pos,after,g⟩ ⟨.builtin .max,#[x,y],#[t,u]⟩ H=(ev x).bind fun a=>(ev y).bind fun b=>match mx2 a b with
     | some n=>some (.val (I n),H)
     | none=>(cM aa ev ⟨dst,.call ⟨.builtin .max,#[x,y],#[t,u]⟩,ty,pos,after,g⟩).map fun n=>(n,H):=by
 unfold fN
 simp only [evL]
 cases hx:ev x with
 | none=>rfl
 | some a =>
   cases hy:ev y with
   | none=>rfl
   | some b =>
     simp only [ay,cE]
     cases hm:mx2 a b with
     | none=>rfl
     | some n =>
       obtain ⟨p,q,rfl,rfl,rfl⟩:=OH hm
       rw [Gn hx hy]; rfl
end Go.Dv
namespace Go.Dv
open Go.Proofs
abbrev slN (b n:Nat):AV:=.slice b 0 1 n n true
def oQ (K:AH) (b:Nat) (l:List Nat):Prop:=K[b]? =some (.cells (iv1 l) 3)
theorem ixN {N i:Nat} (b:Nat) (h:i < N) (kk:IntKind):aG aa 30 (slN b N) (.int kk (i:Int))=some (.ptr b i):=by
 rw [xu.ia,if_pos ⟨by omega,by omega,rfl⟩]
 simp
theorem Sn {l:List Nat} {i:Nat} (h:i < l.length):(iv1 l)[i]? =some (I ((l.getD i 0:Nat):Int)):=by
 unfold iv1
 rw [aI,aj h,gde,aj h]; rfl
theorem oQ.rd {K:AH} {b:Nat} {l:List Nat} (h:oQ K b l) {i:Nat} (hi:i < l.length):ak K b i 1=some [I ((l.getD i 0:Nat):Int)]:=by
 unfold ak
 rw [show K[b]? =_ from h]
 simp only [iX]
 rw [if_pos (by omega)]
 have:=Sn hi
 congr 1
 rw [List.drop_eq_getElem_cons (by rw [iX]; exact hi)]
 rw [aj (by rw [iX]; exact hi)] at this
 rw [aC this]; rfl
theorem oQ.wr {K:AH} {b:Nat} {l:List Nat} (h:oQ K b l) {i:Nat} (hi:i < l.length) (x:Nat):bp K b i [I (x:Int)]=some (K.set b (.cells (iv1 (l.set i x)) 3)):=by
 unfold bp
 rw [show K[b]? =_ from h]
 simp only [iX]
 rw [if_pos ⟨by simp; omega,rfl⟩,Ac]; rfl
theorem oQ.set {K:AH} {b:Nat} {l:List Nat} (h:oQ K b l) (m:List Nat):oQ (K.set b (.cells (iv1 m) 3)) b m:=by
 unfold oQ
 rw [List.getElem?_set_self (aJ h)]
theorem oQ.other {K:AH} {b c:Nat} {l m:List Nat} (h:oQ K b l) (hne:b≠c):oQ (K.set c (.cells (iv1 m) 3)) b l:=by
 unfold oQ
 rw [aB (Ne.symm hne)]; exact h
theorem UO (G:AH) (b n:Nat):dR aa 30 G (slN b n)=some (I (n:Nat)):=xu.ln _ _ _ _ _ _ _
theorem zE {G K:AH} (h:al G K) {b:Nat} (hb:G.length<=b) (o:bo):al G (K.set b o):=fun j hj=>by
 rw [aB (by omega)]; exact h j hj
theorem Po (l:List Nat) (q y z:Nat) (hy:l[q]? =some y):(l.take (q+1)).count z=(l.take q).count z+if y=z then 1 else 0:=by
 have hq:=aJ hy
 rw [List.take_add_one,hy]
 simp [List.count_append,List.count_singleton]
structure WvS (G K:AH) (a ob wb:Nat) (iv av:AV) (N:Nat) (w b:List Nat):Prop where
 ag:al G K
 pc:K[a]? =some (.cells [iv,av] 93)
 fo:oQ K ob w
 fb:oQ K wb b
 lw:w.length=N
 lb:b.length=N
 n1:ob≠wb
 n2:a≠ob
 n3:a≠wb
 go:G.length<=ob
 gb:G.length<=wb
theorem WvS.HU {G K:AH} {a ob wb N:Nat} {iv av:AV} {w b:List Nat} (h:WvS G K a ob wb iv av N w b) {b':List Nat} (hl:b'.length=N):WvS G (K.set wb (.cells (iv1 b') 3)) a ob wb iv av N w b':=
 { h with ag:=zE h.ag h.gb _,pc:=by rw [aB (Ne.symm h.n3)]; exact h.pc,fo:=h.fo.other h.n1,fb:=h.fb.set b',lb:=hl }
theorem WvS.Ra {G K:AH} {a ob wb N:Nat} {iv av:AV} {w b:List Nat} (h:WvS G K a ob wb iv av N w b) {w':List Nat} (hl:w'.length=N):WvS G (K.set ob (.cells (iv1 w') 3)) a ob wb iv av N w' b:=
 { h with ag:=zE h.ag h.go _,pc:=by rw [aB (Ne.symm h.n2)]; exact h.pc,fb:=h.fb.other (Ne.symm h.n1),fo:=h.fo.set w',lw:=hl }
theorem WvS.rdp {G K:AH} {a ob wb N:Nat} {iv av:AV} {w b:List Nat} (h:WvS G K a ob wb iv av N w b):ak K a 1 1=some [av]:=by
 unfold ak; rw [h.pc]; rfl
structure HpS (G:AH) (a ob wb hb:Nat) (v:AV):Prop where
 c1:hb≠a
 c2:hb≠ob
 c3:hb≠wb
 c4:G.length<=hb
 v1:bZ v≠some a
 v2:bZ v≠some ob
 v3:bZ v≠some wb
 v4:∀ i,bZ v=some i->G.length<=i
theorem WvS.fr {G K K':AH} {a ob wb N hb:Nat} {iv av v v':AV} {w b:List Nat} (h:WvS G K a ob wb iv av N w b) (hh:HpS G a ob wb hb v) (hf:Fr hb v v' K K'):WvS G K' a ob wb iv av N w b/\HpS G a ob wb hb v':=by
 have k:∀ c,c < K.length->c≠hb->bZ v≠some c->K'[c]? =K[c]?:=hf.2.1
 have la:=aJ h.pc
 have lo:=aJ h.fo
 have lb:=aJ h.fb
 have lg:=h.ag.len
 refine ⟨{ h with ag:=fun i hi=>?_,pc:=?_,fo:=?_,fb:=?_ },{ hh with v1:=?_,v2:=?_,v3:=?_,v4:=?_ }⟩
 · rw [k i (by omega) (by have:=hh.c4; omega) fun e=>by have:=hh.v4 i e; omega]; exact h.ag i hi
 · rw [k a la (Ne.symm hh.c1) hh.v1]; exact h.pc
 · unfold oQ; rw [k ob lo (Ne.symm hh.c2) hh.v2]; exact h.fo
 · unfold oQ; rw [k wb lb (Ne.symm hh.c3) hh.v3]; exact h.fb
 · intro e; rcases hf.2.2 _ e with e | e
   · exact hh.v1 e
   · omega
 · intro e; rcases hf.2.2 _ e with e | e
   · exact hh.v2 e
   · omega
 · intro e; rcases hf.2.2 _ e with e | e
   · exact hh.v3 e
   · omega
 · intro i e; rcases hf.2.2 _ e with e | e
   · exact hh.v4 i e
   · omega
theorem HpR.Ul {K:AH} {hb c:Nat} {v:AV} {T:List Nat} (h:HpR K hb v T) (h1:hb≠c) (h2:bZ v≠some c) (o:bo):HpR (K.set c o) hb v T:=
 ⟨by rw [aB (Ne.symm h1)]; exact h.cell,h.own.other fun i k es len cap ex hv=>aB fun e=>h2 (by rw [hv,e]; rfl),h.ne⟩
def cn (A:List (List Nat)) (j y:Nat):Nat:=((bn j).map fun x=>(A.getD x []).count y).sum
theorem Fh (A:List (List Nat)) (j y:Nat):cn A (j+1) y=cn A j y+(A.getD j []).count y:=by
 unfold cn; rw [kh,List.map_append,List.sum_append]; simp
theorem LV (A:List (List Nat)) (N y:Nat):cn A N y=Qu.rem A N [] y:=by
 unfold cn Qu.rem
 have h:(bn N).filter (fun x=>!([]:List Nat).contains x)=bn N:=List.filter_eq_self.2 fun x _=>rfl
 rw [h]
theorem LW {A:List (List Nat)} (hA:∀ l∈A,l.length < 2 ^ 20) (y:Nat):∀ j,cn A j y<=j * 2 ^ 20
 | 0=>by simp [cn]
 | j+1=>by
   rw [Fh]
   have h1:=LW hA y j
   have h2:=List.count_le_length (a:=y) (l:=A.getD j [])
   have h3:(A.getD j []).length<=2 ^ 20:=by
     rw [gde]
     cases h:A[j]? with
     | none=>simp
     | some l=>exact Nat.le_of_lt (hA l (List.mem_of_getElem? h))
   omega
theorem OQ {A:List (List Nat)} {N:Nat} {b:List Nat} (hl:b.length=N) (hb:∀ y,y < N->b.getD y 0=cn A N y):Qu.KO A N [] (List.replicate N 0) b ((bn N).filter fun y=>b.getD y 0 == 0) where
 lw:=List.length_replicate
 lb:=hl
 nd:=List.nodup_nil
 dN:=fun d hd=>by simp at hd
 d0:=fun d hd=>by simp at hd
 hb:=fun y hy=>by rw [hb y hy,LV]
 tn:=List.nodup_range.filter _
 tm:=fun y=>by simp [gf]
 w1:=fun d hd=>by simp at hd
 w2:=fun y hy=>.inl (by rw [gde,ki]; split <;> rfl)
 w3:=fun y hy=>by rw [gde,ki]; split <;> simp
theorem yz (b:List Nat) (j:Nat):(bn (j+1)).filter (fun y=>b.getD y 0 == 0)=(bn j).filter (fun y=>b.getD y 0 == 0)++if b.getD j 0=0 then [j] else []:=by
 rw [kh,List.filter_append]
 by_cases h:b.getD j 0=0
 · rw [if_pos h]; simp only [Hs,MJ,h]; rfl
 · rw [if_neg h]
   have:(b.getD j 0 == 0)=false:=by simpa using h
   simp only [Hs,MJ,this]; rfl
end Go.Dv
