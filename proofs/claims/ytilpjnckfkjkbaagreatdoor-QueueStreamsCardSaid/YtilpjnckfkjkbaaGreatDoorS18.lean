/- Part 18 of the walks (own work). -/
import Derived.Test.YtilpjnckfkjkbaaGreatDoorS17
open Bool renaming not_eq_true'→ba
open List renaming any_cons→eE,any_nil→fi,any_toArray→dz,append_assoc→aE,append_nil→af,getElem?_append_right→aw,getElem?_eq_getElem→aj,length_append→ai,length_map→au,length_set→ar,mem_iff_getElem→fO,mem_map→bY,mem_map_of_mem→g6,replicate→aA,take_add_one→fW,take_length→gx,zip→wo
open Nat renaming add_assoc→bV,le_of_lt→vD,le_refl→ax,sub_self→dI,zero_add→cu
open Option renaming bind_some→ay,map→wm
open Go.Proofs.Tryz renaming prog→aa
set_option maxRecDepth 100000
set_option maxHeartbeats 4000000
set_option linter.unusedSimpArgs false
set_option linter.unusedVariables false
namespace Go.Dv
open Go.Proofs
attribute [local congr] aH bP bj bO bQ
theorem ints_at {H K:AH} {v:AV} {l:List Nat} (hs:SlS 30 1 H v (ints l)) (hA:al H K) {j:Nat} (hj:j < l.length):∃ i k,(∀ kk,aG aa 30 v (.int kk (j:Int))=some (.ptr i k))/\∀ L,ak (K++L) i k 1=some [I ((l.getD j 0:Nat):Int)]:=by
 obtain ⟨i,k,hi,hr⟩:=hs.ix j [I ((l.getD j 0:Nat):Int)] (by
   unfold ints
   rw [List.getElem?_map,aj hj,gde,aj hj]; rfl)
 exact ⟨i,k,hi,fun L=>jB hr hA L⟩
theorem mM {H:AH} {v:AV} {l:List Nat} (hs:SlS 30 1 H v (ints l)) (G:AH):dR aa 30 G v=some (I l.length):=by
 have:=hs.len G
 unfold ints at this
 rwa [au] at this
theorem yo (l:List Nat) {j:Nat} (hj:j < l.length):(l.take (j+1)).sum=(l.take j).sum+l.getD j 0:=by
 rw [fW,aj hj,List.sum_append,gde,aj hj]; simp
theorem Ue {G:AH} {v:AV} {l:List Nat} (hs:SlS 30 1 G v (ints l)) (hb:l.sum < 2 ^ 40) (hN:l.length < 2 ^ 60):∀ (d j:Nat) (tm:List AV) (K:AH),l.length - j=d->j<=l.length->(tm.length=18/\al G K/\tm.getD 7 uA=v/\tm.getD 8 uA=I l.length/\tm.getD 9 uA=I ((j:Nat):Int)/\tm.getD 3 uA=I (((l.take j).sum:Nat):Int)) ->
   ∃ X K1,EvC aa C0 W0 plN EO (tm,K)=some (.exit 0,(X,K1))/\(X.length=18/\al G K1/\X.getD 7 uA=v/\X.getD 8 uA=I l.length/\X.getD 9 uA=I ((l.length:Nat):Int)/\X.getD 3 uA=I (((l.take l.length).sum:Nat):Int)):=by
 intro d
 induction d with
 | zero =>
   intro j tm K hd hj hI
   have hjl:j=l.length:=by omega
   subst hjl
   have hI0:=hI
   obtain ⟨hlen,hA,h7,h8,h9,h3⟩:=hI
   have hlt:ltB (((l.length:Nat)):Int) (l.length:Nat)=false:=db (by omega)
   rw [Lp]
   simp -implicitDefEqProofs only [Fs,Tryz.f36,aP,hlen,h7,h8,h9,h3,hlt,↓cbT,↓cbF,↓ao,an,eu,sevalprocAttr]
   refine ⟨_,K,rfl,?_⟩
   exact ⟨by first | exact hlen | simp only [ar,hlen],hA,by simp only [hlen,h7,h8,h9,h3,gB,and_self,sevalprocAttr]⟩
 | succ d ih =>
   intro j tm K hd hj hI
   have hI0:=hI
   obtain ⟨hlen,hA,h7,h8,h9,h3⟩:=hI
   have hjN:j < l.length:=by omega
   have hlt:ltB (j:Int) (l.length:Nat)=true:=cQ (by omega)
   have hw:=cD (j:=j) (by omega)
   obtain ⟨i,k,hix,hrd⟩:=ints_at hs hA hjN
   have hsum:=yo l hjN
   have hle:=AU l (j+1)
   have hadd:IntKind.i64.wrap ((((l.take j).sum:Nat):Int)+((l.getD j 0:Nat):Int))=(((l.take (j+1)).sum:Nat):Int):=by rw [qN (by omega)]; omega
   rw [Lp]
   rw [<-af K]
   have key:∀ (tmN:List AV) (KN:AH) (Z:Option (bu × St)),EvC aa C0 W0 plN EO (tmN,KN)=Z->(tmN.length=18/\al G KN/\tmN.getD 7 uA=v/\tmN.getD 8 uA=I l.length/\tmN.getD 9 uA=I (((j+1):Nat):Int)/\tmN.getD 3 uA=I (((l.take (j+1)).sum:Nat):Int))->∃ X K1,Z=some (.exit 0,(X,K1))/\(X.length=18/\al G K1/\X.getD 7 uA=v/\X.getD 8 uA=I l.length/\X.getD 9 uA=I ((l.length:Nat):Int)/\X.getD 3 uA=I (((l.take l.length).sum:Nat):Int)):=by
     intro tmN KN Z h hJ
     obtain ⟨X,K1,A,B⟩:=ih (j+1) tmN KN (by omega) (by omega) hJ
     exact ⟨X,K1,h.symm.trans A,B⟩
   simp -implicitDefEqProofs only [Fs,Tryz.f36,aP,hlen,h7,h8,h9,h3,hlt,hw,hix,hrd,hadd,r5,↓az,nck,↓cbT,↓cbF,↓ao,an,eu,sevalprocAttr]
   generalize hX:EvC aa C0 W0 _ _ _=Z
   refine key _ _ _ hX ?_
   simp only [af]
   exact ⟨by first | exact hlen | simp only [ar,hlen],hA,by simp only [hlen,h7,h8,h9,hadd,gB,and_self,sevalprocAttr]⟩
theorem Q4 {G:AH} {v:AV} {l:List Nat} {tm:List AV} {K:AH} {Z:Option (bu × St)} (hX:EvC aa C0 W0 plN EO (tm,K)=Z) (hs:SlS 30 1 G v (ints l)) (hb:l.sum < 2 ^ 40) (hN:l.length < 2 ^ 60) (hI:tm.length=18/\al G K/\tm.getD 7 uA=v/\tm.getD 8 uA=I l.length/\tm.getD 9 uA=I ((0:Nat):Int)/\tm.getD 3 uA=I (((l.take 0).sum:Nat):Int)) :
   ∃ X K1,Z=some (.exit 0,(X,K1))/\(X.length=18/\al G K1/\X.getD 7 uA=v/\X.getD 8 uA=I l.length/\X.getD 9 uA=I ((l.length:Nat):Int)/\X.getD 3 uA=I (((l.take l.length).sum:Nat):Int)):=by
 subst hX
 exact Ue hs hb hN (l.length) 0 tm K (by omega) (by omega) hI
theorem aap {G:AH} {q:Nat} {vc vm vs va:AV} {f:Con} {ss:List (List Itm)} {ad:List Nat} {m:List (List Int)} {rc:List Bool} (h:lu G q vc vm vs va f ss ad m rc 0):Ev aa C0 W0 36 [.ptr q 0] G=some (I ((fh ss ad ss.length).sum:Nat),G):=by
 obtain ⟨tm,ht,g0,g1⟩:=tm1 (.ptr q 0) 18 (by decide)
 rw [Zg,ht]
 rw [<-af (ro G)]
 obtain ⟨v,K,he,hA,ho⟩:=aax (h.ro.aX (al.app (ro G) []))
 have hs:=ho.ints
 have hln:=mM hs
 have hsum:=Jm ss ad
 have hfew:=h.few
 have hlen:(fh ss ad ss.length).length=ss.length:=by unfold fh; rw [au,List.length_range]
 have hfs:=h.fs
 simp -implicitDefEqProofs only [c36,Tryz.f36,aP,g0,g1,↓ZN,he,hln,r5,↓az,nck,↓cbT,↓cbF,↓ao,an,eu,sevalprocAttr]
 generalize hX:EvC aa C0 W0 _ (Code.loop _) _=Z
 obtain ⟨X,K1,he1,i0,iA,i1,i2,i3,i4⟩:=Q4 hX hs (by omega) (by omega) ⟨by simp only [ls,g0],al.refl K,Aj2 (by simp only [g0,gB,and_self,sevalprocAttr]) ⟨by simp only [g0,gB,sevalprocAttr]; try rfl,by simp only [g0,gB,sevalprocAttr]; try rfl⟩⟩
 subst he1
 rw [gx] at i4
 simp -implicitDefEqProofs only [aP,i0,i4,↓cbT,↓cbF,↓ao,an,eu,sevalprocAttr]
def nk (ss:List (List Itm)) (ad:List Nat) (rc:List Bool):Bool:=(fh ss ad ss.length).sum == 0 || (dv ss ad rc ss.length).isEmpty
def td (ss:List (List Itm)) (ad:List Nat) (rc:List Bool):Int:=if (fh ss ad ss.length).sum=0 then 0 else if (dv ss ad rc ss.length)=[] then 11 else 0
theorem Pc {G:AH} {q:Nat} {vc vm vs va:AV} {f:Con} {ss:List (List Itm)} {ad:List Nat} {m:List (List Int)} {rc:List Bool} (h:lu G q vc vm vs va f ss ad m rc 0):Ev aa C0 W0 12 [.ptr q 0] G=some (.tuple [.bool (nk ss ad rc),I (td ss ad rc)],G):=by
 obtain ⟨tm,ht,g0,g1⟩:=tm1 (.ptr q 0) 33 (by decide)
 rw [Zs,ht]
 rw [<-af (ro G)]
 have hr:=h.ro
 have hq10:∀ L,ak (ro G++L) q 10 1=some [va]:=fun L=>by have:=hr.cell (al.refl _) L 10 (x:=va) rfl; rwa [cu] at this
 have hq27:∀ L,ak (ro G++L) q 27 1=some [I 0]:=fun L=>by have:=hr.cell (al.refl _) L 27 (Ek h.lr); rwa [cu] at this
 have e0:eqB 0 0=true:=rfl
 have h36:=aap (hr.aX (al.app (ro G) []))
 obtain ⟨v,K,he,hA,ho⟩:=SF (hr.aX (al.app (ro G) []))
 have hln:=mM ho.ints
 obtain ⟨i,k,c,e,hva⟩:=h.nn
 have hnil:∀ H fb,iG .eql 30 va .nilSlice H fb=some (.bool false):=fun H fb=>by rw [hva,PN]
 unfold nk td
 cases c0:eqB (((fh ss ad ss.length).sum:Nat):Int) 0 with
 | true =>
   have z0:(fh ss ad ss.length).sum=0:=by rw [cX] at c0; omega
   simp only [z0,if_true]
   rw [z0] at h36 c0
   simp -implicitDefEqProofs only [c12,Tryz.f12,aP,g0,g1,↓wY,hq10,hq27,e0,↓hnil,↓SA,h36,c0,r5,↓az,nck,↓cbT,↓cbF,↓ao,an,eu,sevalprocAttr]
   try rfl
 | false =>
   have z0:(fh ss ad ss.length).sum≠0:=by rw [pL] at c0; omega
   cases c1:eqB (((dv ss ad rc ss.length).length:Nat):Int) 0 with
   | true =>
     have z1:dv ss ad rc ss.length=[]:=List.length_eq_zero_iff.1 (by rw [cX] at c1; omega)
     rw [if_neg z0,if_pos z1,show ((fh ss ad ss.length).sum == 0 || (dv ss ad rc ss.length).isEmpty)=true by rw [z1]; simp]
     simp -implicitDefEqProofs only [c12,Tryz.f12,aP,g0,g1,↓wY,hq10,hq27,e0,↓hnil,↓SA,h36,c0,↓O9,he,hln,c1,r5,↓az,nck,↓cbT,↓cbF,↓ao,an,eu,sevalprocAttr]
   | false =>
     have z1:dv ss ad rc ss.length≠[]:=fun e=>by rw [e] at c1; cases c1
     rw [if_neg z0,if_neg z1,show ((fh ss ad ss.length).sum == 0 || (dv ss ad rc ss.length).isEmpty)=false by rw [Bool.or_eq_false_iff]; exact ⟨by simpa using z0,by simpa using z1⟩]
     simp -implicitDefEqProofs only [c12,Tryz.f12,aP,g0,g1,↓wY,hq10,hq27,e0,↓hnil,↓SA,h36,c0,↓O9,he,hln,c1,r5,↓az,nck,↓cbT,↓cbF,↓ao,an,eu,sevalprocAttr]
def xG (l:List Nat) (n:Int):Bool:=!bA (fun j=>!eqB n ((l.getD j 0:Nat):Int)) l.length 0
theorem xF (l:List Nat) (s:Nat):xG l s=true↔s∈l:=by
 unfold xG
 rw [ba,<-Bool.not_eq_true,dy]
 constructor
 · intro h
   apply Classical.byContradiction
   intro hn
   refine h fun j hj=>?_
   rw [ba,pL]
   intro e
   refine hn (fO.2 ⟨j,hj,?_⟩)
   rw [gde,aj hj] at e
   exact (Int.ofNat_inj.1 e).symm
 · intro h hn
   obtain ⟨j,hj,e⟩:=fO.1 h
   have:=hn j hj
   rw [ba,pL,gde,aj hj] at this
   exact this (by rw [<-e]; rfl)
theorem OX {H:AH} {v:AV} {l:List Nat} {n:Int} (hs:SlS 30 1 H v (ints l)) (hN:l.length < 2 ^ 60):∀ (d j:Nat) (tm:List AV) (K:AH),l.length - j=d->j<=l.length->al H K->tm.length=19->tm.getD 0 uA=v->tm.getD 1 uA=I n->tm.getD 7 uA=I l.length->tm.getD 8 uA=I ((j:Nat):Int) ->
   ∃ X Y K1 K2,EvC aa C0 W0 plN Jp (tm,K)=br (bA (fun j=>!eqB n ((l.getD j 0:Nat):Int)) (l.length) (j)) (some (.exit 0,(X,K1))) (some (.ret,(Y,K2)))/\(X.length=19/\al H K1/\X.getD 0 uA=v/\X.getD 1 uA=I n/\X.getD 7 uA=I l.length)/\Y.length=19/\∃ r:Int,0<=r/\Y.getD 4 uA=I r:=by
 intro d
 induction d with
 | zero =>
   intro j tm K hd hj hA hlen h0 h1 h7 h8
   have hjl:j=l.length:=by omega
   subst hjl
   have hlt:ltB (((l.length:Nat)):Int) (l.length:Nat)=false:=db (by omega)
   rw [cN (ax _),KV]
   simp -implicitDefEqProofs only [Ce,Tryz.f92,aP,hlen,h0,h1,h7,h8,hlt,↓cbT,↓cbF,↓ao,an,eu,sevalprocAttr]
   exact ⟨_,tm.set 4 (I 0),_,K,rfl,⟨by first | exact hlen | simp only [ar,hlen],hA,by first | exact h0 | simp only [hlen,h0,gB,sevalprocAttr],by first | exact h1 | simp only [hlen,h1,gB,sevalprocAttr],by first | exact h7 | simp only [hlen,h7,gB,sevalprocAttr]⟩,by simp only [ls,hlen],⟨0,Int.le_refl _,by simp only [hlen,dq,Nat.reduceLT]⟩⟩
 | succ d ih =>
   intro j tm K hd hj hA hlen h0 h1 h7 h8
   have hjN:j < l.length:=by omega
   have hlt:ltB (j:Int) (l.length:Nat)=true:=cQ (by omega)
   have hw:=cD (j:=j) (by omega)
   obtain ⟨i,k,hix,hrd⟩:=ints_at hs hA hjN
   rw [ch hjN,KV]
   rw [<-af K]
   cases hp:(!eqB n ((l.getD j 0:Nat):Int)) with
   | true =>
     simp only [Bool.true_and]
     rw [ba] at hp
     simp -implicitDefEqProofs only [Ce,Tryz.f92,aP,hlen,h0,h1,h7,h8,hlt,hw,hix,hrd,hp,r5,↓az,nck,↓cbT,↓cbF,↓ao,an,eu,sevalprocAttr]
     exact ih (j+1) _ _ (by omega) (by omega) (by first | exact hA | exact hA.bS _ | exact (hA.bS _).bS _) (by simp only [ls,hlen]) (by simp only [hlen,h0,gB,sevalprocAttr]) (by simp only [hlen,h1,gB,sevalprocAttr]) (by simp only [hlen,h7,gB,sevalprocAttr]) (by simp only [hlen,h8,gB,sevalprocAttr])
   | false =>
     simp only [Bool.false_and]
     rw [Bool.not_eq_false'] at hp
     simp -implicitDefEqProofs only [Ce,Tryz.f92,aP,hlen,h0,h1,h7,h8,hlt,hw,hix,hrd,hp,r5,↓az,nck,↓cbT,↓cbF,↓ao,an,eu,sevalprocAttr]
     exact ⟨tm,_,K,_,rfl,⟨hlen,hA,h0,h1,h7⟩,by simp only [ls,hlen],⟨_,Int.natCast_nonneg j,by simp only [hlen,gB,sevalprocAttr]⟩⟩
theorem JT {H:AH} {v:AV} {l:List Nat} {n:Int} {tm:List AV} {K:AH} {Z:Option (bu × St)} (hX:EvC aa C0 W0 plN Jp (tm,K)=Z) (hs:SlS 30 1 H v (ints l)) (hN:l.length < 2 ^ 60) (hA:al H K) (hlen:tm.length=19) (h0:tm.getD 0 uA=v) (h1:tm.getD 1 uA=I n) (h7:tm.getD 7 uA=I l.length) (h8:tm.getD 8 uA=I ((0:Nat):Int)) :
   ∃ X Y K1 K2,Z=br (bA (fun j=>!eqB n ((l.getD j 0:Nat):Int)) (l.length) (0)) (some (.exit 0,(X,K1))) (some (.ret,(Y,K2)))/\(X.length=19/\al H K1/\X.getD 0 uA=v/\X.getD 1 uA=I n/\X.getD 7 uA=I l.length)/\Y.length=19/\∃ r:Int,0<=r/\Y.getD 4 uA=I r:=by
 subst hX
 exact OX hs hN (l.length) 0 tm K (by omega) (by omega) hA hlen h0 h1 h7 h8
theorem ZR {H:AH} {v:AV} {l:List Nat} (hs:SlS 30 1 H v (ints l)) (hn:l.length < 2 ^ 40) (n:Int):∃ r,Ev aa C0 W0 92 [v,I n] H=some (I r,H)/\leB 0 r=xG l n:=by
 obtain ⟨tm,ht,g0,g1,g2⟩:=tm2 v (I n) 19 (by decide)
 rw [Yz,ht]
 rw [<-af (ro H)]
 have hl:=mM hs.ro
 unfold xG
 simp -implicitDefEqProofs only [c92,Tryz.f92,aP,g0,g1,g2,hl,r5,↓az,nck,↓cbT,↓cbF,↓ao,an,eu,sevalprocAttr]
 generalize hX:EvC aa C0 W0 _ (Code.loop _) _=Z
 obtain ⟨X,Y,K1,K2,he,xs,y0,y1⟩:=JT  hX hs.ro (by omega) (al.app _ _) (by simp only [ls,g0]) (by simp only [g0,g1,gB,sevalprocAttr]; try rfl) (by simp only [g0,g2,gB,sevalprocAttr]; try rfl) (by simp only [g0,gB,sevalprocAttr]; try rfl) (by simp only [g0,gB,sevalprocAttr]; try rfl)
 subst he
 obtain ⟨r,hr0,hr⟩:=y1
 cases hf:bA (fun j=>!eqB n ((l.getD j 0:Nat):Int)) l.length 0 with
 | true =>
   refine ⟨-1,?_,rfl⟩
   simp -implicitDefEqProofs only [xs.1,hf,↓cbT,↓cbF,↓ao,an,eu,sevalprocAttr]
 | false =>
   refine ⟨r,?_,by rw [(dp _ _).2 hr0]; rfl⟩
   simp -implicitDefEqProofs only [y0,hr,hf,↓cbT,↓cbF,↓ao,an,eu,sevalprocAttr]
theorem Ws {H:AH} {v:AV} {l:List Nat} (hs:SlS 30 1 H v (ints l)) (hn:l.length < 2 ^ 40) (n:Int):Ev aa C0 W0 63 [v,I n] H=some (.bool (xG l n),H):=by
 obtain ⟨tm,ht,g0,g1,g2⟩:=tm2 v (I n) 9 (by decide)
 rw [YU,ht]
 rw [<-af (ro H)]
 obtain ⟨r,hr,hb⟩:=ZR (hs.ro.same (al.app (ro H) [])) hn n
 simp -implicitDefEqProofs only [c63,Tryz.f63,aP,g0,g1,g2,r5,↓az,nck,↓Zu,hr,hb,↓cbT,↓cbF,↓ao,an,eu,sevalprocAttr]
def MD (v:AV) (lo hi:Nat):Prop:=∀ i k e l c x,v=.slice i k e l c x->lo<=i/\i < hi
theorem DY {es n:Nat} {v:AV} {E:TypeId} {xs:List AV} {b:Nat} (hn:n=0↔xs=[]):MD (bl es n v b) b (b+(bh E v xs).length):=by
 intro i k e l c x h
 by_cases hv:v=.nilSlice
 · subst hv; cases h
 · have hc:bl es n v b=if n=0 then .slice b 0 es 0 0 true else .slice (b+1) 0 es n n false:=by
     cases v <;> first | rfl | exact absurd rfl hv
   have hL:bh E v xs=if xs=[] then [.cells [] E] else [.cells [] E,.cells xs E]:=by
     cases v <;> first | rfl | exact absurd rfl hv
   rw [hc] at h
   rw [hL]
   by_cases h0:n=0
   · rw [if_pos h0] at h
     rw [if_pos (hn.1 h0)]
     cases h
     exact ⟨ax _,Nat.lt_succ_self _⟩
   · rw [if_neg h0] at h
     rw [if_neg fun e=>h0 (hn.2 e)]
     cases h
     exact ⟨Nat.le_succ _,by simp⟩
def iY (l:List Int):List AV:=l.map fun x=>.int .i32 x
theorem JX (l:List Int):l.length=0↔iY l=[]:=by unfold iY; simp
theorem xg {N:Nat} {HH:AH} (hH:HH.length=N+1) (l:List (List Int × AV)) (hv:∀ p∈l,p.2=.nilSlice->p.1=[]) :
   ∀ j,j<=l.length->∀ i,i < j->Own (N+1+(cR N (l.take i)).2.length) (HH++(cR N (l.take j)).2) 1 21 ((cR N (l.take j)).1.getD i uA) (iY (l.getD i ([],uA)).1) /\
     MD ((cR N (l.take j)).1.getD i uA) (N+1+(cR N (l.take i)).2.length) (N+1+(cR N (l.take (i+1))).2.length):=by
 intro j
 induction j with
 | zero=>intro _ i hi; omega
 | succ j ih =>
   intro hj i hi
   have hjl:j < l.length:=hj
   have hml:(cR N (l.take j)).1.length=j:=by rw [nK,List.length_take,Nat.min_eq_left (vD hjl)]
   have hg:l.getD j ([],uA)=l[j]:=by rw [gde,aj hjl]; rfl
   have ht:l.take (j+1)=l.take j++[l.getD j ([],uA)]:=by rw [fW,aj hjl,hg]; rfl
   have hmem:l.getD j ([],uA)∈l:=by rw [hg]; exact List.getElem_mem _
   have hstep:cR N (l.take (j+1))=sQ N (cR N (l.take j)) (l.getD j ([],uA)):=by rw [ht,tU]
   have hagree:al (HH++(cR N (l.take j)).2) (HH++(cR N (l.take (j+1))).2):=by
     rw [hstep]
     show al _ (HH++(_++_))
     rw [<-aE]
     exact al.app _ _
   rcases Nat.lt_or_ge i j with c | c
   · obtain ⟨h1,h2⟩:=ih (vD hjl) i c
     have he:(cR N (l.take (j+1))).1.getD i uA=(cR N (l.take j)).1.getD i uA:=by
       rw [hstep]
       show (_++[_]).getD i uA=_
       rw [gde,List.getElem?_append_left (by rw [hml]; exact c),gde]
     rw [he]
     exact ⟨h1.aX hagree,h2⟩
   · have hij:i=j:=by omega
     subst hij
     have he:(cR N (l.take (i+1))).1.getD i uA=bl 1 (l.getD i ([],uA)).1.length (l.getD i ([],uA)).2 (N+1+(cR N (l.take i)).2.length):=by
       rw [hstep]
       show (_++[_]).getD i uA=_
       rw [gde,aw (by rw [hml]; exact ax _),hml,dI]; rfl
     have hll:(HH++(cR N (l.take i)).2).length=N+1+(cR N (l.take i)).2.length:=by rw [ai,hH]
     rw [he]
     constructor
     · have:=ky (E:=21) (es:=1) (G:=HH++(cR N (l.take i)).2) (v:=(l.getD i ([],uA)).2) (xs:=iY (l.getD i ([],uA)).1) (n:=(l.getD i ([],uA)).1.length) (by decide) (by unfold iY; simp) (fun e=>by rw [hv _ hmem e]; rfl)
       rw [hll] at this
       rw [hstep]
       show Own _ (HH++(_++_)) _ _ _ _
       rw [<-aE]
       exact this
     · have:=DY (es:=1) (n:=(l.getD i ([],uA)).1.length) (v:=(l.getD i ([],uA)).2) (E:=21) (xs:=iY (l.getD i ([],uA)).1) (b:=N+1+(cR N (l.take i)).2.length) (JX _)
       rw [hstep]
       show MD _ _ (N+1+((cR N (l.take i)).2++bh 21 (l.getD i ([],uA)).2 (iY (l.getD i ([],uA)).1)).length)
       rw [ai,<-bV]
       exact this
theorem Own.s32 {b:Nat} {H:AH} {v:AV} {l:List Int} (h:Own b H 1 21 v (iY l)):SlS 32 1 H v (l.map dh):=
 Own.nz yY (by decide) (by rw [yG]; exact h) (A7 l)
theorem OJ {H L:AH} {l:List (List Int × AV)}:SlS 24 1 (H++(L++(.cells (cR (H.length+L.length) l).1 32::(cR (H.length+L.length) l).2))) (.slice (H.length+L.length) 0 1 l.length l.length true) ((cR (H.length+L.length) l).1.map fun w=>[w]):=by
 have hml:=nK (H.length+L.length) l
 have hg:(H++(L++(bo.cells (cR (H.length+L.length) l).1 32::(cR (H.length+L.length) l).2)))[H.length+L.length]? =some (.cells (cR (H.length+L.length) l).1 32):=by
   rw [aw (Nat.le_add_right _ _),Nat.add_sub_cancel_left,aw (ax _),dI]; rfl
 have h:=m6 (T:=24) (es:=1) E1 (H:=H++(L++(bo.cells (cR (H.length+L.length) l).1 32::(cR (H.length+L.length) l).2))) (i:=H.length+L.length) (k:=0) (c:=l.length) (e:=true) (rows:=(cR (H.length+L.length) l).1.map fun w=>[w]) (by
     intro r hr
     obtain ⟨w,_,rfl⟩:=bY.1 hr
     rfl) (by unfold okC; rw [hg]) (by
     unfold ak
     rw [hg]
     simp only [au]
     rw [if_pos (by omega),List.drop_zero,List.take_of_length_le (by omega),pF,List.map_id'' (fun _=>rfl)])
 rwa [au,hml] at h
theorem Sc {H L:AH} {l:List (List Int × AV)} (hv:∀ p∈l,p.2=.nilSlice->p.1=[]) (hn:l.length < 2 ^ 50) (hb:∀ p∈l,p.1.length < 2 ^ 50) (hi:∀ p∈l,∀ x∈p.1,eD x) :
   dc (H++(L++(.cells (cR (H.length+L.length) l).1 32::(cR (H.length+L.length) l).2))) (l.map (·.1)) (.slice (H.length+L.length) 0 1 l.length l.length true):=by
 have hml:=nK (H.length+L.length) l
 refine ⟨⟨wo (l.map (·.1)) (cR (H.length+L.length) l).1,?_,?_,?_⟩,by rw [au]; exact hn,fun b hb'=>?_,fun b hb'=>?_⟩
 · rw [List.map_fst_zip (by rw [au,hml]; exact ax _)]
 · have:(wo (l.map (·.1)) (cR (H.length+L.length) l).1).map (fun p=>[p.2])=(cR (H.length+L.length) l).1.map fun w=>[w]:=by
     rw [show (fun p:List Int × AV=>[p.2])=(fun w=>[w]) ∘ Prod.snd from rfl,<-List.map_map,List.map_snd_zip (by rw [au,hml]; exact ax _)]
   rw [this]
   exact OJ
 · intro p hp
   obtain ⟨i,hi',hpe⟩:=fO.1 hp
   have hil:i < l.length:=by rw [List.length_zip,au] at hi'; omega
   have hiw:i < (cR (H.length+L.length) l).1.length:=by rw [hml]; exact hil
   obtain ⟨ho,_⟩:=xg (N:=H.length+L.length) (HH:=H++(L++[.cells (cR (H.length+L.length) l).1 32])) (by simp; omega) l hv l.length (ax _) i hil
   rw [gx] at ho
   have he:p=((l.getD i ([],uA)).1,(cR (H.length+L.length) l).1.getD i uA):=by
     rw [<-hpe,List.getElem_zip,List.getElem_map,gde,aj hil,gde,aj hiw]; rfl
   rw [he]
   have:=ho.s32
   simpa only [aE,List.cons_append,List.nil_append] using this
 · obtain ⟨p,hp,rfl⟩:=bY.1 hb'
   exact hb p hp
 · obtain ⟨p,hp,rfl⟩:=bY.1 hb'
   exact hi p hp
theorem mi {T es:Nat} {H:AH} {v:AV} {rows:List (List AV)} (h:SlS T es H v rows) (hv:v=.nilSlice):rows=[]:=by
 rcases h.old with ⟨_,e⟩ | ⟨i,k,c,e,e',_⟩
 · exact e
 · rw [hv] at e'; cases e'
theorem Wz {H:AH} {m:List (List Int)} {vm:AV} (h:dc H m vm) (hn:m.length<=100) (hb:∀ b∈m,b.length<=1000):∃ v K,Ev aa C0 W0 28 [vm] H=some (v,K)/\al H K/\dc K m v:=by
 obtain ⟨⟨l,rfl,hs,hp⟩,h1,h2,h3⟩:=h
 have he:=WA hs hp (by rwa [au] at hn) (fun p hp=>hb _ (g6 hp)) []
 rw [af] at he
 refine ⟨_,_,he,al.app _ _,Sc (fun p hpl e=>?_) (by rwa [au] at h1) (fun p hp=>h2 _ (g6 hp)) (fun p hp=>h3 _ (g6 hp))⟩
 have:=mi (hp p hpl) e
 simpa using this
theorem aal {G:AH} {q:Nat} {vc vm vs va:AV} {f:Con} {ss:List (List Itm)} {ad:List Nat} {m:List (List Int)} {rc:List Bool} (h:lu G q vc vm vs va f ss ad m rc 0) (hn:m.length<=100) (hb:∀ b∈m,b.length<=1000):∃ v K,Ev aa C0 W0 40 [.ptr q 0] G=some (v,K)/\al G K/\dc K m v:=by
 obtain ⟨tm,ht,g0,g1⟩:=tm1 (.ptr q 0) 10 (by decide)
 rw [Zd,ht]
 have hq1:ak G q 1 1=some [vm]:=by have:=h.cell (al.refl G) [] 1 (x:=vm) rfl; rwa [cu,af] at this
 obtain ⟨v,K,he,hA,hm⟩:=Wz h.m hn hb
 refine ⟨v,K,?_,hA,hm⟩
 simp -implicitDefEqProofs only [c40,Tryz.f40,aP,g0,g1,↓wY,hq1,↓Wb,he,r5,↓az,nck,↓cbT,↓cbF,↓ao,an,eu,sevalprocAttr]
theorem PX (n:Nat) (hn:n<=1000) (s:Option Nat) (H:AH):ie aa s 30 (I n) (I n) H=(put s H (.cells (aA n (I 0)) 3)).map fun p=>(.slice p.1 0 1 n n true,p.2):=by
 have hz:ep aa 3=some (I 0):=by kernel_rfl
 have hs:gF aa 30=some 3:=by kernel_rfl
 have hb:aa.bytesOf 3=8:=by kernel_rfl
 have hc:aa.cellsOf 3=1:=by kernel_rfl
 unfold ie
 simp only [hs,hz,ay]
 rw [if_pos ⟨by omega,by omega,by omega,by rw [hb]; omega,by simp [AV.cells]⟩]
 rw [hc,Nat.mul_one,Int.toNat_natCast]
 show wm _ (put s H (.cells (lG [I 0] n) 3))=_
 rw [PK]
theorem aaG {c:AV} (hc:c=.nilSlice∨∃ i k es l cc e,c=.slice i k es l cc e) (i1 k1 e1 l1 c1 i2 k2 e2 l2 c2:Nat) (x1 x2:Bool) (f:Con) :
   kz aa 71 [(0,c),(1,.slice i1 k1 e1 l1 c1 x1),(2,.agg [I f.w,.bool f.free,I f.cores,I f.slots,I f.room,I f.pol,I f.lat]),(4,.slice i2 k2 e2 l2 c2 x2)]=some (.agg (lj c (.slice i1 k1 e1 l1 c1 x1) .nilSlice (.slice i2 k2 e2 l2 c2 x2) f (aA 16 false) 0)):=by
 rcases hc with rfl | ⟨i,k,es,l,cc,e,rfl⟩ <;> kernel_rfl
theorem G6 (es n:Nat) (v:AV) (b:Nat):bl es n v b=.nilSlice∨∃ i k es' l cc e,bl es n v b=.slice i k es' l cc e:=by
 unfold bl
 split
 · exact .inl rfl
 · split
   · exact .inr ⟨_,_,_,_,_,_,rfl⟩
   · exact .inr ⟨_,_,_,_,_,_,rfl⟩
def tT (H:AH) (rows:List (List AV)) (l:List (List Int × AV)) (n:Nat) (vc:AV) (f:Con):AH:=
 H++([.cells [I f.w,.bool f.free,I f.cores,I f.slots,I f.room,I f.pol,I f.lat] 27,.fresh,.fresh,.fresh,.fresh,.fresh,.fresh,.fresh,.cells (aA n (I 0)) 3,.fresh,
   .cells (lj (bl 5 rows.length vc (H.length+12)) (.slice (H.length+((bh 66 vc rows.flatten).length+12)) 0 1 l.length l.length true) .nilSlice (.slice (H.length+8) 0 1 n n true) f (aA 16 false) 0) 71,.fresh] ++
   (bh 66 vc rows.flatten++(.cells (cR (H.length+((bh 66 vc rows.flatten).length+12)) l).1 32::(cR (H.length+((bh 66 vc rows.flatten).length+12)) l).2)))
theorem Nn {H:AH} {rows:List (List AV)} {l:List (List Int × AV)} {n:Nat} {vc vm vs:AV} (f:Con) (h27:∀ L,Ev aa C0 W0 27 [vc] (H++L)=some (bl 5 rows.length vc (H.length+L.length),H++(L++bh 66 vc rows.flatten))) (h28:∀ L,Ev aa C0 W0 28 [vm] (H++L)=some (.slice (H.length+L.length) 0 1 l.length l.length true,H++(L++(.cells (cR (H.length+L.length) l).1 32::(cR (H.length+L.length) l).2))))
   (hls:∀ G,dR aa 25 G vs=some (I n)) (hn:n<=4) {tm:List AV} (hlen:tm.length=100) (h0:tm.getD 0 uA=vc) (h1:tm.getD 1 uA=vm) (h2:tm.getD 2 uA=vs) (h7:tm.getD 7 uA=.ptr H.length 0) :
   ∃ tm',EvC aa C0 W0 lO (aQ [true,true,false] (Tryz.f10.body.getD .skip)) (tm,H++[.cells [I f.w,.bool f.free,I f.cores,I f.slots,I f.room,I f.pol,I f.lat] 27])=some (.normal,(tm',tT H rows l n vc f))/\tm'.length=100/\tm'.getD 2 uA=vs/\tm'.getD 11 uA=.ptr (H.length+10) 0:=by
 have hms:=PX n (by omega)
 have hb:=fun i1 k1 e1 l1 c1 i2 k2 e2 l2 c2 x1 x2 b=>aaG (G6 5 rows.length vc b) i1 k1 e1 l1 c1 i2 k2 e2 l2 c2 x1 x2 f
 simp -implicitDefEqProofs only [Tryz.f10,aP,hlen,h0,h1,h2,h7,↓dn NI,I1,List.any_toArray',dz,eE,fi,cJ,↓ZK,↓Wb,h27,h28,hls,↓nq,hms,hb,List.size_toArray,List.replicate_succ,List.replicate_zero,r5,↓az,nck,↓cbT,↓cbF,↓ao,an,eu,sevalprocAttr,↓fK,↓fI,↓jG,↓gP,↓fJ,↓gQ,↓ez,↓fL,↓cF,↓bX,↓dj,↓gR,↓eA,↓fM,↓cH,↓cG,↓dk,↓e9,↓dK,eB,cd,ai,bV,di,dJ,eC]
 refine ⟨_,rfl,?_,?_,?_⟩
 · simp only [ar,hlen]
 · simp only [hlen,h2,gB,sevalprocAttr]
 · simp only [hlen,gB,sevalprocAttr]
def BV (K:AH) (nm:ByteArray) (loc:Int) (vp vz vi:AV) (rp rz ri:List (List AV)):AH:=
 .cells [.str nm,bl 2 rp.length vp (K.length+1),bl 2 rz.length vz (K.length+((bh 74 vp rp.flatten).length+1)),I loc,bl 8 ri.length vi (K.length+((bh 74 vp rp.flatten).length+((bh 77 vz rz.flatten).length+1)))] 66 ::
   (bh 74 vp rp.flatten++(bh 77 vz rz.flatten++bh 80 vi ri.flatten))
theorem Nm {K:AH} {nm:ByteArray} {vp vz vi:AV} {loc:Int} {rp rz ri:List (List AV)} (h29:∀ L,Ev aa C0 W0 29 [vp] (K++L)=some (bl 2 rp.length vp (K.length+L.length),K++(L++bh 74 vp rp.flatten))) (h30:∀ L,Ev aa C0 W0 30 [vz] (K++L)=some (bl 2 rz.length vz (K.length+L.length),K++(L++bh 77 vz rz.flatten))) (h31:∀ L,Ev aa C0 W0 31 [vi] (K++L)=some (bl 8 ri.length vi (K.length+L.length),K++(L++bh 80 vi ri.flatten))) (hvp:vp.cells=[vp]/\vp.one=true) (hvz:vz.cells=[vz]/\vz.one=true) (hvi:vi.cells=[vi]/\vi.one=true) {tm:List AV} (hlen:tm.length=100) (h13:tm.getD 13 uA=.ptr K.length 0) :
   ∃ tm',EvC aa C0 W0 lO (aQ [true,true,true,false,true,false,false,true,true,false,false,true,false] (Tryz.f10.body.getD .skip)) (tm,K++[.cells [.str nm,vp,vz,I loc,vi] 66])=some (.normal,(tm',K++BV K nm loc vp vz vi rp rz ri))/\tm'.length=100/\tm'.getD 2 uA=tm.getD 2 uA/\tm'.getD 11 uA=tm.getD 11 uA/\tm'.getD 12 uA=tm.getD 12 uA/\tm'.getD 13 uA=tm.getD 13 uA/\tm'.getD 40 uA=tm.getD 40 uA/\tm'.getD 41 uA=tm.getD 41 uA/\tm'.getD 42 uA=tm.getD 42 uA:=by
 obtain ⟨c1,o1⟩:=hvp
 obtain ⟨c2,o2⟩:=hvz
 obtain ⟨c3,o3⟩:=hvi
 have w1:=fun b=>(eg 2 rp.length vp b)
 have w2:=fun b=>(eg 2 rz.length vz b)
 have w3:=fun b=>(eg 8 ri.length vi b)
 have w1c:=fun b=>(w1 b).1
 have w1o:=fun b=>(w1 b).2
 have w2c:=fun b=>(w2 b).1
 have w2o:=fun b=>(w2 b).2
 have w3c:=fun b=>(w3 b).1
 have w3o:=fun b=>(w3 b).2
 simp -implicitDefEqProofs only [Tryz.f10,aP,hlen,h13,↓dn NH,I0,dz,eE,fi,cJ,↓ZJ,↓ZI,↓ZH,h29,h30,h31,↓w1c,↓w1o,↓w2c,↓w2o,↓w3c,↓w3o,XX,XW,XV,r5,↓az,nck,↓cbT,↓cbF,↓ao,an,eu,sevalprocAttr,↓fK,↓fI,↓jG,↓gP,↓fJ,↓gQ,↓ez,↓fL,↓cF,↓bX,↓dj,↓gR,↓eA,↓fM,↓cH,↓cG,↓dk,↓e9,↓dK,eB,cd,ai,bV,di,dJ,eC]
 refine ⟨_,rfl,?_⟩
 simp only [ar,hlen,h13,gB,sevalprocAttr,and_self]
end Go.Dv
