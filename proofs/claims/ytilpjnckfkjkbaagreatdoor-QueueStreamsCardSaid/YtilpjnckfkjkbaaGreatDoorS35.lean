/- Part 35 of the walks (own work). -/
import Derived.Test.YtilpjnckfkjkbaaGreatDoorS34
open Bool renaming not_eq_true'→ba
open List renaming any_cons→eE,any_nil→fi,any_toArray→dz,any_toArray'→d6,append_nil→af,count_le_length→CU,getElem?_append_right→aw,getElem?_eq_getElem→aj,head?_cons→pZ,length→fU,length_append→ai,length_cons→b6,length_filter_le→kS,length_map→au,length_replicate→iI,length_set→ar,map_map→QF,mem_filter→gf,mem_map→bY,range→bn,replicate→aA,replicate_succ→dH,replicate_zero→du,size_toArray→d5
open Nat renaming add_assoc→bV,le_add_right→cm,le_refl→ax,le_trans→bc,lt_of_le_of_lt→uN,zero_le→fy
open Option.some renaming inj→aC
open Go.Proofs.Tryz renaming prog→aa
set_option maxRecDepth 100000
set_option maxHeartbeats 4000000
set_option linter.unusedSimpArgs false
set_option linter.unusedVariables false
namespace Go.Dv
open Go.Proofs
attribute [local congr] aH bP bj bO bQ
theorem SU {G:AH} {a ob wb N:Nat} {iv av:AV} {A:List (List Nat)} {w:List Nat} {j:Nat} {rv:AV} (haft:lx G A av) (hN:N<=1000) (hA:∀ l∈A,∀ y∈l,y < N) (hrow:∀ l∈A,l.length < 2 ^ 20) (hlA:A.length=N) (hj:j < N) (hs:SlS 30 1 G rv (ints (A.getD j []))):∀ (d q:Nat) (tm:List AV) (K:AH),(A.getD j []).length - q=d->q<=(A.getD j []).length->(tm.length=158/\tm.getD 15 uA=.ptr a 0/\tm.getD 16 uA=slN ob N/\tm.getD 17 uA=slN wb N/\tm.getD 71 uA=av/\tm.getD 72 uA=I (N:Nat)/\tm.getD 73 uA=I (j:Nat)/\tm.getD 77 uA=rv/\tm.getD 78 uA=I ((A.getD j []).length:Nat)/\tm.getD 79 uA=I ((q:Nat):Int)/\∃ b,WvS G K a ob wb iv av N w b/\∀ y,y < N->b.getD y 0=cn A j y+((A.getD j []).take q).count y) ->
   ∃ X K1,EvC aa C0 W0 iV JJ (tm,K)=some (.exit 4,(X,K1))/\(X.length=158/\X.getD 15 uA=.ptr a 0/\X.getD 16 uA=slN ob N/\X.getD 17 uA=slN wb N/\X.getD 71 uA=av/\X.getD 72 uA=I (N:Nat)/\X.getD 73 uA=I (j:Nat)/\X.getD 77 uA=rv/\X.getD 78 uA=I ((A.getD j []).length:Nat)/\X.getD 79 uA=I (((A.getD j []).length:Nat):Int)/\∃ b,WvS G K1 a ob wb iv av N w b/\∀ y,y < N->b.getD y 0=cn A j y+((A.getD j []).take (A.getD j []).length).count y):=by
 have hjA:A.getD j []∈A:=eX (by omega) []
 have hrl:=hrow _ hjA
 intro d
 induction d with
 | zero =>
   intro q tm K hd hq hI
   have hql:q=(A.getD j []).length:=by omega
   subst hql
   obtain ⟨hlen,h15,h16,h17,h71,h72,h73,h77,h78,h79,b,hW,hb⟩:=hI
   have hlt:ltB (((A.getD j []).length:Nat):Int) ((A.getD j []).length:Nat)=false:=db (by omega)
   rw [LB]
   simp -implicitDefEqProofs only [FB,Tryz.f19,aP,hlen,h15,h16,h17,h71,h72,h73,h77,h78,h79,hlt,↓cbT,↓cbF,↓ao,an,eu,sevalprocAttr]
   exact ⟨_,K,rfl,by simp only [ls,hlen],Aj9 (by simp only [hlen,h15,h16,h17,h71,h72,h73,h77,h78,h79,gB,and_self,sevalprocAttr]) ⟨b,hW,hb⟩⟩
 | succ d ih =>
   intro q tm K hd hq hI
   obtain ⟨hlen,h15,h16,h17,h71,h72,h73,h77,h78,h79,b,hW,hb⟩:=hI
   have hqN:q < (A.getD j []).length:=by omega
   have hlt:ltB (q:Int) ((A.getD j []).length:Nat)=true:=cQ (by omega)
   have hwi:=cD (j:=q) (by omega)
   obtain ⟨i1,k1,hix,hrd⟩:=ints_at hs hW.ag hqN
   have hrd:=hrd []
   rw [af] at hrd
   obtain ⟨y,hy⟩:∃ y,(A.getD j [])[q]? =some y:=⟨_,aj hqN⟩
   have hyd:(A.getD j []).getD q 0=y:=by rw [gde,hy]; rfl
   rw [hyd] at hrd
   have hyN:y < N:=hA _ hjA y (List.mem_of_getElem? hy)
   have hyb:y < b.length:=by rw [hW.lb]; exact hyN
   have hixb:=fun kk=>ixN (N:=N) wb hyN kk
   have hrb:=hW.fb.rd hyb
   have hbl:b.getD y 0 < 2 ^ 50:=by
     have h1:=hb y hyN
     have h2:=LW hrow y j
     have h3:=CU (a:=y) (l:=(A.getD j []).take q)
     rw [List.length_take] at h3
     omega
   have hwy:=cD (j:=b.getD y 0) (by omega)
   have hwb:=hW.fb.wr hyb (b.getD y 0+1)
   have hW2:=hW.HU (b':=b.set y (b.getD y 0+1)) (by rw [ar,hW.lb])
   generalize K.set wb (.cells (iv1 (b.set y (b.getD y 0+1))) 3)=K2 at hwb hW2
   rw [LB]
   simp -implicitDefEqProofs only [FB,Tryz.f19,aP,hlen,h15,h16,h17,h71,h72,h73,h77,h78,h79,hlt,hwi,hix,hrd,hixb,hrb,hwy,hwb,st3,r5,↓az,nck,↓cbT,↓cbF,↓ao,an,eu,sevalprocAttr]
   refine ih (q+1) _ K2 (by omega) (by omega) ⟨by simp only [ls,hlen],Aj9 (by simp only [hlen,h15,h16,h17,h71,h72,h73,h77,h78,gB,and_self,sevalprocAttr]) ⟨_,hW2,fun z hz=>?_⟩⟩
   rw [Po _ q y z hy,<-bV,<-hb z hz,Qu.iZ]
   by_cases e:y=z
   · subst e; rw [if_pos ⟨rfl,hyb⟩,if_pos rfl]
   · rw [if_neg fun c=>e c.1.symm,if_neg e,Nat.add_zero]
theorem Pp {G:AH} {a ob wb N:Nat} {iv av:AV} {A:List (List Nat)} {w:List Nat} {j:Nat} {rv:AV} (haft:lx G A av) (hN:N<=1000) (hA:∀ l∈A,∀ y∈l,y < N) (hrow:∀ l∈A,l.length < 2 ^ 20) (hlA:A.length=N) (hj:j < N) (hs:SlS 30 1 G rv (ints (A.getD j []))) {tm:List AV} {K:AH} {Z:Option (bu × St)} (hX:EvC aa C0 W0 iV JJ (tm,K)=Z) (hI:tm.length=158/\tm.getD 15 uA=.ptr a 0/\tm.getD 16 uA=slN ob N/\tm.getD 17 uA=slN wb N/\tm.getD 71 uA=av/\tm.getD 72 uA=I (N:Nat)/\tm.getD 73 uA=I (j:Nat)/\tm.getD 77 uA=rv/\tm.getD 78 uA=I ((A.getD j []).length:Nat)/\tm.getD 79 uA=I ((0:Nat):Int)/\∃ b,WvS G K a ob wb iv av N w b/\∀ y,y < N->b.getD y 0=cn A j y+((A.getD j []).take 0).count y) :
   ∃ X K1,Z=some (.exit 4,(X,K1))/\(X.length=158/\X.getD 15 uA=.ptr a 0/\X.getD 16 uA=slN ob N/\X.getD 17 uA=slN wb N/\X.getD 71 uA=av/\X.getD 72 uA=I (N:Nat)/\X.getD 73 uA=I (j:Nat)/\X.getD 77 uA=rv/\X.getD 78 uA=I ((A.getD j []).length:Nat)/\X.getD 79 uA=I (((A.getD j []).length:Nat):Int)/\∃ b,WvS G K1 a ob wb iv av N w b/\∀ y,y < N->b.getD y 0=cn A j y+((A.getD j []).take (A.getD j []).length).count y):=by
 subst hX
 exact SU haft hN hA hrow hlA hj hs _ 0 tm K rfl (fy _) hI
theorem Pn {G:AH} {a ob wb N:Nat} {iv av:AV} {A:List (List Nat)} {w:List Nat} (haft:lx G A av) (hN:N<=1000) (hA:∀ l∈A,∀ y∈l,y < N) (hrow:∀ l∈A,l.length < 2 ^ 20) (hlA:A.length=N):∀ (d j:Nat) (tm:List AV) (K:AH),N - j=d->j<=N->(tm.length=158/\tm.getD 15 uA=.ptr a 0/\tm.getD 16 uA=slN ob N/\tm.getD 17 uA=slN wb N/\tm.getD 71 uA=av/\tm.getD 72 uA=I (N:Nat)/\tm.getD 73 uA=I ((j:Nat):Int)/\∃ b,WvS G K a ob wb iv av N w b/\∀ y,y < N->b.getD y 0=cn A j y) ->
   ∃ X K1,EvC aa C0 W0 iV JI (tm,K)=some (.exit 2,(X,K1))/\(X.length=158/\X.getD 15 uA=.ptr a 0/\X.getD 16 uA=slN ob N/\X.getD 17 uA=slN wb N/\X.getD 71 uA=av/\X.getD 72 uA=I (N:Nat)/\X.getD 73 uA=I ((N:Nat):Int)/\∃ b,WvS G K1 a ob wb iv av N w b/\∀ y,y < N->b.getD y 0=cn A N y):=by
 intro d
 induction d with
 | zero =>
   intro j tm K hd hj hI
   have hjl:j=N:=by omega
   subst hjl
   obtain ⟨hlen,h15,h16,h17,h71,h72,h73,b,hW,hb⟩:=hI
   have hlt:ltB (j:Int) (j:Nat)=false:=db (by omega)
   rw [LA]
   simp -implicitDefEqProofs only [FA,Tryz.f19,aP,hlen,h15,h16,h17,h71,h72,h73,hlt,↓cbT,↓cbF,↓ao,an,eu,sevalprocAttr]
   exact ⟨_,K,rfl,by simp only [ls,hlen],Aj6 (by simp only [hlen,h15,h16,h17,h71,h72,h73,gB,and_self,sevalprocAttr]) ⟨b,hW,hb⟩⟩
 | succ d ih =>
   intro j tm K hd hj hI
   obtain ⟨hlen,h15,h16,h17,h71,h72,h73,b,hW,hb⟩:=hI
   have hjN:j < N:=by omega
   have hlt:ltB (j:Int) (N:Nat)=true:=cQ (by omega)
   have hwi:=cD (j:=j) (by omega)
   obtain ⟨i1,k1,rv,hix,hrd,hs⟩:=haft.at hW.ag (j:=j) (by omega)
   have hrd:=hrd []
   rw [af] at hrd
   have hln:=fun K=>mM hs K
   rw [LA]
   simp -implicitDefEqProofs only [FA,Tryz.f19,aP,hlen,h15,h16,h17,h71,h72,h73,hlt,hix,hrd,Dy,hln,r5,↓az,nck,↓cbT,↓cbF,↓ao,an,eu,sevalprocAttr]
   generalize hX:EvC aa C0 W0 iV (Code.loop _) _=Z
   obtain ⟨X,K1,he,x0,x15,x16,x17,x71,x72,x73,x77,x78,x79,b1,hW1,hb1⟩:=Pp (w:=w) (j:=j) haft hN hA hrow hlA hjN hs hX ⟨by simp only [ls,hlen],Aj8 (by simp only [hlen,h15,h16,h17,h71,h72,h73,gB,and_self,sevalprocAttr]) ⟨by simp only [hlen,gB,sevalprocAttr]; try rfl,b,hW,fun y hy=>by rw [hb y hy]; simp⟩⟩
   subst he
   simp -implicitDefEqProofs only [x0,x15,x16,x17,x71,x72,x73,hwi,↓cbT,↓cbF,↓ao,an,eu,sevalprocAttr]
   exact ih (j+1) _ K1 (by omega) (by omega) ⟨by simp only [ls,x0],Aj6 (by simp only [x0,x15,x16,x17,x71,x72,gB,and_self,sevalprocAttr]) ⟨b1,hW1,fun y hy=>by rw [hb1 y hy,Fh,List.take_length]⟩⟩
theorem LU {G:AH} {a ob wb N:Nat} {iv av:AV} {A:List (List Nat)} {w:List Nat} (haft:lx G A av) (hN:N<=1000) (hA:∀ l∈A,∀ y∈l,y < N) (hrow:∀ l∈A,l.length < 2 ^ 20) (hlA:A.length=N) {tm:List AV} {K:AH} {Z:Option (bu × St)} (hX:EvC aa C0 W0 iV JI (tm,K)=Z) (hI:tm.length=158/\tm.getD 15 uA=.ptr a 0/\tm.getD 16 uA=slN ob N/\tm.getD 17 uA=slN wb N/\tm.getD 71 uA=av/\tm.getD 72 uA=I (N:Nat)/\tm.getD 73 uA=I ((0:Nat):Int)/\∃ b,WvS G K a ob wb iv av N w b/\∀ y,y < N->b.getD y 0=cn A 0 y) :
   ∃ X K1,Z=some (.exit 2,(X,K1))/\(X.length=158/\X.getD 15 uA=.ptr a 0/\X.getD 16 uA=slN ob N/\X.getD 17 uA=slN wb N/\X.getD 71 uA=av/\X.getD 72 uA=I (N:Nat)/\X.getD 73 uA=I ((N:Nat):Int)/\∃ b,WvS G K1 a ob wb iv av N w b/\∀ y,y < N->b.getD y 0=cn A N y):=by
 subst hX
 exact Pn haft hN hA hrow hlA _ 0 tm K rfl (fy _) hI
theorem TC {G:AH} {a ob wb hb N:Nat} {iv av:AV} {w b:List Nat} (hN:N<=1000):∀ (d j:Nat) (tm:List AV) (K:AH),N - j=d->j<=N->(tm.length=158/\tm.getD 15 uA=.ptr a 0/\tm.getD 16 uA=slN ob N/\tm.getD 17 uA=slN wb N/\tm.getD 22 uA=.ptr hb 0/\tm.getD 93 uA=slN wb N/\tm.getD 94 uA=I (N:Nat)/\tm.getD 95 uA=I ((j:Nat):Int)/\∃ v T,WvS G K a ob wb iv av N w b/\HpS G a ob wb hb v/\HpR K hb v T/\T.Perm ((bn j).filter fun y=>b.getD y 0 == 0)) ->
   ∃ X K1,EvC aa C0 W0 iV JH (tm,K)=some (.exit 6,(X,K1))/\(X.length=158/\X.getD 15 uA=.ptr a 0/\X.getD 16 uA=slN ob N/\X.getD 17 uA=slN wb N/\X.getD 22 uA=.ptr hb 0/\X.getD 93 uA=slN wb N/\X.getD 94 uA=I (N:Nat)/\X.getD 95 uA=I ((N:Nat):Int)/\∃ v T,WvS G K1 a ob wb iv av N w b/\HpS G a ob wb hb v/\HpR K1 hb v T/\T.Perm ((bn N).filter fun y=>b.getD y 0 == 0)):=by
 intro d
 induction d with
 | zero =>
   intro j tm K hd hj hI
   have hjl:j=N:=by omega
   subst hjl
   obtain ⟨hlen,h15,h16,h17,h22,h93,h94,h95,v,T,hW,hS,hH,hP⟩:=hI
   have hlt:ltB (j:Int) (j:Nat)=false:=db (by omega)
   rw [Lz]
   simp -implicitDefEqProofs only [Cu,Tryz.f19,aP,hlen,h15,h16,h17,h22,h93,h94,h95,hlt,↓cbT,↓cbF,↓ao,an,eu,sevalprocAttr]
   exact ⟨_,K,rfl,by simp only [ls,hlen],Aj7 (by simp only [hlen,h15,h16,h17,h22,h93,h94,h95,gB,and_self,sevalprocAttr]) ⟨v,T,hW,hS,hH,hP⟩⟩
 | succ d ih =>
   intro j tm K hd hj hI
   obtain ⟨hlen,h15,h16,h17,h22,h93,h94,h95,v,T,hW,hS,hH,hP⟩:=hI
   have hjN:j < N:=by omega
   have hlt:ltB (j:Int) (N:Nat)=true:=cQ (by omega)
   have hwi:=cD (j:=j) (by omega)
   have hixb:=fun kk=>ixN (N:=N) wb hjN kk
   have hrb:=hW.fb.rd (by rw [hW.lb]; exact hjN)
   have hTl:T.length<=1000:=by
     rw [hP.length_eq]
     have:=kS (fun y=>b.getD y 0 == 0) (bn j)
     rw [List.length_range] at this
     omega
   rw [Lz]
   by_cases h0:b.getD j 0=0
   · have hc:eqB ((b.getD j 0:Nat):Int) 0=true:=by rw [h0]; rfl
     obtain ⟨v',K',T',h48,hp,hH',hf⟩:=Wt hH hTl j
     obtain ⟨hW',hS'⟩:=hW.fr hS hf
     simp -implicitDefEqProofs only [Cu,Tryz.f19,aP,hlen,h15,h16,h17,h22,h93,h94,h95,hlt,hwi,hixb,hrb,hc,↓uJ,↓AL,↓V6,h48,r5,↓az,nck,↓cbT,↓cbF,↓ao,an,eu,sevalprocAttr]
     refine ih (j+1) _ K' (by omega) (by omega) ⟨by simp only [ls,hlen],Aj7 (by simp only [hlen,h15,h16,h17,h22,h93,h94,gB,and_self,sevalprocAttr]) ⟨_,_,hW',hS',hH',?_⟩⟩
     rw [yz,if_pos h0]
     exact hp.trans (hP.append_right _)
   · have hc:eqB ((b.getD j 0:Nat):Int) 0=false:=jh (by omega)
     simp -implicitDefEqProofs only [Cu,Tryz.f19,aP,hlen,h15,h16,h17,h22,h93,h94,h95,hlt,hwi,hixb,hrb,hc,r5,↓az,nck,↓cbT,↓cbF,↓ao,an,eu,sevalprocAttr]
     refine ih (j+1) _ K (by omega) (by omega) ⟨by simp only [ls,hlen],Aj7 (by simp only [hlen,h15,h16,h17,h22,h93,h94,gB,and_self,sevalprocAttr]) ⟨_,_,hW,hS,hH,?_⟩⟩
     rw [yz,if_neg h0,af]
     exact hP
theorem QK {G:AH} {a ob wb hb N:Nat} {iv av:AV} {w b:List Nat} (hN:N<=1000) {tm:List AV} {K:AH} {Z:Option (bu × St)} (hX:EvC aa C0 W0 iV JH (tm,K)=Z) (hI:tm.length=158/\tm.getD 15 uA=.ptr a 0/\tm.getD 16 uA=slN ob N/\tm.getD 17 uA=slN wb N/\tm.getD 22 uA=.ptr hb 0/\tm.getD 93 uA=slN wb N/\tm.getD 94 uA=I (N:Nat)/\tm.getD 95 uA=I ((0:Nat):Int)/\∃ v T,WvS G K a ob wb iv av N w b/\HpS G a ob wb hb v/\HpR K hb v T/\T.Perm ((bn 0).filter fun y=>b.getD y 0 == 0)) :
   ∃ X K1,Z=some (.exit 6,(X,K1))/\(X.length=158/\X.getD 15 uA=.ptr a 0/\X.getD 16 uA=slN ob N/\X.getD 17 uA=slN wb N/\X.getD 22 uA=.ptr hb 0/\X.getD 93 uA=slN wb N/\X.getD 94 uA=I (N:Nat)/\X.getD 95 uA=I ((N:Nat):Int)/\∃ v T,WvS G K1 a ob wb iv av N w b/\HpS G a ob wb hb v/\HpR K1 hb v T/\T.Perm ((bn N).filter fun y=>b.getD y 0 == 0)):=by
 subst hX
 exact TC hN _ 0 tm K rfl (fy _) hI
theorem Sb (a b:Nat):(if ((b:Nat):Int) > ((a:Nat):Int) then ((b:Nat):Int) else ((a:Nat):Int))=((max a b:Nat):Int):=by
 split <;> omega
theorem Re (A:List (List Nat)) (N:Nat) (D:List Nat) (y:Nat):Qu.rem A N D y<=Qu.rem A N [] y:=by
 unfold Qu.rem
 have:∀ (l:List Nat) (f:Nat->Nat) (p q:Nat->Bool),(∀ z,p z=true->q z=true)->((l.filter p).map f).sum<=((l.filter q).map f).sum:=by
   intro l f p q hpq
   induction l with
   | nil=>simp
   | cons z l ih =>
     simp only [List.filter_cons]
     cases hp:p z with
     | true=>rw [hpq z hp]; simp; exact ih
     | false =>
       cases hq:q z with
       | true=>simp; omega
       | false=>simpa using ih
 exact this _ _ _ _ fun z _=>rfl
theorem Q0 {G:AH} {a ob wb hb N:Nat} {iv av:AV} {A:List (List Nat)} {Ds:List Nat} {x:Nat} {rv:AV} (haft:lx G A av) (hN:N<=1000) (hA:∀ l∈A,∀ y∈l,y < N) (hrow:∀ l∈A,l.length < 2 ^ 20) (hlA:A.length=N) (hx:x < N) (hs:SlS 30 1 G rv (ints (A.getD x []))):∀ (d q:Nat) (tm:List AV) (K:AH),(A.getD x []).length - q=d->q<=(A.getD x []).length->(tm.length=158/\tm.getD 15 uA=.ptr a 0/\tm.getD 16 uA=slN ob N/\tm.getD 17 uA=slN wb N/\tm.getD 22 uA=.ptr hb 0/\tm.getD 25 uA=I (x:Nat)/\tm.getD 121 uA=rv/\tm.getD 122 uA=I ((A.getD x []).length:Nat)/\tm.getD 123 uA=I ((q:Nat):Int)/\∃ w b v T,WvS G K a ob wb iv av N w b/\HpS G a ob wb hb v/\HpR K hb v T/\Qu.KI A N Ds x q w b T) ->
   ∃ X K1,EvC aa C0 W0 iV JG (tm,K)=some (.exit 10,(X,K1))/\(X.length=158/\X.getD 15 uA=.ptr a 0/\X.getD 16 uA=slN ob N/\X.getD 17 uA=slN wb N/\X.getD 22 uA=.ptr hb 0/\X.getD 25 uA=I (x:Nat)/\X.getD 121 uA=rv/\X.getD 122 uA=I ((A.getD x []).length:Nat)/\X.getD 123 uA=I (((A.getD x []).length:Nat):Int)/\∃ w b v T,WvS G K1 a ob wb iv av N w b/\HpS G a ob wb hb v/\HpR K1 hb v T/\Qu.KI A N Ds x (A.getD x []).length w b T):=by
 have hrl:=hrow _ (eX (show x < A.length by omega) [])
 intro d
 induction d with
 | zero =>
   intro q tm K hd hq hI
   have hql:q=(A.getD x []).length:=by omega
   subst hql
   obtain ⟨hlen,h15,h16,h17,h22,h25,h121,h122,h123,w,b,v,T,hW,hS,hH,hK⟩:=hI
   have hlt:ltB (((A.getD x []).length:Nat):Int) ((A.getD x []).length:Nat)=false:=db (by omega)
   rw [Ly]
   simp -implicitDefEqProofs only [Ct,Tryz.f19,aP,hlen,h15,h16,h17,h22,h25,h121,h122,h123,hlt,↓cbT,↓cbF,↓ao,an,eu,sevalprocAttr]
   exact ⟨_,K,rfl,by simp only [ls,hlen],Aj8 (by simp only [hlen,h15,h16,h17,h22,h25,h121,h122,h123,gB,and_self,sevalprocAttr]) ⟨w,b,v,T,hW,hS,hH,hK⟩⟩
 | succ d ih =>
   intro q tm K hd hq hI
   obtain ⟨hlen,h15,h16,h17,h22,h25,h121,h122,h123,w,b,v,T,hW,hS,hH,hK⟩:=hI
   have hqN:q < (A.getD x []).length:=by omega
   have hlt:ltB (q:Int) ((A.getD x []).length:Nat)=true:=cQ (by omega)
   have hwi:=cD (j:=q) (by omega)
   obtain ⟨i1,k1,hix,hrd⟩:=ints_at hs hW.ag hqN
   have hrd:=hrd []
   rw [af] at hrd
   obtain ⟨y,hy⟩:∃ y,(A.getD x [])[q]? =some y:=⟨_,aj hqN⟩
   have hyd:(A.getD x []).getD q 0=y:=by rw [gde,hy]; rfl
   rw [hyd] at hrd
   obtain ⟨hb1,hyN,hK2⟩:=hK.step hA hy
   have hyb:y < b.length:=by rw [hW.lb]; exact hyN
   have hyw:y < w.length:=by rw [hW.lw]; exact hyN
   have hxw:x < w.length:=by rw [hW.lw]; exact hx
   have hxo:=fun kk=>ixN (N:=N) ob hx kk
   have hyo:=fun kk=>ixN (N:=N) ob hyN kk
   have hyw':=fun kk=>ixN (N:=N) wb hyN kk
   have hry:=hW.fo.rd hyw
   have hrx:=hW.fo.rd hxw
   have hDl:Ds.length<=N:=Qu.nJ N Ds hK.nd hK.dN
   have hwxl:w.getD x 0 < 2 ^ 50:=by have:=hK.w3 x hx; omega
   have hwx:=cD (j:=w.getD x 0) (by omega)
   have hmx:=Sb (w.getD y 0) (w.getD x 0+1)
   have hwo:=hW.fo.wr hyw (max (w.getD y 0) (w.getD x 0+1))
   have hW2:=hW.Ra (w':=w.set y (max (w.getD y 0) (w.getD x 0+1))) (by rw [ar,hW.lw])
   have hH2:=hH.Ul hS.c2 hS.v2 (.cells (iv1 (w.set y (max (w.getD y 0) (w.getD x 0+1)))) 3)
   generalize hK2e:K.set ob (.cells (iv1 (w.set y (max (w.getD y 0) (w.getD x 0+1)))) 3)=K2 at hwo hW2 hH2
   have hrb:=hW2.fb.rd hyb
   have hwb:=hW2.fb.wr hyb (b.getD y 0 - 1)
   have hsub:IntKind.i64.wrap (((b.getD y 0:Nat):Int) - 1)=((b.getD y 0 - 1:Nat):Int):=by
     have h1:b.getD y 0<=2 ^ 50:=by
       have h1:=hK.hb y hyN
       have h2:=LW hrow y N
       rw [LV] at h2
       have h3:Qu.rem A N Ds y<=Qu.rem A N [] y:=Re A N Ds y
       have h4:=CU (a:=y) (l:=(A.getD x []).drop q)
       rw [List.length_drop] at h4
       omega
     rw [IntWalk.i64_in _ (by omega)]; omega
   have hW3:=hW2.HU (b':=b.set y (b.getD y 0 - 1)) (by rw [ar,hW.lb])
   have hH3:=hH2.Ul hS.c3 hS.v3 (.cells (iv1 (b.set y (b.getD y 0 - 1))) 3)
   generalize hK3e:K2.set wb (.cells (iv1 (b.set y (b.getD y 0 - 1))) 3)=K3 at hwb hW3 hH3
   have hrb3:=hW3.fb.rd (i:=y) (by rw [ar]; exact hyb)
   rw [Qu.iZ,if_pos ⟨rfl,hyb⟩] at hrb3
   rw [Ly]
   by_cases h0:b.getD y 0 - 1=0
   · have hc:eqB ((b.getD y 0 - 1:Nat):Int) 0=true:=by rw [h0]; rfl
     rw [if_pos h0] at hK2
     have hTl:T.length<=1000:=bc (Qu.nJ N T hK.tn fun t ht=>((hK.tm t).1 ht).1) hN
     obtain ⟨v',K',T',h48,hp,hH',hf⟩:=Wt hH3 hTl y
     obtain ⟨hW',hS'⟩:=hW3.fr hS hf
     simp -implicitDefEqProofs only [Ct,Tryz.f19,aP,hlen,h15,h16,h17,h22,h25,h121,h122,h123,hlt,hwi,hix,hrd,hxo,hyo,hyw',hry,hrx,hwx,↓dn Bf,z3,↓zr,PV,hmx,hwo,hrb,hsub,hwb,hrb3,hc,st3,↓uJ,↓AL,↓V6,h48,r5,↓az,nck,d6,dz,eE,fi,cJ,d5,dH,du,↓cbT,↓cbF,↓ao,an,eu,sevalprocAttr,↓fK,↓fI,↓jG,↓gP,↓fJ,↓gQ,↓ez,↓fL,↓cF,↓bX,↓dj,↓gR,↓eA,↓fM,↓cH,↓cG,↓dk,↓e9,↓dK,eB,cd,ai,bV,di,dJ,eC]
     exact ih (q+1) _ K' (by omega) (by omega) ⟨by simp only [ls,hlen],Aj8 (by simp only [hlen,h15,h16,h17,h22,h25,h121,h122,gB,and_self,sevalprocAttr]) ⟨_,_,_,_,hW',hS',hH',hK2.perm hp.symm⟩⟩
   · have hc:eqB ((b.getD y 0 - 1:Nat):Int) 0=false:=jh (by omega)
     rw [if_neg h0] at hK2
     simp -implicitDefEqProofs only [Ct,Tryz.f19,aP,hlen,h15,h16,h17,h22,h25,h121,h122,h123,hlt,hwi,hix,hrd,hxo,hyo,hyw',hry,hrx,hwx,↓dn Bf,z3,↓zr,PV,hmx,hwo,hrb,hsub,hwb,hrb3,hc,st3,r5,↓az,nck,d6,dz,eE,fi,cJ,d5,dH,du,↓cbT,↓cbF,↓ao,an,eu,sevalprocAttr,↓fK,↓fI,↓jG,↓gP,↓fJ,↓gQ,↓ez,↓fL,↓cF,↓bX,↓dj,↓gR,↓eA,↓fM,↓cH,↓cG,↓dk,↓e9,↓dK,eB,cd,ai,bV,di,dJ,eC]
     exact ih (q+1) _ K3 (by omega) (by omega) ⟨by simp only [ls,hlen],Aj8 (by simp only [hlen,h15,h16,h17,h22,h25,h121,h122,gB,and_self,sevalprocAttr]) ⟨_,_,_,_,hW3,hS,hH3,hK2⟩⟩
theorem M3 {G:AH} {a ob wb hb N:Nat} {iv av:AV} {A:List (List Nat)} {Ds:List Nat} {x:Nat} {rv:AV} (haft:lx G A av) (hN:N<=1000) (hA:∀ l∈A,∀ y∈l,y < N) (hrow:∀ l∈A,l.length < 2 ^ 20) (hlA:A.length=N) (hx:x < N) (hs:SlS 30 1 G rv (ints (A.getD x []))) {tm:List AV} {K:AH} {Z:Option (bu × St)} (hX:EvC aa C0 W0 iV JG (tm,K)=Z) (hI:tm.length=158/\tm.getD 15 uA=.ptr a 0/\tm.getD 16 uA=slN ob N/\tm.getD 17 uA=slN wb N/\tm.getD 22 uA=.ptr hb 0/\tm.getD 25 uA=I (x:Nat)/\tm.getD 121 uA=rv/\tm.getD 122 uA=I ((A.getD x []).length:Nat)/\tm.getD 123 uA=I ((0:Nat):Int)/\∃ w b v T,WvS G K a ob wb iv av N w b/\HpS G a ob wb hb v/\HpR K hb v T/\Qu.KI A N Ds x 0 w b T) :
   ∃ X K1,Z=some (.exit 10,(X,K1))/\(X.length=158/\X.getD 15 uA=.ptr a 0/\X.getD 16 uA=slN ob N/\X.getD 17 uA=slN wb N/\X.getD 22 uA=.ptr hb 0/\X.getD 25 uA=I (x:Nat)/\X.getD 121 uA=rv/\X.getD 122 uA=I ((A.getD x []).length:Nat)/\X.getD 123 uA=I (((A.getD x []).length:Nat):Int)/\∃ w b v T,WvS G K1 a ob wb iv av N w b/\HpS G a ob wb hb v/\HpR K1 hb v T/\Qu.KI A N Ds x (A.getD x []).length w b T):=by
 subst hX
 exact Q0 haft hN hA hrow hlA hx hs _ 0 tm K rfl (fy _) hI
theorem M1 {G:AH} {a ob wb hb N:Nat} {iv av:AV} {A:List (List Nat)} (haft:lx G A av) (hN:N<=1000) (hA:∀ l∈A,∀ y∈l,y < N) (hrow:∀ l∈A,l.length < 2 ^ 20) (hlA:A.length=N):∀ (M:Nat) (Ds w b T:List Nat) (v:AV) (tm:List AV) (K:AH),N - Ds.length=M->(tm.length=158/\tm.getD 15 uA=.ptr a 0/\tm.getD 16 uA=slN ob N/\tm.getD 17 uA=slN wb N/\tm.getD 22 uA=.ptr hb 0)->WvS G K a ob wb iv av N w b->HpS G a ob wb hb v->HpR K hb v T->Qu.KO A N Ds w b T ->
   ∃ X K1 Ds w b,EvC aa C0 W0 iV JF (tm,K)=some (.exit 8,(X,K1))/\X.length=158/\X.getD 16 uA=slN ob N/\WvS G K1 a ob wb iv av N w b/\Qu.KO A N Ds w b []:=by
 intro M
 induction M using Nat.strongRecOn with
 | ind M ih =>
   intro Ds w b T v tm K hM hI hW hS hH hK
   obtain ⟨hlen,h15,h16,h17,h22⟩:=hI
   have hTl:T.length<=1000:=bc (Qu.nJ N T hK.tn fun t ht=>((hK.tm t).1 ht).1) hN
   have hrd:=hH.rd
   have h49:=SD hH.sl
   rw [SK]
   cases hT:T with
   | nil =>
     subst hT
     have l0:ltB 0 ((([]:List Nat).length:Nat):Int)=false:=rfl
     simp -implicitDefEqProofs only [Fz,Tryz.f19,aP,hlen,h15,h16,h17,h22,mJ,hrd,pZ,↓V5,h49,l0,r5,↓az,nck,↓cbT,↓cbF,↓ao,an,eu,sevalprocAttr]
     exact ⟨_,K,Ds,w,b,rfl,by simp only [ls,hlen],by simp only [hlen,h16,gB,sevalprocAttr],hW,hK⟩
   | cons t0 Tt =>
     have hpos:0 < T.length:=by rw [hT]; simp
     have l0:ltB 0 ((T.length:Nat):Int)=true:=cQ (by omega)
     obtain ⟨x,T0,v',K',h50,hp,hH',hf⟩:=aag hH hTl hpos
     obtain ⟨hW',hS'⟩:=hW.fr hS hf
     have hK1:=(hK.perm hp.symm).pop
     have hx:x < N:=hK1.dN x (List.mem_cons_self ..)
     obtain ⟨i1,k1,rv,hix,hrd1,hs⟩:=haft.at hW'.ag (j:=x) (by omega)
     have hrd1:=hrd1 []
     rw [af] at hrd1
     have hrp:=hW'.rdp
     have hln:=fun K=>mM hs K
     have hDl:(x::Ds).length<=N:=Qu.nJ N _ hK1.nd hK1.dN
     simp only [b6] at hDl
     simp -implicitDefEqProofs only [Fz,Tryz.f19,aP,hlen,h15,h16,h17,h22,mJ,hrd,pZ,↓V5,h49,l0,↓uJ,↓ZC,h50,↓Mo,Ud,ur,Dy,hrp,hix,hrd1,hln,r5,↓az,nck,↓cbT,↓cbF,↓ao,an,eu,sevalprocAttr]
     generalize hX:EvC aa C0 W0 iV (Code.loop _) _=Z
     obtain ⟨X,K1,he,x0,x15,x16,x17,x22,x25,x121,x122,x123,w1,b1,v1,T1,hW1,hS1,hH1,hKI⟩:=M3 (Ds:=x::Ds) (x:=x) haft hN hA hrow hlA hx hs hX ⟨by simp only [ls,hlen],Aj7 (by simp only [hlen,h15,h16,h17,h22,gB,and_self,sevalprocAttr]) ⟨by simp only [hlen,gB,sevalprocAttr]; try rfl,w,b,v',T0,hW',hS',hH',hK1⟩⟩
     subst he
     simp -implicitDefEqProofs only [x0,x15,x16,x17,x22,↓cbT,↓cbF,↓ao,an,eu,sevalprocAttr]
     generalize hX2:EvC aa C0 W0 iV _ _=Z
     obtain ⟨X',K2,D2,w2,b2,e1,e2⟩:=ih (N - (x::Ds).length) (by simp only [b6]; omega) (x::Ds) w1 b1 T1 v1 X K1 rfl ⟨x0,x15,x16,x17,x22⟩ hW1 hS1 hH1 (hKI.out (ax _))
     exact ⟨X',K2,D2,w2,b2,hX2.symm.trans e1,e2⟩
theorem HG {G:AH} {a ob wb hb N:Nat} {iv av:AV} {A:List (List Nat)} (haft:lx G A av) (hN:N<=1000) (hA:∀ l∈A,∀ y∈l,y < N) (hrow:∀ l∈A,l.length < 2 ^ 20) (hlA:A.length=N) {w b T:List Nat} {v:AV} {tm:List AV} {K:AH} {Z:Option (bu × St)} (hX:EvC aa C0 W0 iV JF (tm,K)=Z) (hI:tm.length=158/\tm.getD 15 uA=.ptr a 0/\tm.getD 16 uA=slN ob N/\tm.getD 17 uA=slN wb N/\tm.getD 22 uA=.ptr hb 0) (hW:WvS G K a ob wb iv av N w b) (hS:HpS G a ob wb hb v) (hH:HpR K hb v T) (hK:Qu.KO A N [] w b T) :
   ∃ X K1 Ds w b,Z=some (.exit 8,(X,K1))/\X.length=158/\X.getD 16 uA=slN ob N/\WvS G K1 a ob wb iv av N w b/\Qu.KO A N Ds w b []:=by
 subst hX
 exact M1 haft hN hA hrow hlA _ [] w b T v tm K rfl hI hW hS hH hK
end Go.Dv
namespace Go.Dv
open Go.Proofs
theorem xS {ss:List (List Itm)} {l:List Itm} (h:l∈gI ss):∃ l0∈ss,l=l0.filter nkB:=by
 unfold gI at h
 obtain ⟨l0,h0,rfl⟩:=bY.1 h
 exact ⟨l0,h0,rfl⟩
theorem Ey {x:Itm}:nkB x=true↔x.kind≠0:=by
 unfold nkB
 rw [ba,<-Bool.not_eq_true,cX]
theorem Fo {ss:List (List Itm)}:∀ l∈gI ss,∀ x∈l,x.kind≠0:=by
 intro l hl x hx
 obtain ⟨l0,_,rfl⟩:=xS hl
 exact Ey.1 (gf.1 hx).2
theorem Cd {ss:List (List Itm)} {l:List Itm} {x:Itm} (hl:l∈gI ss) (hx:x∈l):∃ l0∈ss,x∈l0:=by
 obtain ⟨l0,h0,rfl⟩:=xS hl
 exact ⟨l0,h0,(gf.1 hx).1⟩
theorem xU (ss:List (List Itm)):(gI ss).length=ss.length:=by unfold gI; simp
theorem Ge {cs cs':List Cod} {m:List (List Int)} {x:Itm} (hk:x.kind≠0):cK cs m x=cK cs' m x:=by
 unfold cK
 rw [jh hk]
 simp only [cZ]
theorem Md (ss:List (List Itm)):((gI ss).map fU).sum<=(ss.map fU).sum:=by
 unfold gI
 induction ss with
 | nil=>simp
 | cons l ss ih =>
   have:=kS nkB l
   simp only [List.map_cons,List.sum_cons]
   omega
theorem za {cs:List Cod} {m:List (List Int)} {ss:List (List Itm)} {f:Con} (h:fG cs m ss f=0):oV cs m ss=true:=by
 unfold fG at h
 cases h0:tf f && uL cs with
 | false=>rw [h0] at h; cases h
 | true =>
   rw [h0] at h
   cases h1:oV cs m ss with
   | false=>rw [h1] at h; cases h
   | true=>rfl
theorem D3 {cs:List Cod} {m:List (List Int)} {ss:List (List Itm)} (hl:∀ l∈ss,l.length < 2 ^ 50) (h:fG cs m ss fm=0) (hg:Good cs m ss fm):fG [] m (gI ss) fm=0:=by
 have hs:=za h
 have h1:oV [] m (gI ss)=true:=by
   unfold oV at hs ⊢
   simp only [Bool.and_eq_true,ba,fe] at hs ⊢
   obtain ⟨⟨⟨⟨⟨a1,a2⟩,a3⟩,a4⟩,a5⟩,a6⟩:=hs
   have hlb:∀ l∈gI ss,l.length < 2 ^ 50:=fun l hl'=>by
     obtain ⟨l0,h0,rfl⟩:=xS hl'
     exact uN (kS _ _) (hl l0 h0)
   have hn4:=hg.n4
   obtain ⟨s1,_⟩:=vL hlb (gI ss).length (ax _) (by rw [xU]; omega)
   rw [List.take_of_length_le (by rw [au]; exact ax _)] at s1
   have s2:=Md ss
   have s3:=hg.few
   rw [s1]
   refine ⟨⟨⟨⟨⟨?_,?_⟩,?_⟩,?_⟩,a5⟩,a6⟩
   · rw [xU]; exact a1
   · rw [xU]; exact a2
   · simp
   · omega
 have h2:yb [] m (gI ss)=true:=by
   unfold yb
   rw [dy]
   intro i hi
   unfold lh
   rw [dy]
   intro k hk
   have m1:aR (gI ss) i∈gI ss:=gO hi
   have m2:bB (aR (gI ss) i) k∈aR (gI ss) i:=fu hk
   obtain ⟨l0,h0,hx⟩:=Cd m1 m2
   rw [Ge (cs':=cs) (Fo _ m1 _ m2)]
   exact hg.it l0 h0 _ hx
 unfold fG
 rw [show (tf fm && uL [])=true from rfl,h1,h2]; rfl
theorem Nz (ss:List (List Itm)):qS (gI ss)=Qu.pd (fun y=>decide (y.kind≠0)) (qS ss):=by
 unfold qS gI Qu.pd
 rw [QF,QF]
 refine List.map_congr_left fun l _=>?_
 simp only [Function.comp]
 rw [List.filter_map]
 congr 1
 refine List.filter_congr fun x _=>?_
 have:=@Ey x
 cases h:nkB x with
 | true=>exact (decide_eq_true (this.1 h)).symm
 | false=>exact (decide_eq_false fun c=>by rw [this.2 c] at h; cases h).symm
theorem Mr (ss:List (List Itm)):Qu.gK (qS (gI ss))↔Qu.gK (qS ss):=by
 rw [Nz]
 exact Qu.D6 (fun x hx=>decide_eq_true (by omega)) _
theorem wE {ss:List (List Itm)} {m m':List (List Int)} {ad:List Nat} {rc:List Bool} (hev:uM ss) (ht:Trod ss m ad m' rc) (hb:nk ss ad rc=true):(td ss ad rc=0/\Qu.gK (qS ss))∨(td ss ad rc=11/\¬ Qu.gK (qS ss)):=by
 obtain ⟨L,hr,_⟩:=ht
 have hR:=hr.reach
 by_cases h0:(fh ss ad ss.length).sum=0
 · refine .inl ⟨by unfold td; rw [if_pos h0],fun s k x hx=>?_⟩
   rw [<-z8,Qu.qq] at h0
   exact hR.inv.2.1 s k (h0 s k x hx)
 · have hre:dv ss ad rc ss.length=[]:=by
     unfold nk at hb
     rw [Bool.or_eq_true] at hb
     rcases hb with hb | hb
     · exact absurd (by simpa using hb) h0
     · simpa using hb
   refine .inr ⟨by unfold td; rw [if_neg h0,if_pos hre],fun hA=>h0 ?_⟩
   rw [<-z8,Qu.Jl hR (by rw [wO hev]; exact hre)]
   exact hA
theorem At {cs:List Cod} {m:List (List Int)} {ss:List (List Itm)} {f:Con} (hg:Good cs m ss f):uM ss:=fun l hl x hx hk=>tP (hg.it l hl x hx) hk
theorem GR {ss:List (List Itm)} (h:uM ss):uM (gI ss):=fun l hl x hx hk=>by
 obtain ⟨l0,h0,hx0⟩:=Cd hl hx
 exact h l0 h0 x hx0 hk
end Go.Dv
namespace Go.Dv
open Go.Proofs
attribute [local congr] aH bP bj bO bQ
theorem E2 (n:Nat):iv1 (aA n 0)=aA n (I 0):=by unfold iv1; rw [List.map_replicate]; rfl
theorem Ti (H:AH):bf aa none 101 0 [] H=some (.slice H.length 0 1 0 0 true,H++[.cells [] 3]):=by kernel_rfl
theorem qv {K L:AH} {n:Nat} {o:bo} (h:L[n]? =some o):(K++L)[K.length+n]? =some o:=by
 rw [aw (cm _ _),Nat.add_sub_cancel_left]; exact h
theorem Il {K:AH} {iv av:AV} {N:Nat} {tm:List AV} {Z:Option (bu × St)} (hR:EvC aa C0 W0 iV (aQ [true,true,true,true,true,true,false] c19) (tm,K++[.cells [iv,av] 93])=Z) (hlen:tm.length=158) (h15:tm.getD 15 uA=.ptr K.length 0) (hln:∀ G,dR aa 31 G iv=some (I (N:Nat))) (hN:N<=1000) :
   ∃ tm' K' ob wb,Z=some (.normal,(tm',K'))/\tm'.length=158/\(∀ i,i < 16->tm'.getD i uA=tm.getD i uA)/\tm'.getD 16 uA=slN ob N/\tm'.getD 17 uA=slN wb N/\WvS K K' K.length ob wb iv av N (aA N 0) (aA N 0):=by
 subst hR
 have hrd:∀ L,ak (K++(.cells [iv,av] 93::L)) K.length 0 1=some [iv]:=fun L=>by
   unfold ak
   rw [aw (ax _),Nat.sub_self]; rfl
 have hms:=PX N hN
 simp -implicitDefEqProofs only [c19,Tryz.f19,aP,hlen,h15,hln,hrd,pI,↓dn IN,Dn,d6,dz,eE,fi,cJ,d5,dH,du,↓nq,hms,r5,↓az,nck,↓cbT,↓cbF,↓ao,an,eu,sevalprocAttr,↓fK,↓fI,↓jG,↓gP,↓fJ,↓gQ,↓ez,↓fL,↓cF,↓bX,↓dj,↓gR,↓eA,↓fM,↓cH,↓cG,↓dk,↓e9,↓dK,eB,cd,ai,bV,di,dJ,eC]
 have e1:∀ L:AH,(K++L).length=K.length+L.length:=fun L=>ai
 refine ⟨_,_,K.length+1+3,K.length+1+7,rfl,?_,?_,?_,?_,?_⟩
 · simp only [ar,hlen]
 · intro i hi
   simp only [uo hi,Nat.reduceLeDiff]
 · simp only [hlen,gB,sevalprocAttr]
 · simp only [hlen,gB,sevalprocAttr]
 · exact { ag:=al.app _ _,pc:=qv (n:=0) rfl,fo:=by unfold oQ; rw [E2]; exact qv (n:=4) rfl,fb:=by unfold oQ; rw [E2]; exact qv (n:=8) rfl,lw:=iI,lb:=iI,n1:=by omega,n2:=by omega,n3:=by omega,go:=by omega,gb:=by omega }
theorem PB {G:AH} {ss:List (List Itm)} {vc vm vs:AV} (hs:da G ss vs) (hn4:ss.length<=100) (hl24:∀ l∈ss,l.length<=1000) {tm:List AV} {K:AH} {Z:Option (bu × St)} (hX:EvC aa C0 W0 iV JK (tm,K)=Z) (hI:tm.length=158/\tm.getD 0 uA=vc/\tm.getD 1 uA=vm/\tm.getD 2 uA=vs/\tm.getD 36 uA=vs/\tm.getD 37 uA=I ss.length/\tm.getD 38 uA=I ((0:Nat):Int)/\al G K/\∃ v ws,tm.getD 9 uA=v/\Own G.length K 1 31 v ws/\ws.length=0/\∀ i,i < 0->dA (bC v K) ((aR ss i).filter nkB) (ws.getD i uA)) :
   ∃ X K1,Z=some (.exit 0,(X,K1))/\(X.length=158/\X.getD 0 uA=vc/\X.getD 1 uA=vm/\X.getD 2 uA=vs/\X.getD 36 uA=vs/\X.getD 37 uA=I ss.length/\X.getD 38 uA=I ((ss.length:Nat):Int)/\al G K1/\∃ v ws,X.getD 9 uA=v/\Own G.length K1 1 31 v ws/\ws.length=ss.length/\∀ i,i < ss.length->dA (bC v K1) ((aR ss i).filter nkB) (ws.getD i uA)):=by
 subst hX
 exact Tk hs hn4 hl24 _ 0 tm K rfl (fy _) hI
theorem lx.len {H:AH} {A:List (List Nat)} {av:AV} (h:lx H A av) (G:AH):dR aa 91 G av=some (I (A.length:Nat)):=by
 obtain ⟨ws,h1,h2,_⟩:=h
 have:=h2.len G
 rwa [au,h1] at this
theorem WvS.app {G K:AH} {a ob wb N:Nat} {iv av:AV} {w b:List Nat} (h:WvS G K a ob wb iv av N w b) (L:AH):WvS G (K++L) a ob wb iv av N w b:=
 { h with ag:=h.ag.trans (al.app K L),pc:=(al.app K L).get h.pc,fo:=(al.app K L).get h.fo,fb:=(al.app K L).get h.fb }
def aaI (H K:AH) (ss:List (List Itm)) (v:AV) (e:Int):Prop:=(e=11/\v=.nilSlice/\¬ Qu.gK (qS ss))∨(e=0/\Qu.gK (qS ss)/\∃ w Ds b ob,v=slN ob w.length/\oQ K ob w/\H.length<=ob/\w.length=ss.flatten.length/\Qu.KO (Qu.aft (qS ss)) ss.flatten.length Ds w b [])
theorem WD {H:AH} {cs:List Cod} {m:List (List Int)} {ss:List (List Itm)} {vc vm vs:AV} (hc:cO H cs vc) (hm:dc H m vm) (hs:da H ss vs) (hk:fG cs m ss fm=0) (hg:Good cs m ss fm):∃ v e K,Ev aa C0 W0 19 [vc,vm,vs] H=some (.tuple [v,I e],K)/\Sub H K/\H.length<=K.length/\aaI H K ss v e:=by
 obtain ⟨tm,ht,g0,g1,g2,g3⟩:=tm3 vc vm vs 158 (by decide)
 rw [Zm,ht]
 have hH0:=al.app H [bo.cells (d8 fm) 27]
 have h26:=SG (hc.aX hH0) (hm.aX hH0) (hs.aX hH0) fm
 have h41:=SE H
 rw [hk] at h26
 have hq0:eqB 0 0=true:=rfl
 have hsl:=hs.len
 have hev:=At hg
 have hxl:∀ l∈ss,l.length < 2 ^ 50:=fun xs hx=>by
   obtain ⟨⟨l2,e2,_,h2⟩,_⟩:=hs
   rw [<-e2] at hx
   obtain ⟨p,hp,rfl⟩:=bY.1 hx
   exact (h2 p hp).n
 have hbk:=D3 hxl hk hg
 have hfew:ss.flatten.length<=1000:=by rw [List.length_flatten]; have:=hg.few; omega
 have hl1000:∀ l∈ss,l.length<=1000:=fun l hl=>by
   have h1:=oD (ss.map fU) l.length (bY.2 ⟨l,hl,rfl⟩)
   have:=hg.few
   omega
 have hn4:=hg.n4
 simp only [d8,fm] at h26 h41
 simp -implicitDefEqProofs only [c19,Tryz.f19,aP,g0,g1,g2,g3,↓O8,h41,↓SC,h26,hq0,hsl,r5,↓az,nck,↓cbT,↓cbF,↓ao,an,eu,sevalprocAttr]
 generalize hX:EvC aa C0 W0 iV (Code.loop _) _=Z
 have hG:al H (H++[.cells (d8 fm) 27]):=hH0
 obtain ⟨X,K1,he,xl,x0,x1,x2,x36,x37,x38,hA1,v1,ws,x9,hov,hwl,hR⟩:=PB (G:=H++[.cells (d8 fm) 27]) (vc:=vc) (vm:=vm) (hs.aX hG) (by omega) hl1000 hX ⟨by simp only [ls,g0],by simp only [g0,g1,gB,sevalprocAttr]; try rfl,by simp only [g0,g2,gB,sevalprocAttr]; try rfl,by simp only [g0,g3,gB,sevalprocAttr]; try rfl,by simp only [g0,gB,sevalprocAttr]; try rfl,by simp only [g0,gB,sevalprocAttr]; try rfl,by simp only [g0,gB,sevalprocAttr]; try rfl,al.refl _,.nilSlice,[],by simp only [g0,gB,sevalprocAttr],.nil,rfl,fun i hi=>absurd hi (Nat.not_lt_zero _)⟩
 subst he
 have hbs:=Hc hov hwl (by omega) hR
 have hH1:al H K1:=hG.trans hA1
 have hP1:=al.app K1 [bo.cells (d8 fm) 27]
 have h41':=SE K1
 obtain ⟨v2,K3,ad,m',rc',h17,hS3,hl3,_,_,htr,hend,_⟩:=Pb (cs:=[]) (vc:=.nilSlice) ⟨⟨[],rfl,kG yZ _,fun p hp=>by simp at hp⟩,by simp⟩ ((hm.aX hH1).aX hP1) (hbs.aX hP1) fm hbk Fo
 have hte:=wE (GR hev) htr hend
 rw [Mr] at hte
 have hS03:Sub H K3:=((hH1.trans hP1).sub).trans hS3
 have hl03:H.length<=K3.length:=by
   have h1:=hH1.len
   rw [ai] at hl3
   exact bc (bc h1 (cm _ _)) hl3
 simp only [d8,fm] at h17 h41'
 rcases hte with ⟨h0,hall⟩ | ⟨h0,hall⟩
 · rw [h0] at h17
   obtain ⟨iv,av,K,h42,hS,hlK,hI,haf,hic,hac,hiv⟩:=Wv (hs.sub hS03) hfew (fun l hl x hx hkx=>(hev l hl x hx hkx).1)
   have hput:∀ o,put none K o=some (K.length,K++[o]):=fun _=>rfl
   have hic1:=hic.1
   have hac1:=hac.1
   have hic2:=hic.2
   have hac2:=hac.2
   rw [<-af K] at h42
   simp -implicitDefEqProofs only [xl,x0,x1,x2,x36,x37,x9,↓O8,h41',↓DL,h17,hq0,↓V7,h42,z93,Dx,Q7,↓hic1,↓hac1,↓hic2,↓hac2,hput,r5,↓az,nck,↓cbT,↓cbF,↓ao,an,eu,sevalprocAttr]
   generalize hR:EvC aa C0 W0 iV (Code.region _ _ _) _=Zr
   obtain ⟨t1,K5,ob,wb,he5,y0,ylow,y16,y17,hW⟩:=Il (iv:=iv) (av:=av) (N:=ss.flatten.length) hR (by simp only [ls,xl]) (by simp only [xl,gB,sevalprocAttr]) hI.len hfew
   subst he5
   have y15:t1.getD 15 uA=.ptr K.length 0:=by rw [ylow 15 (by decide)]; simp only [xl,gB,sevalprocAttr]
   have hla:=lx.len haf
   have hlA:(Qu.aft (qS ss)).length=ss.flatten.length:=by rw [Qu.FL,jv,au]
   rw [hlA] at hla
   have hNq:(qS ss).flatten.length=ss.flatten.length:=by rw [jv,au]
   have hAl:∀ l∈Qu.aft (qS ss),∀ y∈l,y < ss.flatten.length:=fun l hl y hy=>by rw [<-hNq]; exact Qu.Ms l hl y hy
   have hrow:∀ l∈Qu.aft (qS ss),l.length < 2 ^ 20:=fun l hl=>by
     unfold Qu.aft at hl
     obtain ⟨n,hn,rfl⟩:=bY.1 hl
     exact uN (yg _ _ _) (by omega)
   have hrp:=hW.rdp
   simp -implicitDefEqProofs only [y0,y15,y16,y17,ur,Dy,hrp,hla,r5,↓az,nck,↓cbT,↓cbF,↓ao,an,eu,sevalprocAttr]
   generalize hX:EvC aa C0 W0 iV (Code.loop _) _=Z
   obtain ⟨X2,K6,he6,z0,z15,z16,z17,z71,z72,z73,b1,hW1,hb1⟩:=LU (a:=K.length) (ob:=ob) (wb:=wb) (iv:=iv) (w:=aA ss.flatten.length 0) haf hfew hAl hrow hlA hX ⟨by simp only [ls,y0],Aj5 (by simp only [y0,y15,y16,y17,gB,and_self,sevalprocAttr]) ⟨by simp only [y0,gB,sevalprocAttr]; try rfl,_,hW,fun y hy=>by
     rw [gde,List.getElem?_replicate,if_pos hy]; rfl⟩⟩
   subst he6
   have bs1:=Ti K6
   simp -implicitDefEqProofs only [z0,z15,z16,z17,z71,z72,z73,bs1,UO,r5,↓az,nck,↓cbT,↓cbF,↓ao,an,eu,sevalprocAttr]
   generalize hX:EvC aa C0 W0 iV (Code.loop _) _=Z
   have la:=aJ hW1.pc
   have lo:=aJ hW1.fo
   have lb:=aJ hW1.fb
   have lK:=hW1.ag.len
   obtain ⟨X3,K7,he7,u0,u15,u16,u17,u22,u93,u94,u95,v3,T3,hW3,hS3,hH3,hP3⟩:=QK (G:=K) (a:=K.length) (ob:=ob) (wb:=wb) (hb:=K6.length+1) (N:=ss.flatten.length) (iv:=iv) (av:=av) (w:=aA ss.flatten.length 0) (b:=b1) hfew hX ⟨by simp only [ls,z0],Aj6 (by simp only [z0,z15,z16,z17,gB,and_self,sevalprocAttr]) ⟨by simp only [z0,gB,sevalprocAttr]; try rfl,.slice K6.length 0 1 0 0 true,[],hW1.app _,
     ⟨by omega,by omega,by omega,by omega,fun e=>by have:=aC (show some K6.length=_ from e); omega,fun e=>by have:=aC (show some K6.length=_ from e); omega,fun e=>by have:=aC (show some K6.length=_ from e); omega,fun i e=>by have:=aC (show some K6.length=_ from e); omega⟩,
     ⟨qv (n:=1) rfl,.at K6.length 0 0 0 true [] [] (fy _) (qv (n:=0) rfl) (ax _) (by simp) (by unfold ak; rw [show (K6++[bo.cells [] 3,bo.cells [AV.slice K6.length 0 1 0 0 true] 101])[K6.length]? =some (.cells [] 3) from qv (n:=0) rfl]; rfl),fun e=>by have:=aC (show some K6.length=some (K6.length+1) from e); omega⟩,by simp⟩⟩
   subst he7
   simp -implicitDefEqProofs only [u0,u15,u16,u17,u22,r5,↓az,nck,↓cbT,↓cbF,↓ao,an,eu,sevalprocAttr]
   generalize hX:EvC aa C0 W0 iV (Code.loop _) _=Z
   obtain ⟨X4,K8,Ds,w,b,he8,q0,q16,hW8,hK8⟩:=HG (a:=K.length) (ob:=ob) (wb:=wb) (hb:=K6.length+1) (iv:=iv) haf hfew hAl hrow hlA hX ⟨by first | exact u0 | simp only [ar,u0],by first | exact u15 | simp only [u0,u15,gB,sevalprocAttr],by first | exact u16 | simp only [u0,u16,gB,sevalprocAttr],by first | exact u17 | simp only [u0,u17,gB,sevalprocAttr],by first | exact u22 | simp only [u0,u22,gB,sevalprocAttr]⟩ hW3 hS3 hH3 ((OQ hW1.lb hb1).perm hP3.symm)
   subst he8
   simp -implicitDefEqProofs only [q0,q16,r5,↓az,nck,↓cbT,↓cbF,↓ao,an,eu,sevalprocAttr]
   refine ⟨_,_,_,rfl,hS03.trans (hS.trans hW8.ag.sub),bc hl03 (bc hlK hW8.ag.len),.inr ⟨rfl,hall,w,Ds,b,ob,by rw [hW8.lw],hW8.fo,bc (bc hl03 hlK) hW8.go,hW8.lw,hK8⟩⟩
 · rw [h0] at h17
   have hq1:eqB 11 0=false:=rfl
   simp -implicitDefEqProofs only [xl,x0,x1,x2,x36,x37,x9,↓O8,h41',↓DL,h17,hq1,r5,↓az,nck,↓cbT,↓cbF,↓ao,an,eu,sevalprocAttr]
   exact ⟨_,_,_,rfl,hS03,hl03,.inl ⟨rfl,rfl,hall⟩⟩
end Go.Dv
