/- Part 34 of the walks (own work). -/
import Derived.Test.YtilpjnckfkjkbaaGreatDoorQ33
set_option maxRecDepth 100000
set_option maxHeartbeats 4000000
set_option linter.unusedSimpArgs false
set_option linter.unusedVariables false
namespace Go.Dv
open Go.Proofs
attribute [local congr] bind_congr_first cb_congr condA_congr gd_congr br_congr
theorem cnt_in {G:AH} {a ob wb N:Nat} {iv av:AV} {A:List (List Nat)} {w:List Nat} {j:Nat} {rv:AV} (haft:AftR G A av) (hN:N<=1000) (hA:∀ l∈A,∀ y∈l,y < N) (hrow:∀ l∈A,l.length < 2 ^ 20) (hlA:A.length=N) (hj:j < N) (hs:SlS 30 1 G rv (ints (A.getD j []))):∀ (d q:Nat) (tm:List AV) (K:AH),(A.getD j []).length - q=d->q<=(A.getD j []).length->(tm.length=158/\tm.getD 15 uA=.ptr a 0/\tm.getD 16 uA=slN ob N/\tm.getD 17 uA=slN wb N/\tm.getD 71 uA=av/\tm.getD 72 uA=I (N:Nat)/\tm.getD 73 uA=I (j:Nat)/\tm.getD 77 uA=rv/\tm.getD 78 uA=I ((A.getD j []).length:Nat)/\tm.getD 79 uA=I ((q:Nat):Int)/\∃ b,WvS G K a ob wb iv av N w b/\∀ y,y < N->b.getD y 0=cn A j y+((A.getD j []).take q).count y) ->
   ∃ X K1,EvC Tryz.prog C0 W0 pl19 l19_1 (tm,K)=some (.exit 4,(X,K1))/\(X.length=158/\X.getD 15 uA=.ptr a 0/\X.getD 16 uA=slN ob N/\X.getD 17 uA=slN wb N/\X.getD 71 uA=av/\X.getD 72 uA=I (N:Nat)/\X.getD 73 uA=I (j:Nat)/\X.getD 77 uA=rv/\X.getD 78 uA=I ((A.getD j []).length:Nat)/\X.getD 79 uA=I (((A.getD j []).length:Nat):Int)/\∃ b,WvS G K1 a ob wb iv av N w b/\∀ y,y < N->b.getD y 0=cn A j y+((A.getD j []).take (A.getD j []).length).count y):=by
 have hjA:A.getD j []∈A:=getD_mem' (by omega) []
 have hrl:=hrow _ hjA
 intro d
 induction d with
 | zero =>
   intro q tm K hd hq hI
   have hql:q=(A.getD j []).length:=by omega
   subst hql
   obtain ⟨hlen,h15,h16,h17,h71,h72,h73,h77,h78,h79,b,hW,hb⟩:=hI
   have hlt:ltB (((A.getD j []).length:Nat):Int) ((A.getD j []).length:Nat)=false:=ltB_f (by omega)
   rw [el19_1]
   simp -implicitDefEqProofs only [b19_1,Tryz.f19,aP,hlen,h15,h16,h17,h71,h72,h73,h77,h78,h79,hlt,↓cbT,↓cbF,↓evDn,evUp,eu,sevalprocAttr]
   exact ⟨_,K,rfl,by simp only [ls,hlen],Aj9 (by simp only [hlen,h15,h16,h17,h71,h72,h73,h77,h78,h79,gB,and_self,sevalprocAttr]) ⟨b,hW,hb⟩⟩
 | succ d ih =>
   intro q tm K hd hq hI
   obtain ⟨hlen,h15,h16,h17,h71,h72,h73,h77,h78,h79,b,hW,hb⟩:=hI
   have hqN:q < (A.getD j []).length:=by omega
   have hlt:ltB (q:Int) ((A.getD j []).length:Nat)=true:=ltB_t (by omega)
   have hwi:=inc_i (j:=q) (by omega)
   obtain ⟨i1,k1,hix,hrd⟩:=ints_at hs hW.ag hqN
   have hrd:=hrd []
   rw [List.append_nil] at hrd
   obtain ⟨y,hy⟩:∃ y,(A.getD j [])[q]? =some y:=⟨_,List.getElem?_eq_getElem hqN⟩
   have hyd:(A.getD j []).getD q 0=y:=by rw [gde,hy]; rfl
   rw [hyd] at hrd
   have hyN:y < N:=hA _ hjA y (List.mem_of_getElem? hy)
   have hyb:y < b.length:=by rw [hW.lb]; exact hyN
   have hixb:=fun kk=>ixN (N:=N) wb hyN kk
   have hrb:=hW.fb.rd hyb
   have hbl:b.getD y 0 < 2 ^ 50:=by
     have h1:=hb y hyN
     have h2:=cn_le hrow y j
     have h3:=List.count_le_length (a:=y) (l:=(A.getD j []).take q)
     rw [List.length_take] at h3
     omega
   have hwy:=inc_i (j:=b.getD y 0) (by omega)
   have hwb:=hW.fb.wr hyb (b.getD y 0+1)
   have hW2:=hW.setB (b':=b.set y (b.getD y 0+1)) (by rw [List.length_set,hW.lb])
   generalize K.set wb (.cells (iv1 (b.set y (b.getD y 0+1))) 3)=K2 at hwb hW2
   rw [el19_1]
   simp -implicitDefEqProofs only [b19_1,Tryz.f19,aP,hlen,h15,h16,h17,h71,h72,h73,h77,h78,h79,hlt,hwi,hix,hrd,hixb,hrb,hwy,hwb,st3,r5,↓evLd,nck,↓cbT,↓cbF,↓evDn,evUp,eu,sevalprocAttr]
   refine ih (q+1) _ K2 (by omega) (by omega) ⟨by simp only [ls,hlen],Aj9 (by simp only [hlen,h15,h16,h17,h71,h72,h73,h77,h78,gB,and_self,sevalprocAttr]) ⟨_,hW2,fun z hz=>?_⟩⟩
   rw [cnt_one _ q y z hy,<-Nat.add_assoc,<-hb z hz,Qu.getD_set']
   by_cases e:y=z
   · subst e; rw [if_pos ⟨rfl,hyb⟩,if_pos rfl]
   · rw [if_neg fun c=>e c.1.symm,if_neg e,Nat.add_zero]
theorem cnt_in' {G:AH} {a ob wb N:Nat} {iv av:AV} {A:List (List Nat)} {w:List Nat} {j:Nat} {rv:AV} (haft:AftR G A av) (hN:N<=1000) (hA:∀ l∈A,∀ y∈l,y < N) (hrow:∀ l∈A,l.length < 2 ^ 20) (hlA:A.length=N) (hj:j < N) (hs:SlS 30 1 G rv (ints (A.getD j []))) {tm:List AV} {K:AH} {Z:Option (AExit × St)} (hX:EvC Tryz.prog C0 W0 pl19 l19_1 (tm,K)=Z) (hI:tm.length=158/\tm.getD 15 uA=.ptr a 0/\tm.getD 16 uA=slN ob N/\tm.getD 17 uA=slN wb N/\tm.getD 71 uA=av/\tm.getD 72 uA=I (N:Nat)/\tm.getD 73 uA=I (j:Nat)/\tm.getD 77 uA=rv/\tm.getD 78 uA=I ((A.getD j []).length:Nat)/\tm.getD 79 uA=I ((0:Nat):Int)/\∃ b,WvS G K a ob wb iv av N w b/\∀ y,y < N->b.getD y 0=cn A j y+((A.getD j []).take 0).count y) :
   ∃ X K1,Z=some (.exit 4,(X,K1))/\(X.length=158/\X.getD 15 uA=.ptr a 0/\X.getD 16 uA=slN ob N/\X.getD 17 uA=slN wb N/\X.getD 71 uA=av/\X.getD 72 uA=I (N:Nat)/\X.getD 73 uA=I (j:Nat)/\X.getD 77 uA=rv/\X.getD 78 uA=I ((A.getD j []).length:Nat)/\X.getD 79 uA=I (((A.getD j []).length:Nat):Int)/\∃ b,WvS G K1 a ob wb iv av N w b/\∀ y,y < N->b.getD y 0=cn A j y+((A.getD j []).take (A.getD j []).length).count y):=by
 subst hX
 exact cnt_in haft hN hA hrow hlA hj hs _ 0 tm K rfl (Nat.zero_le _) hI
theorem cnt_out {G:AH} {a ob wb N:Nat} {iv av:AV} {A:List (List Nat)} {w:List Nat} (haft:AftR G A av) (hN:N<=1000) (hA:∀ l∈A,∀ y∈l,y < N) (hrow:∀ l∈A,l.length < 2 ^ 20) (hlA:A.length=N):∀ (d j:Nat) (tm:List AV) (K:AH),N - j=d->j<=N->(tm.length=158/\tm.getD 15 uA=.ptr a 0/\tm.getD 16 uA=slN ob N/\tm.getD 17 uA=slN wb N/\tm.getD 71 uA=av/\tm.getD 72 uA=I (N:Nat)/\tm.getD 73 uA=I ((j:Nat):Int)/\∃ b,WvS G K a ob wb iv av N w b/\∀ y,y < N->b.getD y 0=cn A j y) ->
   ∃ X K1,EvC Tryz.prog C0 W0 pl19 l19_2 (tm,K)=some (.exit 2,(X,K1))/\(X.length=158/\X.getD 15 uA=.ptr a 0/\X.getD 16 uA=slN ob N/\X.getD 17 uA=slN wb N/\X.getD 71 uA=av/\X.getD 72 uA=I (N:Nat)/\X.getD 73 uA=I ((N:Nat):Int)/\∃ b,WvS G K1 a ob wb iv av N w b/\∀ y,y < N->b.getD y 0=cn A N y):=by
 intro d
 induction d with
 | zero =>
   intro j tm K hd hj hI
   have hjl:j=N:=by omega
   subst hjl
   obtain ⟨hlen,h15,h16,h17,h71,h72,h73,b,hW,hb⟩:=hI
   have hlt:ltB (j:Int) (j:Nat)=false:=ltB_f (by omega)
   rw [el19_2]
   simp -implicitDefEqProofs only [b19_2,Tryz.f19,aP,hlen,h15,h16,h17,h71,h72,h73,hlt,↓cbT,↓cbF,↓evDn,evUp,eu,sevalprocAttr]
   exact ⟨_,K,rfl,by simp only [ls,hlen],Aj6 (by simp only [hlen,h15,h16,h17,h71,h72,h73,gB,and_self,sevalprocAttr]) ⟨b,hW,hb⟩⟩
 | succ d ih =>
   intro j tm K hd hj hI
   obtain ⟨hlen,h15,h16,h17,h71,h72,h73,b,hW,hb⟩:=hI
   have hjN:j < N:=by omega
   have hlt:ltB (j:Int) (N:Nat)=true:=ltB_t (by omega)
   have hwi:=inc_i (j:=j) (by omega)
   obtain ⟨i1,k1,rv,hix,hrd,hs⟩:=haft.at hW.ag (j:=j) (by omega)
   have hrd:=hrd []
   rw [List.append_nil] at hrd
   have hln:=fun K=>ints_ln hs K
   rw [el19_2]
   simp -implicitDefEqProofs only [b19_2,Tryz.f19,aP,hlen,h15,h16,h17,h71,h72,h73,hlt,hix,hrd,ld91,hln,r5,↓evLd,nck,↓cbT,↓cbF,↓evDn,evUp,eu,sevalprocAttr]
   generalize hX:EvC Tryz.prog C0 W0 pl19 (Code.loop _) _=Z
   obtain ⟨X,K1,he,x0,x15,x16,x17,x71,x72,x73,x77,x78,x79,b1,hW1,hb1⟩:=cnt_in' (w:=w) (j:=j) haft hN hA hrow hlA hjN hs hX ⟨by simp only [ls,hlen],Aj8 (by simp only [hlen,h15,h16,h17,h71,h72,h73,gB,and_self,sevalprocAttr]) ⟨by simp only [hlen,gB,sevalprocAttr]; try rfl,b,hW,fun y hy=>by rw [hb y hy]; simp⟩⟩
   subst he
   simp -implicitDefEqProofs only [x0,x15,x16,x17,x71,x72,x73,hwi,↓cbT,↓cbF,↓evDn,evUp,eu,sevalprocAttr]
   exact ih (j+1) _ K1 (by omega) (by omega) ⟨by simp only [ls,x0],Aj6 (by simp only [x0,x15,x16,x17,x71,x72,gB,and_self,sevalprocAttr]) ⟨b1,hW1,fun y hy=>by rw [hb1 y hy,cn_succ,List.take_length]⟩⟩
theorem cnt_out' {G:AH} {a ob wb N:Nat} {iv av:AV} {A:List (List Nat)} {w:List Nat} (haft:AftR G A av) (hN:N<=1000) (hA:∀ l∈A,∀ y∈l,y < N) (hrow:∀ l∈A,l.length < 2 ^ 20) (hlA:A.length=N) {tm:List AV} {K:AH} {Z:Option (AExit × St)} (hX:EvC Tryz.prog C0 W0 pl19 l19_2 (tm,K)=Z) (hI:tm.length=158/\tm.getD 15 uA=.ptr a 0/\tm.getD 16 uA=slN ob N/\tm.getD 17 uA=slN wb N/\tm.getD 71 uA=av/\tm.getD 72 uA=I (N:Nat)/\tm.getD 73 uA=I ((0:Nat):Int)/\∃ b,WvS G K a ob wb iv av N w b/\∀ y,y < N->b.getD y 0=cn A 0 y) :
   ∃ X K1,Z=some (.exit 2,(X,K1))/\(X.length=158/\X.getD 15 uA=.ptr a 0/\X.getD 16 uA=slN ob N/\X.getD 17 uA=slN wb N/\X.getD 71 uA=av/\X.getD 72 uA=I (N:Nat)/\X.getD 73 uA=I ((N:Nat):Int)/\∃ b,WvS G K1 a ob wb iv av N w b/\∀ y,y < N->b.getD y 0=cn A N y):=by
 subst hX
 exact cnt_out haft hN hA hrow hlA _ 0 tm K rfl (Nat.zero_le _) hI
theorem zer_l {G:AH} {a ob wb hb N:Nat} {iv av:AV} {w b:List Nat} (hN:N<=1000):∀ (d j:Nat) (tm:List AV) (K:AH),N - j=d->j<=N->(tm.length=158/\tm.getD 15 uA=.ptr a 0/\tm.getD 16 uA=slN ob N/\tm.getD 17 uA=slN wb N/\tm.getD 22 uA=.ptr hb 0/\tm.getD 93 uA=slN wb N/\tm.getD 94 uA=I (N:Nat)/\tm.getD 95 uA=I ((j:Nat):Int)/\∃ v T,WvS G K a ob wb iv av N w b/\HpS G a ob wb hb v/\HpR K hb v T/\T.Perm ((List.range j).filter fun y=>b.getD y 0 == 0)) ->
   ∃ X K1,EvC Tryz.prog C0 W0 pl19 l19_3 (tm,K)=some (.exit 6,(X,K1))/\(X.length=158/\X.getD 15 uA=.ptr a 0/\X.getD 16 uA=slN ob N/\X.getD 17 uA=slN wb N/\X.getD 22 uA=.ptr hb 0/\X.getD 93 uA=slN wb N/\X.getD 94 uA=I (N:Nat)/\X.getD 95 uA=I ((N:Nat):Int)/\∃ v T,WvS G K1 a ob wb iv av N w b/\HpS G a ob wb hb v/\HpR K1 hb v T/\T.Perm ((List.range N).filter fun y=>b.getD y 0 == 0)):=by
 intro d
 induction d with
 | zero =>
   intro j tm K hd hj hI
   have hjl:j=N:=by omega
   subst hjl
   obtain ⟨hlen,h15,h16,h17,h22,h93,h94,h95,v,T,hW,hS,hH,hP⟩:=hI
   have hlt:ltB (j:Int) (j:Nat)=false:=ltB_f (by omega)
   rw [el19_3]
   simp -implicitDefEqProofs only [b19_3,Tryz.f19,aP,hlen,h15,h16,h17,h22,h93,h94,h95,hlt,↓cbT,↓cbF,↓evDn,evUp,eu,sevalprocAttr]
   exact ⟨_,K,rfl,by simp only [ls,hlen],Aj7 (by simp only [hlen,h15,h16,h17,h22,h93,h94,h95,gB,and_self,sevalprocAttr]) ⟨v,T,hW,hS,hH,hP⟩⟩
 | succ d ih =>
   intro j tm K hd hj hI
   obtain ⟨hlen,h15,h16,h17,h22,h93,h94,h95,v,T,hW,hS,hH,hP⟩:=hI
   have hjN:j < N:=by omega
   have hlt:ltB (j:Int) (N:Nat)=true:=ltB_t (by omega)
   have hwi:=inc_i (j:=j) (by omega)
   have hixb:=fun kk=>ixN (N:=N) wb hjN kk
   have hrb:=hW.fb.rd (by rw [hW.lb]; exact hjN)
   have hTl:T.length<=1000:=by
     rw [hP.length_eq]
     have:=List.length_filter_le (fun y=>b.getD y 0 == 0) (List.range j)
     rw [List.length_range] at this
     omega
   rw [el19_3]
   by_cases h0:b.getD j 0=0
   · have hc:eqB ((b.getD j 0:Nat):Int) 0=true:=by rw [h0]; rfl
     obtain ⟨v',K',T',h48,hp,hH',hf⟩:=ev48 hH hTl j
     obtain ⟨hW',hS'⟩:=hW.fr hS hf
     simp -implicitDefEqProofs only [b19_3,Tryz.f19,aP,hlen,h15,h16,h17,h22,h93,h94,h95,hlt,hwi,hixb,hrb,hc,↓aop_mk100,↓aop_mk3,↓fc48,h48,r5,↓evLd,nck,↓cbT,↓cbF,↓evDn,evUp,eu,sevalprocAttr]
     refine ih (j+1) _ K' (by omega) (by omega) ⟨by simp only [ls,hlen],Aj7 (by simp only [hlen,h15,h16,h17,h22,h93,h94,gB,and_self,sevalprocAttr]) ⟨_,_,hW',hS',hH',?_⟩⟩
     rw [zero_succ,if_pos h0]
     exact hp.trans (hP.append_right _)
   · have hc:eqB ((b.getD j 0:Nat):Int) 0=false:=eqB_f (by omega)
     simp -implicitDefEqProofs only [b19_3,Tryz.f19,aP,hlen,h15,h16,h17,h22,h93,h94,h95,hlt,hwi,hixb,hrb,hc,r5,↓evLd,nck,↓cbT,↓cbF,↓evDn,evUp,eu,sevalprocAttr]
     refine ih (j+1) _ K (by omega) (by omega) ⟨by simp only [ls,hlen],Aj7 (by simp only [hlen,h15,h16,h17,h22,h93,h94,gB,and_self,sevalprocAttr]) ⟨_,_,hW,hS,hH,?_⟩⟩
     rw [zero_succ,if_neg h0,List.append_nil]
     exact hP
theorem zer_l' {G:AH} {a ob wb hb N:Nat} {iv av:AV} {w b:List Nat} (hN:N<=1000) {tm:List AV} {K:AH} {Z:Option (AExit × St)} (hX:EvC Tryz.prog C0 W0 pl19 l19_3 (tm,K)=Z) (hI:tm.length=158/\tm.getD 15 uA=.ptr a 0/\tm.getD 16 uA=slN ob N/\tm.getD 17 uA=slN wb N/\tm.getD 22 uA=.ptr hb 0/\tm.getD 93 uA=slN wb N/\tm.getD 94 uA=I (N:Nat)/\tm.getD 95 uA=I ((0:Nat):Int)/\∃ v T,WvS G K a ob wb iv av N w b/\HpS G a ob wb hb v/\HpR K hb v T/\T.Perm ((List.range 0).filter fun y=>b.getD y 0 == 0)) :
   ∃ X K1,Z=some (.exit 6,(X,K1))/\(X.length=158/\X.getD 15 uA=.ptr a 0/\X.getD 16 uA=slN ob N/\X.getD 17 uA=slN wb N/\X.getD 22 uA=.ptr hb 0/\X.getD 93 uA=slN wb N/\X.getD 94 uA=I (N:Nat)/\X.getD 95 uA=I ((N:Nat):Int)/\∃ v T,WvS G K1 a ob wb iv av N w b/\HpS G a ob wb hb v/\HpR K1 hb v T/\T.Perm ((List.range N).filter fun y=>b.getD y 0 == 0)):=by
 subst hX
 exact zer_l hN _ 0 tm K rfl (Nat.zero_le _) hI
theorem mx_nat (a b:Nat):(if ((b:Nat):Int) > ((a:Nat):Int) then ((b:Nat):Int) else ((a:Nat):Int))=((max a b:Nat):Int):=by
 split <;> omega
theorem rem_le (A:List (List Nat)) (N:Nat) (D:List Nat) (y:Nat):Qu.rem A N D y<=Qu.rem A N [] y:=by
 unfold Qu.rem
 have:∀ (l:List Nat) (f:Nat->Nat) (p q:Nat->Bool),(∀ z,p z=true->q z=true)->((l.filter p).map f).sum<=((l.filter q).map f).sum:=by
   intro l f p q hpq
   induction l with
   | nil=>simp
   | cons z l ih =>
     simp only [List.filter_cons]
     cases hp:p z with
     | true=>rw [hpq z hp]; simp; exact ih
     | false =>
       cases hq:q z with
       | true=>simp; omega
       | false=>simpa using ih
 exact this _ _ _ _ fun z _=>rfl
theorem tak_in {G:AH} {a ob wb hb N:Nat} {iv av:AV} {A:List (List Nat)} {Ds:List Nat} {x:Nat} {rv:AV} (haft:AftR G A av) (hN:N<=1000) (hA:∀ l∈A,∀ y∈l,y < N) (hrow:∀ l∈A,l.length < 2 ^ 20) (hlA:A.length=N) (hx:x < N) (hs:SlS 30 1 G rv (ints (A.getD x []))):∀ (d q:Nat) (tm:List AV) (K:AH),(A.getD x []).length - q=d->q<=(A.getD x []).length->(tm.length=158/\tm.getD 15 uA=.ptr a 0/\tm.getD 16 uA=slN ob N/\tm.getD 17 uA=slN wb N/\tm.getD 22 uA=.ptr hb 0/\tm.getD 25 uA=I (x:Nat)/\tm.getD 121 uA=rv/\tm.getD 122 uA=I ((A.getD x []).length:Nat)/\tm.getD 123 uA=I ((q:Nat):Int)/\∃ w b v T,WvS G K a ob wb iv av N w b/\HpS G a ob wb hb v/\HpR K hb v T/\Qu.KI A N Ds x q w b T) ->
   ∃ X K1,EvC Tryz.prog C0 W0 pl19 l19_4 (tm,K)=some (.exit 10,(X,K1))/\(X.length=158/\X.getD 15 uA=.ptr a 0/\X.getD 16 uA=slN ob N/\X.getD 17 uA=slN wb N/\X.getD 22 uA=.ptr hb 0/\X.getD 25 uA=I (x:Nat)/\X.getD 121 uA=rv/\X.getD 122 uA=I ((A.getD x []).length:Nat)/\X.getD 123 uA=I (((A.getD x []).length:Nat):Int)/\∃ w b v T,WvS G K1 a ob wb iv av N w b/\HpS G a ob wb hb v/\HpR K1 hb v T/\Qu.KI A N Ds x (A.getD x []).length w b T):=by
 have hrl:=hrow _ (getD_mem' (show x < A.length by omega) [])
 intro d
 induction d with
 | zero =>
   intro q tm K hd hq hI
   have hql:q=(A.getD x []).length:=by omega
   subst hql
   obtain ⟨hlen,h15,h16,h17,h22,h25,h121,h122,h123,w,b,v,T,hW,hS,hH,hK⟩:=hI
   have hlt:ltB (((A.getD x []).length:Nat):Int) ((A.getD x []).length:Nat)=false:=ltB_f (by omega)
   rw [el19_4]
   simp -implicitDefEqProofs only [b19_4,Tryz.f19,aP,hlen,h15,h16,h17,h22,h25,h121,h122,h123,hlt,↓cbT,↓cbF,↓evDn,evUp,eu,sevalprocAttr]
   exact ⟨_,K,rfl,by simp only [ls,hlen],Aj8 (by simp only [hlen,h15,h16,h17,h22,h25,h121,h122,h123,gB,and_self,sevalprocAttr]) ⟨w,b,v,T,hW,hS,hH,hK⟩⟩
 | succ d ih =>
   intro q tm K hd hq hI
   obtain ⟨hlen,h15,h16,h17,h22,h25,h121,h122,h123,w,b,v,T,hW,hS,hH,hK⟩:=hI
   have hqN:q < (A.getD x []).length:=by omega
   have hlt:ltB (q:Int) ((A.getD x []).length:Nat)=true:=ltB_t (by omega)
   have hwi:=inc_i (j:=q) (by omega)
   obtain ⟨i1,k1,hix,hrd⟩:=ints_at hs hW.ag hqN
   have hrd:=hrd []
   rw [List.append_nil] at hrd
   obtain ⟨y,hy⟩:∃ y,(A.getD x [])[q]? =some y:=⟨_,List.getElem?_eq_getElem hqN⟩
   have hyd:(A.getD x []).getD q 0=y:=by rw [gde,hy]; rfl
   rw [hyd] at hrd
   obtain ⟨hb1,hyN,hK2⟩:=hK.step hA hy
   have hyb:y < b.length:=by rw [hW.lb]; exact hyN
   have hyw:y < w.length:=by rw [hW.lw]; exact hyN
   have hxw:x < w.length:=by rw [hW.lw]; exact hx
   have hxo:=fun kk=>ixN (N:=N) ob hx kk
   have hyo:=fun kk=>ixN (N:=N) ob hyN kk
   have hyw':=fun kk=>ixN (N:=N) wb hyN kk
   have hry:=hW.fo.rd hyw
   have hrx:=hW.fo.rd hxw
   have hDl:Ds.length<=N:=Qu.nodup_le N Ds hK.nd hK.dN
   have hwxl:w.getD x 0 < 2 ^ 50:=by have:=hK.w3 x hx; omega
   have hwx:=inc_i (j:=w.getD x 0) (by omega)
   have hmx:=mx_nat (w.getD y 0) (w.getD x 0+1)
   have hwo:=hW.fo.wr hyw (max (w.getD y 0) (w.getD x 0+1))
   have hW2:=hW.setO (w':=w.set y (max (w.getD y 0) (w.getD x 0+1))) (by rw [List.length_set,hW.lw])
   have hH2:=hH.setN hS.c2 hS.v2 (.cells (iv1 (w.set y (max (w.getD y 0) (w.getD x 0+1)))) 3)
   generalize hK2e:K.set ob (.cells (iv1 (w.set y (max (w.getD y 0) (w.getD x 0+1)))) 3)=K2 at hwo hW2 hH2
   have hrb:=hW2.fb.rd hyb
   have hwb:=hW2.fb.wr hyb (b.getD y 0 - 1)
   have hsub:IntKind.i64.wrap (((b.getD y 0:Nat):Int) - 1)=((b.getD y 0 - 1:Nat):Int):=by
     have h1:b.getD y 0<=2 ^ 50:=by
       have h1:=hK.hb y hyN
       have h2:=cn_le hrow y N
       rw [cn_rem] at h2
       have h3:Qu.rem A N Ds y<=Qu.rem A N [] y:=rem_le A N Ds y
       have h4:=List.count_le_length (a:=y) (l:=(A.getD x []).drop q)
       rw [List.length_drop] at h4
       omega
     rw [IntWalk.i64_in _ (by omega)]; omega
   have hW3:=hW2.setB (b':=b.set y (b.getD y 0 - 1)) (by rw [List.length_set,hW.lb])
   have hH3:=hH2.setN hS.c3 hS.v3 (.cells (iv1 (b.set y (b.getD y 0 - 1))) 3)
   generalize hK3e:K2.set wb (.cells (iv1 (b.set y (b.getD y 0 - 1))) 3)=K3 at hwb hW3 hH3
   have hrb3:=hW3.fb.rd (i:=y) (by rw [List.length_set]; exact hyb)
   rw [Qu.getD_set',if_pos ⟨rfl,hyb⟩] at hrb3
   rw [el19_4]
   by_cases h0:b.getD y 0 - 1=0
   · have hc:eqB ((b.getD y 0 - 1:Nat):Int) 0=true:=by rw [h0]; rfl
     rw [if_pos h0] at hK2
     have hTl:T.length<=1000:=Nat.le_trans (Qu.nodup_le N T hK.tn fun t ht=>((hK.tm t).1 ht).1) hN
     obtain ⟨v',K',T',h48,hp,hH',hf⟩:=ev48 hH3 hTl y
     obtain ⟨hW',hS'⟩:=hW3.fr hS hf
     simp -implicitDefEqProofs only [b19_4,Tryz.f19,aP,hlen,h15,h16,h17,h22,h25,h121,h122,h123,hlt,hwi,hix,hrd,hxo,hyo,hyw',hry,hrx,hwx,↓EvC_plan plr19_36,p19_36,↓callA_max,mx2_i,hmx,hwo,hrb,hsub,hwb,hrb3,hc,st3,↓aop_mk100,↓aop_mk3,↓fc48,h48,r5,↓evLd,nck,List.any_toArray',List.any_toArray,List.any_cons,List.any_nil,allocates,List.size_toArray,List.replicate_succ,List.replicate_zero,↓cbT,↓cbF,↓evDn,evUp,eu,sevalprocAttr,↓rp_done,↓rp_take,↓rp_rd,↓rp_all,↓rp_join,↓ra_nil,↓ra_first,↓ra_next,↓quietO_none,↓quietO_guardB,↓readO_none,↓q_move,↓q_assign,↓q_field,↓q_fieldAddr,↓q_indexAddr,↓q_nilCheck,↓q_pickB,↓q_extract,put_slot,put_slot_app,List.length_append,Nat.add_assoc,stBeq_self,set_order,keepV_eq]
     exact ih (q+1) _ K' (by omega) (by omega) ⟨by simp only [ls,hlen],Aj8 (by simp only [hlen,h15,h16,h17,h22,h25,h121,h122,gB,and_self,sevalprocAttr]) ⟨_,_,_,_,hW',hS',hH',hK2.perm hp.symm⟩⟩
   · have hc:eqB ((b.getD y 0 - 1:Nat):Int) 0=false:=eqB_f (by omega)
     rw [if_neg h0] at hK2
     simp -implicitDefEqProofs only [b19_4,Tryz.f19,aP,hlen,h15,h16,h17,h22,h25,h121,h122,h123,hlt,hwi,hix,hrd,hxo,hyo,hyw',hry,hrx,hwx,↓EvC_plan plr19_36,p19_36,↓callA_max,mx2_i,hmx,hwo,hrb,hsub,hwb,hrb3,hc,st3,r5,↓evLd,nck,List.any_toArray',List.any_toArray,List.any_cons,List.any_nil,allocates,List.size_toArray,List.replicate_succ,List.replicate_zero,↓cbT,↓cbF,↓evDn,evUp,eu,sevalprocAttr,↓rp_done,↓rp_take,↓rp_rd,↓rp_all,↓rp_join,↓ra_nil,↓ra_first,↓ra_next,↓quietO_none,↓quietO_guardB,↓readO_none,↓q_move,↓q_assign,↓q_field,↓q_fieldAddr,↓q_indexAddr,↓q_nilCheck,↓q_pickB,↓q_extract,put_slot,put_slot_app,List.length_append,Nat.add_assoc,stBeq_self,set_order,keepV_eq]
     exact ih (q+1) _ K3 (by omega) (by omega) ⟨by simp only [ls,hlen],Aj8 (by simp only [hlen,h15,h16,h17,h22,h25,h121,h122,gB,and_self,sevalprocAttr]) ⟨_,_,_,_,hW3,hS,hH3,hK2⟩⟩
theorem tak_in' {G:AH} {a ob wb hb N:Nat} {iv av:AV} {A:List (List Nat)} {Ds:List Nat} {x:Nat} {rv:AV} (haft:AftR G A av) (hN:N<=1000) (hA:∀ l∈A,∀ y∈l,y < N) (hrow:∀ l∈A,l.length < 2 ^ 20) (hlA:A.length=N) (hx:x < N) (hs:SlS 30 1 G rv (ints (A.getD x []))) {tm:List AV} {K:AH} {Z:Option (AExit × St)} (hX:EvC Tryz.prog C0 W0 pl19 l19_4 (tm,K)=Z) (hI:tm.length=158/\tm.getD 15 uA=.ptr a 0/\tm.getD 16 uA=slN ob N/\tm.getD 17 uA=slN wb N/\tm.getD 22 uA=.ptr hb 0/\tm.getD 25 uA=I (x:Nat)/\tm.getD 121 uA=rv/\tm.getD 122 uA=I ((A.getD x []).length:Nat)/\tm.getD 123 uA=I ((0:Nat):Int)/\∃ w b v T,WvS G K a ob wb iv av N w b/\HpS G a ob wb hb v/\HpR K hb v T/\Qu.KI A N Ds x 0 w b T) :
   ∃ X K1,Z=some (.exit 10,(X,K1))/\(X.length=158/\X.getD 15 uA=.ptr a 0/\X.getD 16 uA=slN ob N/\X.getD 17 uA=slN wb N/\X.getD 22 uA=.ptr hb 0/\X.getD 25 uA=I (x:Nat)/\X.getD 121 uA=rv/\X.getD 122 uA=I ((A.getD x []).length:Nat)/\X.getD 123 uA=I (((A.getD x []).length:Nat):Int)/\∃ w b v T,WvS G K1 a ob wb iv av N w b/\HpS G a ob wb hb v/\HpR K1 hb v T/\Qu.KI A N Ds x (A.getD x []).length w b T):=by
 subst hX
 exact tak_in haft hN hA hrow hlA hx hs _ 0 tm K rfl (Nat.zero_le _) hI
theorem tak_out {G:AH} {a ob wb hb N:Nat} {iv av:AV} {A:List (List Nat)} (haft:AftR G A av) (hN:N<=1000) (hA:∀ l∈A,∀ y∈l,y < N) (hrow:∀ l∈A,l.length < 2 ^ 20) (hlA:A.length=N):∀ (M:Nat) (Ds w b T:List Nat) (v:AV) (tm:List AV) (K:AH),N - Ds.length=M->(tm.length=158/\tm.getD 15 uA=.ptr a 0/\tm.getD 16 uA=slN ob N/\tm.getD 17 uA=slN wb N/\tm.getD 22 uA=.ptr hb 0)->WvS G K a ob wb iv av N w b->HpS G a ob wb hb v->HpR K hb v T->Qu.KO A N Ds w b T ->
   ∃ X K1 Ds w b,EvC Tryz.prog C0 W0 pl19 l19_5 (tm,K)=some (.exit 8,(X,K1))/\X.length=158/\X.getD 16 uA=slN ob N/\WvS G K1 a ob wb iv av N w b/\Qu.KO A N Ds w b []:=by
 intro M
 induction M using Nat.strongRecOn with
 | ind M ih =>
   intro Ds w b T v tm K hM hI hW hS hH hK
   obtain ⟨hlen,h15,h16,h17,h22⟩:=hI
   have hTl:T.length<=1000:=Nat.le_trans (Qu.nodup_le N T hK.tn fun t ht=>((hK.tm t).1 ht).1) hN
   have hrd:=hH.rd
   have h49:=ev49 hH.sl
   rw [el19_5]
   cases hT:T with
   | nil =>
     subst hT
     have l0:ltB 0 ((([]:List Nat).length:Nat):Int)=false:=rfl
     simp -implicitDefEqProofs only [b19_5,Tryz.f19,aP,hlen,h15,h16,h17,h22,ld101,hrd,List.head?_cons,↓fc49,h49,l0,r5,↓evLd,nck,↓cbT,↓cbF,↓evDn,evUp,eu,sevalprocAttr]
     exact ⟨_,K,Ds,w,b,rfl,by simp only [ls,hlen],by simp only [hlen,h16,gB,sevalprocAttr],hW,hK⟩
   | cons t0 Tt =>
     have hpos:0 < T.length:=by rw [hT]; simp
     have l0:ltB 0 ((T.length:Nat):Int)=true:=ltB_t (by omega)
     obtain ⟨x,T0,v',K',h50,hp,hH',hf⟩:=ev50 hH hTl hpos
     obtain ⟨hW',hS'⟩:=hW.fr hS hf
     have hK1:=(hK.perm hp.symm).pop
     have hx:x < N:=hK1.dN x (List.mem_cons_self ..)
     obtain ⟨i1,k1,rv,hix,hrd1,hs⟩:=haft.at hW'.ag (j:=x) (by omega)
     have hrd1:=hrd1 []
     rw [List.append_nil] at hrd1
     have hrp:=hW'.rdp
     have hln:=fun K=>ints_ln hs K
     have hDl:(x::Ds).length<=N:=Qu.nodup_le N _ hK1.nd hK1.dN
     simp only [List.length_cons] at hDl
     simp -implicitDefEqProofs only [b19_5,Tryz.f19,aP,hlen,h15,h16,h17,h22,ld101,hrd,List.head?_cons,↓fc49,h49,l0,↓aop_mk100,↓fc50,h50,↓aop_ta,ta_3,fa93_1,ld91,hrp,hix,hrd1,hln,r5,↓evLd,nck,↓cbT,↓cbF,↓evDn,evUp,eu,sevalprocAttr]
     generalize hX:EvC Tryz.prog C0 W0 pl19 (Code.loop _) _=Z
     obtain ⟨X,K1,he,x0,x15,x16,x17,x22,x25,x121,x122,x123,w1,b1,v1,T1,hW1,hS1,hH1,hKI⟩:=tak_in' (Ds:=x::Ds) (x:=x) haft hN hA hrow hlA hx hs hX ⟨by simp only [ls,hlen],Aj7 (by simp only [hlen,h15,h16,h17,h22,gB,and_self,sevalprocAttr]) ⟨by simp only [hlen,gB,sevalprocAttr]; try rfl,w,b,v',T0,hW',hS',hH',hK1⟩⟩
     subst he
     simp -implicitDefEqProofs only [x0,x15,x16,x17,x22,↓cbT,↓cbF,↓evDn,evUp,eu,sevalprocAttr]
     generalize hX2:EvC Tryz.prog C0 W0 pl19 _ _=Z
     obtain ⟨X',K2,D2,w2,b2,e1,e2⟩:=ih (N - (x::Ds).length) (by simp only [List.length_cons]; omega) (x::Ds) w1 b1 T1 v1 X K1 rfl ⟨x0,x15,x16,x17,x22⟩ hW1 hS1 hH1 (hKI.out (Nat.le_refl _))
     exact ⟨X',K2,D2,w2,b2,hX2.symm.trans e1,e2⟩
theorem tak_out' {G:AH} {a ob wb hb N:Nat} {iv av:AV} {A:List (List Nat)} (haft:AftR G A av) (hN:N<=1000) (hA:∀ l∈A,∀ y∈l,y < N) (hrow:∀ l∈A,l.length < 2 ^ 20) (hlA:A.length=N) {w b T:List Nat} {v:AV} {tm:List AV} {K:AH} {Z:Option (AExit × St)} (hX:EvC Tryz.prog C0 W0 pl19 l19_5 (tm,K)=Z) (hI:tm.length=158/\tm.getD 15 uA=.ptr a 0/\tm.getD 16 uA=slN ob N/\tm.getD 17 uA=slN wb N/\tm.getD 22 uA=.ptr hb 0) (hW:WvS G K a ob wb iv av N w b) (hS:HpS G a ob wb hb v) (hH:HpR K hb v T) (hK:Qu.KO A N [] w b T) :
   ∃ X K1 Ds w b,Z=some (.exit 8,(X,K1))/\X.length=158/\X.getD 16 uA=slN ob N/\WvS G K1 a ob wb iv av N w b/\Qu.KO A N Ds w b []:=by
 subst hX
 exact tak_out haft hN hA hrow hlA _ [] w b T v tm K rfl hI hW hS hH hK
end Go.Dv
namespace Go.Dv
open Go.Proofs
theorem bare_mem {ss:List (List Itm)} {l:List Itm} (h:l∈bareS ss):∃ l0∈ss,l=l0.filter nkB:=by
 unfold bareS at h
 obtain ⟨l0,h0,rfl⟩:=List.mem_map.1 h
 exact ⟨l0,h0,rfl⟩
theorem nkB_iff {x:Itm}:nkB x=true↔x.kind≠0:=by
 unfold nkB
 rw [Bool.not_eq_true',<-Bool.not_eq_true,eqB_iff]
theorem bare_nk {ss:List (List Itm)}:∀ l∈bareS ss,∀ x∈l,x.kind≠0:=by
 intro l hl x hx
 obtain ⟨l0,_,rfl⟩:=bare_mem hl
 exact nkB_iff.1 (List.mem_filter.1 hx).2
theorem bare_sub {ss:List (List Itm)} {l:List Itm} {x:Itm} (hl:l∈bareS ss) (hx:x∈l):∃ l0∈ss,x∈l0:=by
 obtain ⟨l0,h0,rfl⟩:=bare_mem hl
 exact ⟨l0,h0,(List.mem_filter.1 hx).1⟩
theorem bare_len (ss:List (List Itm)):(bareS ss).length=ss.length:=by unfold bareS; simp
theorem rightP_nk {cs cs':List Cod} {m:List (List Int)} {x:Itm} (hk:x.kind≠0):rightP cs m x=rightP cs' m x:=by
 unfold rightP
 rw [eqB_f hk]
 simp only [br_false]
theorem bare_sum (ss:List (List Itm)):((bareS ss).map List.length).sum<=(ss.map List.length).sum:=by
 unfold bareS
 induction ss with
 | nil=>simp
 | cons l ss ih =>
   have:=List.length_filter_le nkB l
   simp only [List.map_cons,List.sum_cons]
   omega
theorem good_size {cs:List Cod} {m:List (List Int)} {ss:List (List Itm)} {f:Con} (h:checkP cs m ss f=0):sizeP cs m ss=true:=by
 unfold checkP at h
 cases h0:conP f && allV cs with
 | false=>rw [h0] at h; cases h
 | true =>
   rw [h0] at h
   cases h1:sizeP cs m ss with
   | false=>rw [h1] at h; cases h
   | true=>rfl
theorem bare_check {cs:List Cod} {m:List (List Int)} {ss:List (List Itm)} (hl:∀ l∈ss,l.length < 2 ^ 50) (h:checkP cs m ss plainC=0) (hg:Good cs m ss plainC):checkP [] m (bareS ss) plainC=0:=by
 have hs:=good_size h
 have h1:sizeP [] m (bareS ss)=true:=by
   unfold sizeP at hs ⊢
   simp only [Bool.and_eq_true,Bool.not_eq_true',ltB_iff0] at hs ⊢
   obtain ⟨⟨⟨⟨⟨a1,a2⟩,a3⟩,a4⟩,a5⟩,a6⟩:=hs
   have hlb:∀ l∈bareS ss,l.length < 2 ^ 50:=fun l hl'=>by
     obtain ⟨l0,h0,rfl⟩:=bare_mem hl'
     exact Nat.lt_of_le_of_lt (List.length_filter_le _ _) (hl l0 h0)
   have hn4:=hg.n4
   obtain ⟨s1,_⟩:=sumW_eq hlb (bareS ss).length (Nat.le_refl _) (by rw [bare_len]; omega)
   rw [List.take_of_length_le (by rw [List.length_map]; exact Nat.le_refl _)] at s1
   have s2:=bare_sum ss
   have s3:=hg.few
   rw [s1]
   refine ⟨⟨⟨⟨⟨?_,?_⟩,?_⟩,?_⟩,a5⟩,a6⟩
   · rw [bare_len]; exact a1
   · rw [bare_len]; exact a2
   · simp
   · omega
 have h2:allR [] m (bareS ss)=true:=by
   unfold allR
   rw [allF_iff]
   intro i hi
   unfold rowR
   rw [allF_iff]
   intro k hk
   have m1:strAt (bareS ss) i∈bareS ss:=strAt_mem hi
   have m2:itmAt (strAt (bareS ss) i) k∈strAt (bareS ss) i:=itmAt_mem hk
   obtain ⟨l0,h0,hx⟩:=bare_sub m1 m2
   rw [rightP_nk (cs':=cs) (bare_nk _ m1 _ m2)]
   exact hg.it l0 h0 _ hx
 unfold checkP
 rw [show (conP plainC && allV [])=true from rfl,h1,h2]; rfl
theorem qS_bare (ss:List (List Itm)):qS (bareS ss)=Qu.struck (fun y=>decide (y.kind≠0)) (qS ss):=by
 unfold qS bareS Qu.struck
 rw [List.map_map,List.map_map]
 refine List.map_congr_left fun l _=>?_
 simp only [Function.comp]
 rw [List.filter_map]
 congr 1
 refine List.filter_congr fun x _=>?_
 have:=@nkB_iff x
 cases h:nkB x with
 | true=>exact (decide_eq_true (this.1 h)).symm
 | false=>exact (decide_eq_false fun c=>by rw [this.2 c] at h; cases h).symm
theorem all_bare (ss:List (List Itm)):Qu.AllExec (qS (bareS ss))↔Qu.AllExec (qS ss):=by
 rw [qS_bare]
 exact Qu.all_struck (fun x hx=>decide_eq_true (by omega)) _
theorem trod_end {ss:List (List Itm)} {m m':List (List Int)} {ad:List Nat} {rc:List Bool} (hev:EvOk ss) (ht:Trod ss m ad m' rc) (hb:endB ss ad rc=true):(endE ss ad rc=0/\Qu.AllExec (qS ss))∨(endE ss ad rc=11/\¬ Qu.AllExec (qS ss)):=by
 obtain ⟨L,hr,_⟩:=ht
 have hR:=hr.reach
 by_cases h0:(leftS ss ad ss.length).sum=0
 · refine .inl ⟨by unfold endE; rw [if_pos h0],fun s k x hx=>?_⟩
   rw [<-left_eq,Qu.left_zero] at h0
   exact hR.inv.2.1 s k (h0 s k x hx)
 · have hre:readyS ss ad rc ss.length=[]:=by
     unfold endB at hb
     rw [Bool.or_eq_true] at hb
     rcases hb with hb | hb
     · exact absurd (by simpa using hb) h0
     · simpa using hb
   refine .inr ⟨by unfold endE; rw [if_neg h0,if_pos hre],fun hA=>h0 ?_⟩
   rw [<-left_eq,Qu.left_all hR (by rw [ready_eq hev]; exact hre)]
   exact hA
theorem evok_of {cs:List Cod} {m:List (List Int)} {ss:List (List Itm)} {f:Con} (hg:Good cs m ss f):EvOk ss:=fun l hl x hx hk=>rightP_ev (hg.it l hl x hx) hk
theorem evok_bare {ss:List (List Itm)} (h:EvOk ss):EvOk (bareS ss):=fun l hl x hx hk=>by
 obtain ⟨l0,h0,hx0⟩:=bare_sub hl hx
 exact h l0 h0 x hx0 hk
end Go.Dv
namespace Go.Dv
open Go.Proofs
attribute [local congr] bind_congr_first cb_congr condA_congr gd_congr br_congr
theorem iv1_rep (n:Nat):iv1 (List.replicate n 0)=List.replicate n (I 0):=by unfold iv1; rw [List.map_replicate]; rfl
theorem bs101e (H:AH):buildSliceA Tryz.prog none 101 0 [] H=some (.slice H.length 0 1 0 0 true,H++[.cells [] 3]):=by kernel_rfl
theorem get_apn {K L:AH} {n:Nat} {o:AObj} (h:L[n]? =some o):(K++L)[K.length+n]? =some o:=by
 rw [List.getElem?_append_right (Nat.le_add_right _ _),Nat.add_sub_cancel_left]; exact h
theorem reg19_14 {K:AH} {iv av:AV} {N:Nat} {tm:List AV} {Z:Option (AExit × St)} (hR:EvC Tryz.prog C0 W0 pl19 (atPath [true,true,true,true,true,true,false] c19) (tm,K++[.cells [iv,av] 93])=Z) (hlen:tm.length=158) (h15:tm.getD 15 uA=.ptr K.length 0) (hln:∀ G,lenA Tryz.prog 31 G iv=some (I (N:Nat))) (hN:N<=1000) :
   ∃ tm' K' ob wb,Z=some (.normal,(tm',K'))/\tm'.length=158/\(∀ i,i < 16->tm'.getD i uA=tm.getD i uA)/\tm'.getD 16 uA=slN ob N/\tm'.getD 17 uA=slN wb N/\WvS K K' K.length ob wb iv av N (List.replicate N 0) (List.replicate N 0):=by
 subst hR
 have hrd:∀ L,rdCells (K++(.cells [iv,av] 93::L)) K.length 0 1=some [iv]:=fun L=>by
   unfold rdCells
   rw [List.getElem?_append_right (Nat.le_refl _),Nat.sub_self]; rfl
 have hms:=ms30s N hN
 simp -implicitDefEqProofs only [c19,Tryz.f19,aP,hlen,h15,hln,hrd,fa93_0,↓EvC_plan plr19_14,p19_14,List.any_toArray',List.any_toArray,List.any_cons,List.any_nil,allocates,List.size_toArray,List.replicate_succ,List.replicate_zero,↓aop_makeSlice,hms,r5,↓evLd,nck,↓cbT,↓cbF,↓evDn,evUp,eu,sevalprocAttr,↓rp_done,↓rp_take,↓rp_rd,↓rp_all,↓rp_join,↓ra_nil,↓ra_first,↓ra_next,↓quietO_none,↓quietO_guardB,↓readO_none,↓q_move,↓q_assign,↓q_field,↓q_fieldAddr,↓q_indexAddr,↓q_nilCheck,↓q_pickB,↓q_extract,put_slot,put_slot_app,List.length_append,Nat.add_assoc,stBeq_self,set_order,keepV_eq]
 have e1:∀ L:AH,(K++L).length=K.length+L.length:=fun L=>List.length_append
 refine ⟨_,_,K.length+1+3,K.length+1+7,rfl,?_,?_,?_,?_,?_⟩
 · simp only [List.length_set,hlen]
 · intro i hi
   simp only [gs_low hi,Nat.reduceLeDiff]
 · simp only [hlen,gB,sevalprocAttr]
 · simp only [hlen,gB,sevalprocAttr]
 · exact { ag:=Agree.app _ _,pc:=get_apn (n:=0) rfl,fo:=by unfold NumR; rw [iv1_rep]; exact get_apn (n:=4) rfl,fb:=by unfold NumR; rw [iv1_rep]; exact get_apn (n:=8) rfl,lw:=List.length_replicate,lb:=List.length_replicate,n1:=by omega,n2:=by omega,n3:=by omega,go:=by omega,gb:=by omega }
theorem ev19_bad {H:AH} {cs:List Cod} {m:List (List Int)} {ss:List (List Itm)} {vc vm vs:AV} (hc:CodsR H cs vc) (hm:MemR H m vm) (hs:StrsR H ss vs) (hk:checkP cs m ss plainC≠0):∃ K,Ev Tryz.prog C0 W0 19 [vc,vm,vs] H=some (.tuple [.nilSlice,I (checkP cs m ss plainC)],K)/\Agree H K:=by
 obtain ⟨tm,ht,g0,g1,g2,g3⟩:=tm3 vc vm vs 158 (by decide)
 rw [fe19,ht]
 have hH0:=Agree.app H [AObj.cells (rowF plainC) 27]
 have h26:=ev26 (hc.agree hH0) (hm.agree hH0) (hs.agree hH0) plainC
 have h41:=ev41 H
 have hne:eqB (checkP cs m ss plainC) 0=false:=eqB_f hk
 generalize checkP cs m ss plainC=k at h26 hk hne ⊢
 simp only [rowF,plainC] at h26 h41 hH0
 refine ⟨_,?_,hH0⟩
 simp -implicitDefEqProofs only [c19,Tryz.f19,aP,g0,g1,g2,g3,↓fc41,h41,↓fc26,h26,hne,r5,↓evLd,nck,↓cbT,↓cbF,↓evDn,evUp,eu,sevalprocAttr]
theorem bare_l' {G:AH} {ss:List (List Itm)} {vc vm vs:AV} (hs:StrsR G ss vs) (hn4:ss.length<=100) (hl24:∀ l∈ss,l.length<=1000) {tm:List AV} {K:AH} {Z:Option (AExit × St)} (hX:EvC Tryz.prog C0 W0 pl19 l19_0 (tm,K)=Z) (hI:tm.length=158/\tm.getD 0 uA=vc/\tm.getD 1 uA=vm/\tm.getD 2 uA=vs/\tm.getD 36 uA=vs/\tm.getD 37 uA=I ss.length/\tm.getD 38 uA=I ((0:Nat):Int)/\Agree G K/\∃ v ws,tm.getD 9 uA=v/\Own G.length K 1 31 v ws/\ws.length=0/\∀ i,i < 0->ItmsR (killV v K) ((strAt ss i).filter nkB) (ws.getD i uA)) :
   ∃ X K1,Z=some (.exit 0,(X,K1))/\(X.length=158/\X.getD 0 uA=vc/\X.getD 1 uA=vm/\X.getD 2 uA=vs/\X.getD 36 uA=vs/\X.getD 37 uA=I ss.length/\X.getD 38 uA=I ((ss.length:Nat):Int)/\Agree G K1/\∃ v ws,X.getD 9 uA=v/\Own G.length K1 1 31 v ws/\ws.length=ss.length/\∀ i,i < ss.length->ItmsR (killV v K1) ((strAt ss i).filter nkB) (ws.getD i uA)):=by
 subst hX
 exact bare_l hs hn4 hl24 _ 0 tm K rfl (Nat.zero_le _) hI
theorem AftR.len {H:AH} {A:List (List Nat)} {av:AV} (h:AftR H A av) (G:AH):lenA Tryz.prog 91 G av=some (I (A.length:Nat)):=by
 obtain ⟨ws,h1,h2,_⟩:=h
 have:=h2.len G
 rwa [List.length_map,h1] at this
theorem WvS.app {G K:AH} {a ob wb N:Nat} {iv av:AV} {w b:List Nat} (h:WvS G K a ob wb iv av N w b) (L:AH):WvS G (K++L) a ob wb iv av N w b:=
 { h with ag:=h.ag.trans (Agree.app K L),pc:=(Agree.app K L).get h.pc,fo:=(Agree.app K L).get h.fo,fb:=(Agree.app K L).get h.fb }
def WavA (H K:AH) (ss:List (List Itm)) (v:AV) (e:Int):Prop:=(e=11/\v=.nilSlice/\¬ Qu.AllExec (qS ss))∨(e=0/\Qu.AllExec (qS ss)/\∃ w Ds b ob,v=slN ob w.length/\NumR K ob w/\H.length<=ob/\w.length=ss.flatten.length/\Qu.KO (Qu.aft (qS ss)) ss.flatten.length Ds w b [])
theorem ev19 {H:AH} {cs:List Cod} {m:List (List Int)} {ss:List (List Itm)} {vc vm vs:AV} (hc:CodsR H cs vc) (hm:MemR H m vm) (hs:StrsR H ss vs) (hk:checkP cs m ss plainC=0) (hg:Good cs m ss plainC):∃ v e K,Ev Tryz.prog C0 W0 19 [vc,vm,vs] H=some (.tuple [v,I e],K)/\Sub H K/\H.length<=K.length/\WavA H K ss v e:=by
 obtain ⟨tm,ht,g0,g1,g2,g3⟩:=tm3 vc vm vs 158 (by decide)
 rw [fe19,ht]
 have hH0:=Agree.app H [AObj.cells (rowF plainC) 27]
 have h26:=ev26 (hc.agree hH0) (hm.agree hH0) (hs.agree hH0) plainC
 have h41:=ev41 H
 rw [hk] at h26
 have hq0:eqB 0 0=true:=rfl
 have hsl:=hs.len
 have hev:=evok_of hg
 have hxl:∀ l∈ss,l.length < 2 ^ 50:=fun xs hx=>by
   obtain ⟨⟨l2,e2,_,h2⟩,_⟩:=hs
   rw [<-e2] at hx
   obtain ⟨p,hp,rfl⟩:=List.mem_map.1 hx
   exact (h2 p hp).n
 have hbk:=bare_check hxl hk hg
 have hfew:ss.flatten.length<=1000:=by rw [List.length_flatten]; have:=hg.few; omega
 have hl1000:∀ l∈ss,l.length<=1000:=fun l hl=>by
   have h1:=le_sum_mem (ss.map List.length) l.length (List.mem_map.2 ⟨l,hl,rfl⟩)
   have:=hg.few
   omega
 have hn4:=hg.n4
 simp only [rowF,plainC] at h26 h41
 simp -implicitDefEqProofs only [c19,Tryz.f19,aP,g0,g1,g2,g3,↓fc41,h41,↓fc26,h26,hq0,hsl,r5,↓evLd,nck,↓cbT,↓cbF,↓evDn,evUp,eu,sevalprocAttr]
 generalize hX:EvC Tryz.prog C0 W0 pl19 (Code.loop _) _=Z
 have hG:Agree H (H++[.cells (rowF plainC) 27]):=hH0
 obtain ⟨X,K1,he,xl,x0,x1,x2,x36,x37,x38,hA1,v1,ws,x9,hov,hwl,hR⟩:=bare_l' (G:=H++[.cells (rowF plainC) 27]) (vc:=vc) (vm:=vm) (hs.agree hG) (by omega) hl1000 hX ⟨by simp only [ls,g0],by simp only [g0,g1,gB,sevalprocAttr]; try rfl,by simp only [g0,g2,gB,sevalprocAttr]; try rfl,by simp only [g0,g3,gB,sevalprocAttr]; try rfl,by simp only [g0,gB,sevalprocAttr]; try rfl,by simp only [g0,gB,sevalprocAttr]; try rfl,by simp only [g0,gB,sevalprocAttr]; try rfl,Agree.refl _,.nilSlice,[],by simp only [g0,gB,sevalprocAttr],.nil,rfl,fun i hi=>absurd hi (Nat.not_lt_zero _)⟩
 subst he
 have hbs:=bare_strs hov hwl (by omega) hR
 have hH1:Agree H K1:=hG.trans hA1
 have hP1:=Agree.app K1 [AObj.cells (rowF plainC) 27]
 have h41':=ev41 K1
 obtain ⟨v2,K3,ad,m',rc',h17,hS3,hl3,_,_,htr,hend,_⟩:=ev17 (cs:=[]) (vc:=.nilSlice) ⟨⟨[],rfl,sls_nil ix22T _,fun p hp=>by simp at hp⟩,by simp⟩ ((hm.agree hH1).agree hP1) (hbs.agree hP1) plainC hbk bare_nk
 have hte:=trod_end (evok_bare hev) htr hend
 rw [all_bare] at hte
 have hS03:Sub H K3:=((hH1.trans hP1).sub).trans hS3
 have hl03:H.length<=K3.length:=by
   have h1:=hH1.len
   rw [List.length_append] at hl3
   exact Nat.le_trans (Nat.le_trans h1 (Nat.le_add_right _ _)) hl3
 simp only [rowF,plainC] at h17 h41'
 rcases hte with ⟨h0,hall⟩ | ⟨h0,hall⟩
 · rw [h0] at h17
   obtain ⟨iv,av,K,h42,hS,hlK,hI,haf,hic,hac,hiv⟩:=ev42 (hs.sub hS03) hfew (fun l hl x hx hkx=>(hev l hl x hx hkx).1)
   have hput:∀ o,put none K o=some (K.length,K++[o]):=fun _=>rfl
   have hic1:=hic.1
   have hac1:=hac.1
   have hic2:=hic.2
   have hac2:=hac.2
   rw [<-List.append_nil K] at h42
   simp -implicitDefEqProofs only [xl,x0,x1,x2,x36,x37,x9,↓fc41,h41',↓fc17,h17,hq0,↓fc42,h42,z93,ld93,st93,↓hic1,↓hac1,↓hic2,↓hac2,hput,r5,↓evLd,nck,↓cbT,↓cbF,↓evDn,evUp,eu,sevalprocAttr]
   generalize hR:EvC Tryz.prog C0 W0 pl19 (Code.region _ _ _) _=Zr
   obtain ⟨t1,K5,ob,wb,he5,y0,ylow,y16,y17,hW⟩:=reg19_14 (iv:=iv) (av:=av) (N:=ss.flatten.length) hR (by simp only [ls,xl]) (by simp only [xl,gB,sevalprocAttr]) hI.len hfew
   subst he5
   have y15:t1.getD 15 uA=.ptr K.length 0:=by rw [ylow 15 (by decide)]; simp only [xl,gB,sevalprocAttr]
   have hla:=AftR.len haf
   have hlA:(Qu.aft (qS ss)).length=ss.flatten.length:=by rw [Qu.aft_len,qS_flat,List.length_map]
   rw [hlA] at hla
   have hNq:(qS ss).flatten.length=ss.flatten.length:=by rw [qS_flat,List.length_map]
   have hAl:∀ l∈Qu.aft (qS ss),∀ y∈l,y < ss.flatten.length:=fun l hl y hy=>by rw [<-hNq]; exact Qu.aft_lt l hl y hy
   have hrow:∀ l∈Qu.aft (qS ss),l.length < 2 ^ 20:=fun l hl=>by
     unfold Qu.aft at hl
     obtain ⟨n,hn,rfl⟩:=List.mem_map.1 hl
     exact Nat.lt_of_le_of_lt (aftTo_le _ _ _) (by omega)
   have hrp:=hW.rdp
   simp -implicitDefEqProofs only [y0,y15,y16,y17,fa93_1,ld91,hrp,hla,r5,↓evLd,nck,↓cbT,↓cbF,↓evDn,evUp,eu,sevalprocAttr]
   generalize hX:EvC Tryz.prog C0 W0 pl19 (Code.loop _) _=Z
   obtain ⟨X2,K6,he6,z0,z15,z16,z17,z71,z72,z73,b1,hW1,hb1⟩:=cnt_out' (a:=K.length) (ob:=ob) (wb:=wb) (iv:=iv) (w:=List.replicate ss.flatten.length 0) haf hfew hAl hrow hlA hX ⟨by simp only [ls,y0],Aj5 (by simp only [y0,y15,y16,y17,gB,and_self,sevalprocAttr]) ⟨by simp only [y0,gB,sevalprocAttr]; try rfl,_,hW,fun y hy=>by
     rw [gde,List.getElem?_replicate,if_pos hy]; rfl⟩⟩
   subst he6
   have bs1:=bs101e K6
   simp -implicitDefEqProofs only [z0,z15,z16,z17,z71,z72,z73,bs1,ln30N,r5,↓evLd,nck,↓cbT,↓cbF,↓evDn,evUp,eu,sevalprocAttr]
   generalize hX:EvC Tryz.prog C0 W0 pl19 (Code.loop _) _=Z
   have la:=lt_of_get hW1.pc
   have lo:=lt_of_get hW1.fo
   have lb:=lt_of_get hW1.fb
   have lK:=hW1.ag.len
   obtain ⟨X3,K7,he7,u0,u15,u16,u17,u22,u93,u94,u95,v3,T3,hW3,hS3,hH3,hP3⟩:=zer_l' (G:=K) (a:=K.length) (ob:=ob) (wb:=wb) (hb:=K6.length+1) (N:=ss.flatten.length) (iv:=iv) (av:=av) (w:=List.replicate ss.flatten.length 0) (b:=b1) hfew hX ⟨by simp only [ls,z0],Aj6 (by simp only [z0,z15,z16,z17,gB,and_self,sevalprocAttr]) ⟨by simp only [z0,gB,sevalprocAttr]; try rfl,.slice K6.length 0 1 0 0 true,[],hW1.app _,
     ⟨by omega,by omega,by omega,by omega,fun e=>by have:=Option.some.inj (show some K6.length=_ from e); omega,fun e=>by have:=Option.some.inj (show some K6.length=_ from e); omega,fun e=>by have:=Option.some.inj (show some K6.length=_ from e); omega,fun i e=>by have:=Option.some.inj (show some K6.length=_ from e); omega⟩,
     ⟨get_apn (n:=1) rfl,.at K6.length 0 0 0 true [] [] (Nat.zero_le _) (get_apn (n:=0) rfl) (Nat.le_refl _) (by simp) (by unfold rdCells; rw [show (K6++[AObj.cells [] 3,AObj.cells [AV.slice K6.length 0 1 0 0 true] 101])[K6.length]? =some (.cells [] 3) from get_apn (n:=0) rfl]; rfl),fun e=>by have:=Option.some.inj (show some K6.length=some (K6.length+1) from e); omega⟩,by simp⟩⟩
   subst he7
   simp -implicitDefEqProofs only [u0,u15,u16,u17,u22,r5,↓evLd,nck,↓cbT,↓cbF,↓evDn,evUp,eu,sevalprocAttr]
   generalize hX:EvC Tryz.prog C0 W0 pl19 (Code.loop _) _=Z
   obtain ⟨X4,K8,Ds,w,b,he8,q0,q16,hW8,hK8⟩:=tak_out' (a:=K.length) (ob:=ob) (wb:=wb) (hb:=K6.length+1) (iv:=iv) haf hfew hAl hrow hlA hX ⟨by first | exact u0 | simp only [List.length_set,u0],by first | exact u15 | simp only [u0,u15,gB,sevalprocAttr],by first | exact u16 | simp only [u0,u16,gB,sevalprocAttr],by first | exact u17 | simp only [u0,u17,gB,sevalprocAttr],by first | exact u22 | simp only [u0,u22,gB,sevalprocAttr]⟩ hW3 hS3 hH3 ((ko_init hW1.lb hb1).perm hP3.symm)
   subst he8
   simp -implicitDefEqProofs only [q0,q16,r5,↓evLd,nck,↓cbT,↓cbF,↓evDn,evUp,eu,sevalprocAttr]
   refine ⟨_,_,_,rfl,hS03.trans (hS.trans hW8.ag.sub),Nat.le_trans hl03 (Nat.le_trans hlK hW8.ag.len),.inr ⟨rfl,hall,w,Ds,b,ob,by rw [hW8.lw],hW8.fo,Nat.le_trans (Nat.le_trans hl03 hlK) hW8.go,hW8.lw,hK8⟩⟩
 · rw [h0] at h17
   have hq1:eqB 11 0=false:=rfl
   simp -implicitDefEqProofs only [xl,x0,x1,x2,x36,x37,x9,↓fc41,h41',↓fc17,h17,hq1,r5,↓evLd,nck,↓cbT,↓cbF,↓evDn,evUp,eu,sevalprocAttr]
   exact ⟨_,_,_,rfl,hS03,hl03,.inl ⟨rfl,rfl,hall⟩⟩
end Go.Dv
