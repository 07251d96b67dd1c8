/- Part 36 of the walks (own work). -/
import Derived.Test.YtilpjnckfkjkbaaGreatDoorT35
open Bool renaming not_eq_true'→bj,or_eq_true→gz
open List renaming any_cons→dj,any_nil→dG,any_toArray→cm,any_toArray'→dK,append_nil→af,getElem?_append_right→al,head?_cons→ql,length→gJ,length_append→ai,length_cons→cF,length_filter_le→lC,length_map→ar,length_replicate→gP,length_set→aq,map_map→SI,mem_filter→fG,mem_map→bL,replicate→ay,replicate_succ→dc,replicate_zero→cN,size_toArray→dJ
open Nat renaming add_assoc→bJ,le_add_right→du,le_refl→ax,le_trans→ba,lt_of_le_of_lt→vg,zero_le→cX
open Option renaming map_some→cE
open Option.some renaming inj→aE
open Go.Proofs.Tryz renaming prog→aa
set_option maxRecDepth 100000
set_option maxHeartbeats 4000000
set_option linter.unusedSimpArgs false
set_option linter.unusedVariables false
namespace Go.Dv
open Go.Proofs
attribute [local congr] aF bC aY bB bD
theorem Uk (a b:Nat):(if ((b:Nat):Int) > ((a:Nat):Int) then ((b:Nat):Int) else ((a:Nat):Int))=((max a b:Nat):Int):=by
 split <;> omega
theorem Tu (A:List (List Nat)) (N:Nat) (D:List Nat) (y:Nat):Qu.rem A N D y<=Qu.rem A N [] y:=by
 unfold Qu.rem
 have:∀ (l:List Nat) (f:Nat->Nat) (p q:Nat->Bool),(∀ z,p z=true->q z=true)->((l.filter p).map f).sum<=((l.filter q).map f).sum:=by
   intro l f p q hpq
   induction l with
   | nil=>simp
   | cons z l ih =>
     simp only [List.filter_cons]
     cases hp:p z with
     | true=>rw [hpq z hp]; simp; exact ih
     | false =>
       cases hq:q z with
       | true=>simp; omega
       | false=>simpa using ih
 exact this _ _ _ _ fun z _=>rfl
theorem Te {G:AH} {a ob wb hb N:Nat} {iv av:AV} {A:List (List Nat)} {Ds:List Nat} {x:Nat} {rv:AV} (haft:mT G A av) (hN:N<=1000) (hA:∀ l∈A,∀ y∈l,y < N) (hrow:∀ l∈A,l.length < 2 ^ 20) (hlA:A.length=N) (hx:x < N) (hs:SlS 30 1 G rv (ints (A.getD x []))):∀ (d q:Nat) (tm:List AV) (K:AH) (Z:Option (bs × St)),EvC aa C0 W0 kn RQ (tm,K)=Z->(A.getD x []).length - q=d->q<=(A.getD x []).length->(tm.length=158/\tm.getD 15 uA=.ptr a 0/\tm.getD 16 uA=slN ob N/\tm.getD 17 uA=slN wb N/\tm.getD 22 uA=.ptr hb 0/\tm.getD 25 uA=I (x:Nat)/\tm.getD 121 uA=rv/\tm.getD 122 uA=I ((A.getD x []).length:Nat)/\tm.getD 123 uA=I ((q:Nat):Int)/\∃ w b v T,WvS G K a ob wb iv av N w b/\HpS G a ob wb hb v/\HpR K hb v T/\Qu.KI A N Ds x q w b T) ->
   ∃ X K1,Z=some (.exit 10,(X,K1))/\(X.length=158/\X.getD 15 uA=.ptr a 0/\X.getD 16 uA=slN ob N/\X.getD 17 uA=slN wb N/\X.getD 22 uA=.ptr hb 0/\X.getD 25 uA=I (x:Nat)/\X.getD 121 uA=rv/\X.getD 122 uA=I ((A.getD x []).length:Nat)/\X.getD 123 uA=I (((A.getD x []).length:Nat):Int)/\∃ w b v T,WvS G K1 a ob wb iv av N w b/\HpS G a ob wb hb v/\HpR K1 hb v T/\Qu.KI A N Ds x (A.getD x []).length w b T):=by
 have hrl:=hrow _ (eQ (show x < A.length by omega) [])
 intro d
 induction d with
 | zero =>
   intro q tm K Z hZ hd hq hI
   subst hZ
   have hql:q=(A.getD x []).length:=by omega
   subst hql
   obtain ⟨hlen,h15,h16,h17,h22,h25,h121,h122,h123,w,b,v,T,hW,hS,hH,hK⟩:=hI
   have hlt:ltB (((A.getD x []).length:Nat):Int) ((A.getD x []).length:Nat)=false:=cH (by omega)
   rw [ME]
   simp -implicitDefEqProofs only [Df,Tryz.f19,aP,hlen,h15,h16,h17,h22,h25,h121,h122,h123,hlt,↓cbT,↓cbF,↓ao,an,eu,sevalprocAttr]
   exact ⟨_,K,rfl,by simp only [ls,hlen],Aj8 (by simp only [hlen,h15,h16,h17,h22,h25,h121,h122,h123,gB,and_self,sevalprocAttr]) ⟨w,b,v,T,hW,hS,hH,hK⟩⟩
 | succ d ih =>
   intro q tm K Z hZ hd hq hI
   subst hZ
   obtain ⟨hlen,h15,h16,h17,h22,h25,h121,h122,h123,w,b,v,T,hW,hS,hH,hK⟩:=hI
   have hqN:q < (A.getD x []).length:=by omega
   have hlt:ltB (q:Int) ((A.getD x []).length:Nat)=true:=cD (by omega)
   have hwi:=cp (j:=q) (by omega)
   obtain ⟨i1,k1,hix,hrd⟩:=ints_at hs hW.ag hqN
   have hrd:=hrd []
   rw [af] at hrd
   obtain ⟨y,hy⟩:∃ y,(A.getD x [])[q]? =some y:=⟨_,List.getElem?_eq_getElem hqN⟩
   have hyd:(A.getD x []).getD q 0=y:=by rw [gde,hy]; rfl
   rw [hyd] at hrd
   obtain ⟨hb1,hyN,hK2⟩:=hK.step hA hy
   have hyb:y < b.length:=by rw [hW.lb]; exact hyN
   have hyw:y < w.length:=by rw [hW.lw]; exact hyN
   have hxw:x < w.length:=by rw [hW.lw]; exact hx
   have hxo:=fun kk=>ixN (N:=N) ob hx kk
   have hyo:=fun kk=>ixN (N:=N) ob hyN kk
   have hyw':=fun kk=>ixN (N:=N) wb hyN kk
   have hry:=hW.fo.rd hyw
   have hrx:=hW.fo.rd hxw
   have hDl:Ds.length<=N:=Qu.mB N Ds hK.nd hK.dN
   have hwxl:w.getD x 0 < 2 ^ 50:=by have:=hK.w3 x hx; omega
   have hwx:=cp (j:=w.getD x 0) (by omega)
   have hmx:=Uk (w.getD y 0) (w.getD x 0+1)
   have hwo:=hW.fo.wr hyw (max (w.getD y 0) (w.getD x 0+1))
   have hW2:=hW.To (w':=w.set y (max (w.getD y 0) (w.getD x 0+1))) (by rw [aq,hW.lw])
   have hH2:=hH.Wv hS.c2 hS.v2 (.cells (iv1 (w.set y (max (w.getD y 0) (w.getD x 0+1)))) 3)
   generalize hK2e:K.set ob (.cells (iv1 (w.set y (max (w.getD y 0) (w.getD x 0+1)))) 3)=K2 at hwo hW2 hH2
   have hrb:=hW2.fb.rd hyb
   have hwb:=hW2.fb.wr hyb (b.getD y 0 - 1)
   have hsub:IntKind.i64.wrap (((b.getD y 0:Nat):Int) - 1)=((b.getD y 0 - 1:Nat):Int):=by
     have h1:b.getD y 0<=2 ^ 50:=by
       have h1:=hK.hb y hyN
       have h2:=MY hrow y N
       rw [MX] at h2
       have h3:Qu.rem A N Ds y<=Qu.rem A N [] y:=Tu A N Ds y
       have h4:=List.count_le_length (a:=y) (l:=(A.getD x []).drop q)
       rw [List.length_drop] at h4
       omega
     rw [IntWalk.i64_in _ (by omega)]; omega
   have hW3:=hW2.IX (b':=b.set y (b.getD y 0 - 1)) (by rw [aq,hW.lb])
   have hH3:=hH2.Wv hS.c3 hS.v3 (.cells (iv1 (b.set y (b.getD y 0 - 1))) 3)
   generalize hK3e:K2.set wb (.cells (iv1 (b.set y (b.getD y 0 - 1))) 3)=K3 at hwb hW3 hH3
   have hrb3:=hW3.fb.rd (i:=y) (by rw [aq]; exact hyb)
   rw [Qu.gQ,if_pos ⟨rfl,hyb⟩] at hrb3
   rw [ME]
   by_cases h0:b.getD y 0 - 1=0
   · have hc:eqB ((b.getD y 0 - 1:Nat):Int) 0=true:=by rw [h0]; rfl
     rw [if_pos h0] at hK2
     have hTl:T.length<=1000:=ba (Qu.mB N T hK.tn fun t ht=>((hK.tm t).1 ht).1) hN
     obtain ⟨v',K',T',h48,hp,hH',hf⟩:=YT hH3 hTl y
     obtain ⟨hW',hS'⟩:=hW3.fr hS hf
     simp -implicitDefEqProofs only [Df,Tryz.f19,aP,hlen,h15,h16,h17,h22,h25,h121,h122,h123,hlt,hwi,hix,hrd,hxo,hyo,hyw',hry,hrx,hwx,↓cK BY,AQ,↓Ai,Q5,hmx,hwo,hrb,hsub,hwb,hrb3,hc,st3,↓ve,↓Bw,↓Yw,h48,r5,↓az,nck,dK,cm,dj,dG,ch,dJ,dc,cN,↓cbT,↓cbF,↓ao,an,eu,sevalprocAttr,↓ep,↓eh,↓il,↓fO,↓eo,↓fQ,↓dC,↓er,↓bV,↓bG,↓cB,↓fR,↓dD,↓ew,↓bX,↓bW,↓cC,↓d6,↓cW,dE,bK,ai,bJ,cA,cV,dF]
     exact ih (q+1) _ K' _ rfl (by omega) (by omega) ⟨by simp only [ls,hlen],Aj8 (by simp only [hlen,h15,h16,h17,h22,h25,h121,h122,gB,and_self,sevalprocAttr]) ⟨_,_,_,_,hW',hS',hH',hK2.perm hp.symm⟩⟩
   · have hc:eqB ((b.getD y 0 - 1:Nat):Int) 0=false:=fU (by omega)
     rw [if_neg h0] at hK2
     simp -implicitDefEqProofs only [Df,Tryz.f19,aP,hlen,h15,h16,h17,h22,h25,h121,h122,h123,hlt,hwi,hix,hrd,hxo,hyo,hyw',hry,hrx,hwx,↓cK BY,AQ,↓Ai,Q5,hmx,hwo,hrb,hsub,hwb,hrb3,hc,st3,r5,↓az,nck,dK,cm,dj,dG,ch,dJ,dc,cN,↓cbT,↓cbF,↓ao,an,eu,sevalprocAttr,↓ep,↓eh,↓il,↓fO,↓eo,↓fQ,↓dC,↓er,↓bV,↓bG,↓cB,↓fR,↓dD,↓ew,↓bX,↓bW,↓cC,↓d6,↓cW,dE,bK,ai,bJ,cA,cV,dF]
     exact ih (q+1) _ K3 _ rfl (by omega) (by omega) ⟨by simp only [ls,hlen],Aj8 (by simp only [hlen,h15,h16,h17,h22,h25,h121,h122,gB,and_self,sevalprocAttr]) ⟨_,_,_,_,hW3,hS,hH3,hK2⟩⟩
theorem N3 {G:AH} {a ob wb hb N:Nat} {iv av:AV} {A:List (List Nat)} (haft:mT G A av) (hN:N<=1000) (hA:∀ l∈A,∀ y∈l,y < N) (hrow:∀ l∈A,l.length < 2 ^ 20) (hlA:A.length=N):∀ (M:Nat) (Ds w b T:List Nat) (v:AV) (tm:List AV) (K:AH),N - Ds.length=M->(tm.length=158/\tm.getD 15 uA=.ptr a 0/\tm.getD 16 uA=slN ob N/\tm.getD 17 uA=slN wb N/\tm.getD 22 uA=.ptr hb 0)->WvS G K a ob wb iv av N w b->HpS G a ob wb hb v->HpR K hb v T->Qu.KO A N Ds w b T ->
   ∃ X K1 Ds w b,EvC aa C0 W0 kn KC (tm,K)=some (.exit 8,(X,K1))/\X.length=158/\X.getD 16 uA=slN ob N/\WvS G K1 a ob wb iv av N w b/\Qu.KO A N Ds w b []:=by
 intro M
 induction M using Nat.strongRecOn with
 | ind M ih =>
   intro Ds w b T v tm K hM hI hW hS hH hK
   obtain ⟨hlen,h15,h16,h17,h22⟩:=hI
   have hTl:T.length<=1000:=ba (Qu.mB N T hK.tn fun t ht=>((hK.tm t).1 ht).1) hN
   have hrd:=hH.rd
   have h49:=UN hH.sl
   rw [UT]
   cases hT:T with
   | nil =>
     subst hT
     have l0:ltB 0 ((([]:List Nat).length:Nat):Int)=false:=rfl
     simp -implicitDefEqProofs only [Gt,Tryz.f19,aP,hlen,h15,h16,h17,h22,m7,hrd,ql,↓Yv,h49,l0,r5,↓az,nck,↓cbT,↓cbF,↓ao,an,eu,sevalprocAttr]
     exact ⟨_,K,Ds,w,b,rfl,by simp only [ls,hlen],by simp only [hlen,h16,gB,sevalprocAttr],hW,hK⟩
   | cons t0 Tt =>
     have hpos:0 < T.length:=by rw [hT]; simp
     have l0:ltB 0 ((T.length:Nat):Int)=true:=cD (by omega)
     obtain ⟨x,T0,v',K',h50,hp,hH',hf⟩:=acT hH hTl hpos
     obtain ⟨hW',hS'⟩:=hW.fr hS hf
     have hK1:=(hK.perm hp.symm).pop
     have hx:x < N:=hK1.dN x (List.mem_cons_self ..)
     obtain ⟨i1,k1,rv,hix,hrd1,hs⟩:=haft.at hW'.ag (j:=x) (by omega)
     have hrd1:=hrd1 []
     rw [af] at hrd1
     have hrp:=hW'.rdp
     have hln:=fun K=>m8 hs K
     have hDl:(x::Ds).length<=N:=Qu.mB N _ hK1.nd hK1.dN
     simp only [cF] at hDl
     simp -implicitDefEqProofs only [Gt,Tryz.f19,aP,hlen,h15,h16,h17,h22,m7,hrd,ql,↓Yv,h49,l0,↓ve,↓acb,h50,↓Nl,Wo,uP,Er,hrp,hix,hrd1,hln,r5,↓az,nck,↓cbT,↓cbF,↓ao,an,eu,sevalprocAttr]
     generalize hX:EvC aa C0 W0 kn (Code.loop _) _=Z
     obtain ⟨X,K1,he,x0,x15,x16,x17,x22,x25,x121,x122,x123,w1,b1,v1,T1,hW1,hS1,hH1,hKI⟩:=Te (Ds:=x::Ds) (x:=x) haft hN hA hrow hlA hx hs _ 0 _ _ _ hX rfl (cX _) ⟨by simp only [ls,hlen],Aj7 (by simp only [hlen,h15,h16,h17,h22,gB,and_self,sevalprocAttr]) ⟨by simp only [hlen,gB,sevalprocAttr]; try rfl,w,b,v',T0,hW',hS',hH',hK1⟩⟩
     subst he
     simp -implicitDefEqProofs only [x0,x15,x16,x17,x22,↓cbT,↓cbF,↓ao,an,eu,sevalprocAttr]
     generalize hX2:EvC aa C0 W0 kn _ _=Z
     obtain ⟨X',K2,D2,w2,b2,e1,e2⟩:=ih (N - (x::Ds).length) (by simp only [cF]; omega) (x::Ds) w1 b1 T1 v1 X K1 rfl ⟨x0,x15,x16,x17,x22⟩ hW1 hS1 hH1 (hKI.out (ax _))
     exact ⟨X',K2,D2,w2,b2,hX2.symm.trans e1,e2⟩
theorem IL {G:AH} {a ob wb hb N:Nat} {iv av:AV} {A:List (List Nat)} (haft:mT G A av) (hN:N<=1000) (hA:∀ l∈A,∀ y∈l,y < N) (hrow:∀ l∈A,l.length < 2 ^ 20) (hlA:A.length=N) {w b T:List Nat} {v:AV} {tm:List AV} {K:AH} {Z:Option (bs × St)} (hX:EvC aa C0 W0 kn KC (tm,K)=Z) (hI:tm.length=158/\tm.getD 15 uA=.ptr a 0/\tm.getD 16 uA=slN ob N/\tm.getD 17 uA=slN wb N/\tm.getD 22 uA=.ptr hb 0) (hW:WvS G K a ob wb iv av N w b) (hS:HpS G a ob wb hb v) (hH:HpR K hb v T) (hK:Qu.KO A N [] w b T) :
   ∃ X K1 Ds w b,Z=some (.exit 8,(X,K1))/\X.length=158/\X.getD 16 uA=slN ob N/\WvS G K1 a ob wb iv av N w b/\Qu.KO A N Ds w b []:=by
 subst hX
 exact N3 haft hN hA hrow hlA _ [] w b T v tm K rfl hI hW hS hH hK
end Go.Dv
namespace Go.Dv
open Go.Proofs
theorem yI {ss:List (List Itm)} {l:List Itm} (h:l∈gU ss):∃ l0∈ss,l=l0.filter nkB:=by
 unfold gU at h
 obtain ⟨l0,h0,rfl⟩:=bL.1 h
 exact ⟨l0,h0,rfl⟩
theorem FA {x:Itm}:nkB x=true↔x.kind≠0:=by
 unfold nkB
 rw [bj,<-Bool.not_eq_true,cU]
theorem Gb {ss:List (List Itm)}:∀ l∈gU ss,∀ x∈l,x.kind≠0:=by
 intro l hl x hx
 obtain ⟨l0,_,rfl⟩:=yI hl
 exact FA.1 (fG.1 hx).2
theorem CW {ss:List (List Itm)} {l:List Itm} {x:Itm} (hl:l∈gU ss) (hx:x∈l):∃ l0∈ss,x∈l0:=by
 obtain ⟨l0,h0,rfl⟩:=yI hl
 exact ⟨l0,h0,(fG.1 hx).1⟩
theorem yJ (ss:List (List Itm)):(gU ss).length=ss.length:=by unfold gU; simp
theorem He {cs cs':List Cod} {m:List (List Int)} {x:Itm} (hk:x.kind≠0):b6 cs m x=b6 cs' m x:=by
 unfold b6
 rw [fU hk]
 simp only [ct]
theorem Nd (ss:List (List Itm)):((gU ss).map gJ).sum<=(ss.map gJ).sum:=by
 unfold gU
 induction ss with
 | nil=>simp
 | cons l ss ih =>
   have:=lC nkB l
   simp only [List.map_cons,List.sum_cons]
   omega
theorem HG {cs:List Cod} {m:List (List Int)} {ss:List (List Itm)} {f:Con} (h:gX cs m ss f=0):sO cs m ss=true:=by
 unfold gX at h
 cases h0:uV f && vT cs with
 | false=>rw [h0] at h; cases h
 | true =>
   rw [h0] at h
   cases h1:sO cs m ss with
   | false=>rw [h1] at h; cases h
   | true=>rfl
theorem EV {cs:List Cod} {m:List (List Int)} {ss:List (List Itm)} (hl:∀ l∈ss,l.length < 2 ^ 50) (h:gX cs m ss fy=0) (hg:Good cs m ss fy):gX [] m (gU ss) fy=0:=by
 have hs:=HG h
 have h1:sO [] m (gU ss)=true:=by
   unfold sO at hs ⊢
   simp only [Bool.and_eq_true,bj,fS] at hs ⊢
   obtain ⟨⟨⟨⟨⟨a1,a2⟩,a3⟩,a4⟩,a5⟩,a6⟩:=hs
   have hlb:∀ l∈gU ss,l.length < 2 ^ 50:=fun l hl'=>by
     obtain ⟨l0,h0,rfl⟩:=yI hl'
     exact vg (lC _ _) (hl l0 h0)
   have hn4:=hg.n4
   obtain ⟨s1,_⟩:=AD hlb (gU ss).length (ax _) (by rw [yJ]; omega)
   rw [List.take_of_length_le (by rw [ar]; exact ax _)] at s1
   have s2:=Nd ss
   have s3:=hg.few
   rw [s1]
   refine ⟨⟨⟨⟨⟨?_,?_⟩,?_⟩,?_⟩,a5⟩,a6⟩
   · rw [yJ]; exact a1
   · rw [yJ]; exact a2
   · simp
   · omega
 have h2:EZ [] m (gU ss)=true:=by
   unfold EZ
   rw [fC]
   intro i hi
   unfold q8
   rw [fC]
   intro k hk
   have m1:aW (gU ss) i∈gU ss:=iM hi
   have m2:bz (aW (gU ss) i) k∈aW (gU ss) i:=fi hk
   obtain ⟨l0,h0,hx⟩:=CW m1 m2
   rw [He (cs':=cs) (Gb _ m1 _ m2)]
   exact hg.it l0 h0 _ hx
 unfold gX
 rw [show (uV fy && vT [])=true from rfl,h1,h2]; rfl
theorem OE (ss:List (List Itm)):qS (gU ss)=Qu.pw (fun y=>decide (y.kind≠0)) (qS ss):=by
 unfold qS gU Qu.pw
 rw [SI,SI]
 refine List.map_congr_left fun l _=>?_
 simp only [Function.comp]
 rw [List.filter_map]
 congr 1
 refine List.filter_congr fun x _=>?_
 have:=@FA x
 cases h:nkB x with
 | true=>exact (decide_eq_true (this.1 h)).symm
 | false=>exact (decide_eq_false fun c=>by rw [this.2 c] at h; cases h).symm
theorem No (ss:List (List Itm)):Qu.jI (qS (gU ss))↔Qu.jI (qS ss):=by
 rw [OE]
 exact Qu.EY (fun x hx=>decide_eq_true (by omega)) _
theorem II {ss:List (List Itm)} {m m':List (List Int)} {ad:List Nat} {rc:List Bool} (hev:vf ss) (ht:Trod ss m ad m' rc) (hb:pX ss ad rc=true):(zl ss ad rc=0/\Qu.jI (qS ss))∨(zl ss ad rc=11/\¬ Qu.jI (qS ss)):=by
 obtain ⟨L,hr,_⟩:=ht
 have hR:=hr.reach
 by_cases h0:(gE ss ad ss.length).sum=0
 · refine .inl ⟨by unfold zl; rw [if_pos h0],fun s k x hx=>?_⟩
   rw [<-FF,Qu.zM] at h0
   exact hR.inv.2.1 s k (h0 s k x hx)
 · have hre:d7 ss ad rc ss.length=[]:=by
     unfold pX at hb
     rw [gz] at hb
     rcases hb with hb | hb
     · exact absurd (by simpa using hb) h0
     · simpa using hb
   refine .inr ⟨by unfold zl; rw [if_neg h0,if_pos hre],fun hA=>h0 ?_⟩
   rw [<-FF,Qu.Kx hR (by rw [xB hev]; exact hre)]
   exact hA
theorem Qa {cs:List Cod} {m:List (List Int)} {ss:List (List Itm)} {f:Con} (hg:Good cs m ss f):vf ss:=fun l hl x hx hk=>uq (hg.it l hl x hx) hk
theorem HU {ss:List (List Itm)} (h:vf ss):vf (gU ss):=fun l hl x hx hk=>by
 obtain ⟨l0,h0,hx0⟩:=CW hl hx
 exact h l0 h0 x hx0 hk
end Go.Dv
namespace Go.Dv
open Go.Proofs
attribute [local congr] aF bC aY bB bD
theorem FP (n:Nat):iv1 (ay n 0)=ay n (I 0):=by unfold iv1; rw [List.map_replicate]; rfl
theorem Vk (H:AH):bk aa none 101 0 [] H=some (.slice H.length 0 1 0 0 true,H++[.cells [] 3]):=by kernel_rfl
theorem qH {K L:AH} {n:Nat} {o:bl} (h:L[n]? =some o):(K++L)[K.length+n]? =some o:=by
 rw [al (du _ _),Nat.add_sub_cancel_left]; exact h
theorem Jq {K:AH} {iv av:AV} {N:Nat} {tm:List AV} {Z:Option (bs × St)} (hR:EvC aa C0 W0 kn (aI [true,true,true,true,true,true,false] c19) (tm,K++[.cells [iv,av] 93])=Z) (hlen:tm.length=158) (h15:tm.getD 15 uA=.ptr K.length 0) (hln:∀ G,dQ aa 31 G iv=some (I (N:Nat))) (hN:N<=1000) :
   ∃ tm' K' ob wb,Z=some (.normal,(tm',K'))/\tm'.length=158/\(∀ i,i < 16->tm'.getD i uA=tm.getD i uA)/\tm'.getD 16 uA=slN ob N/\tm'.getD 17 uA=slN wb N/\WvS K K' K.length ob wb iv av N (ay N 0) (ay N 0):=by
 subst hR
 have hrd:∀ L,ak (K++(.cells [iv,av] 93::L)) K.length 0 1=some [iv]:=fun L=>by
   unfold ak
   rw [al (ax _),Nat.sub_self]; rfl
 have hms:=Q7 N hN
 simp -implicitDefEqProofs only [c19,Tryz.f19,aP,hlen,h15,hln,hrd,pS,↓cK JY,Ej,dK,cm,dj,dG,ch,dJ,dc,cN,↓jB,hms,r5,↓az,nck,↓cbT,↓cbF,↓ao,an,eu,sevalprocAttr,↓ep,↓eh,↓il,↓fO,↓eo,↓fQ,↓dC,↓er,↓bV,↓bG,↓cB,↓fR,↓dD,↓ew,↓bX,↓bW,↓cC,↓d6,↓cW,dE,bK,ai,bJ,cA,cV,dF]
 have e1:∀ L:AH,(K++L).length=K.length+L.length:=fun L=>ai
 refine ⟨_,_,K.length+1+3,K.length+1+7,rfl,?_,?_,?_,?_,?_⟩
 · simp only [aq,hlen]
 · intro i hi
   simp only [yu hi,Nat.reduceLeDiff]
 · simp only [hlen,gB,sevalprocAttr]
 · simp only [hlen,gB,sevalprocAttr]
 · exact { ag:=au.app _ _,pc:=qH (n:=0) rfl,fo:=by unfold nJ; rw [FP]; exact qH (n:=4) rfl,fb:=by unfold nJ; rw [FP]; exact qH (n:=8) rfl,lw:=gP,lb:=gP,n1:=by omega,n2:=by omega,n3:=by omega,go:=by omega,gb:=by omega }
theorem mT.len {H:AH} {A:List (List Nat)} {av:AV} (h:mT H A av) (G:AH):dQ aa 91 G av=some (I (A.length:Nat)):=by
 obtain ⟨ws,h1,h2,_⟩:=h
 have:=h2.len G
 rwa [ar,h1] at this
theorem WvS.app {G K:AH} {a ob wb N:Nat} {iv av:AV} {w b:List Nat} (h:WvS G K a ob wb iv av N w b) (L:AH):WvS G (K++L) a ob wb iv av N w b:=
 { h with ag:=h.ag.trans (au.app K L),pc:=(au.app K L).get h.pc,fo:=(au.app K L).get h.fo,fb:=(au.app K L).get h.fb }
def adr (H K:AH) (ss:List (List Itm)) (v:AV) (e:Int):Prop:=(e=11/\v=.nilSlice/\¬ Qu.jI (qS ss))∨(e=0/\Qu.jI (qS ss)/\∃ w Ds b ob,v=slN ob w.length/\nJ K ob w/\H.length<=ob/\w.length=ss.flatten.length/\Qu.KO (Qu.aft (qS ss)) ss.flatten.length Ds w b [])
theorem ade {H:AH} {cs:List Cod} {m:List (List Int)} {ss:List (List Itm)} {vc vm vs:AV} (hc:dk H cs vc) (hm:dZ H m vm) (hs:dy H ss vs) (hk:gX cs m ss fy=0) (hg:Good cs m ss fy):∃ v e K,Ev aa C0 W0 19 [vc,vm,vs] H=some (.tuple [v,I e],K)/\Sub H K/\H.length<=K.length/\adr H K ss v e:=by
 obtain ⟨tm,ht,g0,g1,g2,g3⟩:=tm3 vc vm vs 158 (by decide)
 rw [abU,ht]
 have hH0:=au.app H [bl.cells (fg fy) 27]
 have h26:=UQ (hc.bg hH0) (hm.bg hH0) (hs.bg hH0) fy
 have h41:=UO H
 rw [hk] at h26
 have hq0:eqB 0 0=true:=rfl
 have hsl:=hs.len
 have hev:=Qa hg
 have hxl:∀ l∈ss,l.length < 2 ^ 50:=fun xs hx=>by
   obtain ⟨⟨l2,e2,_,h2⟩,_⟩:=hs
   rw [<-e2] at hx
   obtain ⟨p,hp,rfl⟩:=bL.1 hx
   exact (h2 p hp).n
 have hbk:=EV hxl hk hg
 have hfew:ss.flatten.length<=1000:=by rw [List.length_flatten]; have:=hg.few; omega
 have hl1000:∀ l∈ss,l.length<=1000:=fun l hl=>by
   have h1:=oM (ss.map gJ) l.length (bL.2 ⟨l,hl,rfl⟩)
   have:=hg.few
   omega
 have hn4:=hg.n4
 simp only [fg,fy] at h26 h41
 simp -implicitDefEqProofs only [c19,Tryz.f19,aP,g0,g1,g2,g3,↓P7,h41,↓UK,h26,hq0,hsl,r5,↓az,nck,↓cbT,↓cbF,↓ao,an,eu,sevalprocAttr]
 generalize hX:EvC aa C0 W0 kn (Code.loop _) _=Z
 have hG:au H (H++[.cells (fg fy) 27]):=hH0
 obtain ⟨X,K1,he,xl,x0,x1,x2,x36,x37,x38,hA1,v1,ws,x9,hov,hwl,hR⟩:=Vo (G:=H++[.cells (fg fy) 27]) (vc:=vc) (vm:=vm) (hs.bg hG) (by omega) hl1000 _ 0 _ _ _ hX rfl (cX _) ⟨by simp only [ls,g0],by simp only [g0,g1,gB,sevalprocAttr]; try rfl,by simp only [g0,g2,gB,sevalprocAttr]; try rfl,by simp only [g0,g3,gB,sevalprocAttr]; try rfl,by simp only [g0,gB,sevalprocAttr]; try rfl,by simp only [g0,gB,sevalprocAttr]; try rfl,by simp only [g0,gB,sevalprocAttr]; try rfl,au.refl _,.nilSlice,[],by simp only [g0,gB,sevalprocAttr],.nil,rfl,fun i hi=>absurd hi (Nat.not_lt_zero _)⟩
 subst he
 have hbs:=Ih hov hwl (by omega) hR
 have hH1:au H K1:=hG.trans hA1
 have hP1:=au.app K1 [bl.cells (fg fy) 27]
 have h41':=UO K1
 obtain ⟨v2,K3,ad,m',rc',h17,hS3,hl3,_,_,htr,hend,_⟩:=Y5 (cs:=[]) (vc:=.nilSlice) ⟨⟨[],rfl,kS zV _,fun p hp=>by simp at hp⟩,by simp⟩ ((hm.bg hH1).bg hP1) (hbs.bg hP1) fy hbk Gb
 have hte:=II (HU hev) htr hend
 rw [No] at hte
 have hS03:Sub H K3:=((hH1.trans hP1).sub).trans hS3
 have hl03:H.length<=K3.length:=by
   have h1:=hH1.len
   rw [ai] at hl3
   exact ba (ba h1 (du _ _)) hl3
 simp only [fg,fy] at h17 h41'
 rcases hte with ⟨h0,hall⟩ | ⟨h0,hall⟩
 · rw [h0] at h17
   obtain ⟨iv,av,K,h42,hS,hlK,hI,haf,hic,hac,hiv⟩:=YV (hs.sub hS03) hfew (fun l hl x hx hkx=>(hev l hl x hx hkx).1)
   have hput:∀ o,put none K o=some (K.length,K++[o]):=fun _=>rfl
   have hic1:=hic.1
   have hac1:=hac.1
   have hic2:=hic.2
   have hac2:=hac.2
   rw [<-af K] at h42
   simp -implicitDefEqProofs only [xl,x0,x1,x2,x36,x37,x9,↓P7,h41',↓UM,h17,hq0,↓Yx,h42,z93,Ep,Tk,↓hic1,↓hac1,↓hic2,↓hac2,hput,r5,↓az,nck,↓cbT,↓cbF,↓ao,an,eu,sevalprocAttr]
   generalize hR:EvC aa C0 W0 kn (Code.region _ _ _) _=Zr
   obtain ⟨t1,K5,ob,wb,he5,y0,ylow,y16,y17,hW⟩:=Jq (iv:=iv) (av:=av) (N:=ss.flatten.length) hR (by simp only [ls,xl]) (by simp only [xl,gB,sevalprocAttr]) hI.len hfew
   subst he5
   have y15:t1.getD 15 uA=.ptr K.length 0:=by rw [ylow 15 (by decide)]; simp only [xl,gB,sevalprocAttr]
   have hla:=mT.len haf
   have hlA:(Qu.aft (qS ss)).length=ss.flatten.length:=by rw [Qu.GG,gS,ar]
   rw [hlA] at hla
   have hNq:(qS ss).flatten.length=ss.flatten.length:=by rw [gS,ar]
   have hAl:∀ l∈Qu.aft (qS ss),∀ y∈l,y < ss.flatten.length:=fun l hl y hy=>by rw [<-hNq]; exact Qu.Np l hl y hy
   have hrow:∀ l∈Qu.aft (qS ss),l.length < 2 ^ 20:=fun l hl=>by
     unfold Qu.aft at hl
     obtain ⟨n,hn,rfl⟩:=bL.1 hl
     exact vg (yW _ _ _) (by omega)
   have hrp:=hW.rdp
   simp -implicitDefEqProofs only [y0,y15,y16,y17,uP,Er,hrp,hla,r5,↓az,nck,↓cbT,↓cbF,↓ao,an,eu,sevalprocAttr]
   generalize hX:EvC aa C0 W0 kn (Code.loop _) _=Z
   obtain ⟨X2,K6,he6,z0,z15,z16,z17,z71,z72,z73,b1,hW1,hb1⟩:=Qm (a:=K.length) (ob:=ob) (wb:=wb) (iv:=iv) (w:=ay ss.flatten.length 0) haf hfew hAl hrow hlA _ 0 _ _ _ hX rfl (cX _) ⟨by simp only [ls,y0],Aj5 (by simp only [y0,y15,y16,y17,gB,and_self,sevalprocAttr]) ⟨by simp only [y0,gB,sevalprocAttr]; try rfl,_,hW,fun y hy=>by
     rw [gde,List.getElem?_replicate,if_pos hy]; rfl⟩⟩
   subst he6
   have bs1:=Vk K6
   simp -implicitDefEqProofs only [z0,z15,z16,z17,z71,z72,z73,bs1,WZ,r5,↓az,nck,↓cbT,↓cbF,↓ao,an,eu,sevalprocAttr]
   generalize hX:EvC aa C0 W0 kn (Code.loop _) _=Z
   have la:=aJ hW1.pc
   have lo:=aJ hW1.fo
   have lb:=aJ hW1.fb
   have lK:=hW1.ag.len
   obtain ⟨X3,K7,he7,u0,u15,u16,u17,u22,u93,u94,u95,v3,T3,hW3,hS3,hH3,hP3⟩:=VK (G:=K) (a:=K.length) (ob:=ob) (wb:=wb) (hb:=K6.length+1) (N:=ss.flatten.length) (iv:=iv) (av:=av) (w:=ay ss.flatten.length 0) (b:=b1) hfew _ 0 _ _ _ hX rfl (cX _) ⟨by simp only [ls,z0],Aj6 (by simp only [z0,z15,z16,z17,gB,and_self,sevalprocAttr]) ⟨by simp only [z0,gB,sevalprocAttr]; try rfl,.slice K6.length 0 1 0 0 true,[],hW1.app _,
     ⟨by omega,by omega,by omega,by omega,fun e=>by have:=aE (show some K6.length=_ from e); omega,fun e=>by have:=aE (show some K6.length=_ from e); omega,fun e=>by have:=aE (show some K6.length=_ from e); omega,fun i e=>by have:=aE (show some K6.length=_ from e); omega⟩,
     ⟨qH (n:=1) rfl,.at K6.length 0 0 0 true [] [] (cX _) (qH (n:=0) rfl) (ax _) (by simp) (by unfold ak; rw [show (K6++[bl.cells [] 3,bl.cells [AV.slice K6.length 0 1 0 0 true] 101])[K6.length]? =some (.cells [] 3) from qH (n:=0) rfl]; rfl),fun e=>by have:=aE (show some K6.length=some (K6.length+1) from e); omega⟩,by simp⟩⟩
   subst he7
   simp -implicitDefEqProofs only [u0,u15,u16,u17,u22,r5,↓az,nck,↓cbT,↓cbF,↓ao,an,eu,sevalprocAttr]
   generalize hX:EvC aa C0 W0 kn (Code.loop _) _=Z
   obtain ⟨X4,K8,Ds,w,b,he8,q0,q16,hW8,hK8⟩:=IL (a:=K.length) (ob:=ob) (wb:=wb) (hb:=K6.length+1) (iv:=iv) haf hfew hAl hrow hlA hX ⟨by first | exact u0 | simp only [aq,u0],by first | exact u15 | simp only [u0,u15,gB,sevalprocAttr],by first | exact u16 | simp only [u0,u16,gB,sevalprocAttr],by first | exact u17 | simp only [u0,u17,gB,sevalprocAttr],by first | exact u22 | simp only [u0,u22,gB,sevalprocAttr]⟩ hW3 hS3 hH3 ((PQ hW1.lb hb1).perm hP3.symm)
   subst he8
   simp -implicitDefEqProofs only [q0,q16,r5,↓az,nck,↓cbT,↓cbF,↓ao,an,eu,sevalprocAttr]
   refine ⟨_,_,_,rfl,hS03.trans (hS.trans hW8.ag.sub),ba hl03 (ba hlK hW8.ag.len),.inr ⟨rfl,hall,w,Ds,b,ob,by rw [hW8.lw],hW8.fo,ba (ba hl03 hlK) hW8.go,hW8.lw,hK8⟩⟩
 · rw [h0] at h17
   have hq1:eqB 11 0=false:=rfl
   simp -implicitDefEqProofs only [xl,x0,x1,x2,x36,x37,x9,↓P7,h41',↓UM,h17,hq1,r5,↓az,nck,↓cbT,↓cbF,↓ao,an,eu,sevalprocAttr]
   exact ⟨_,_,_,rfl,hS03,hl03,.inl ⟨rfl,rfl,hall⟩⟩
end Go.Dv
namespace Go.Dv
open Go.Proofs
open Qu (bef aft)
theorem IK {cs:List Cod} {m:List (List Int)} {x y:Itm} (hx:b6 cs m x=true) (hy:b6 cs m y=true):iV cs x y=iV cs y x:=by
 rw [w9 hx hy,w9 hy hx,Qu.DN]
theorem zZ {cs:List Cod} {m:List (List Int)} {ss:List (List Itm)} {f:Con} (hg:Good cs m ss f):∀ x∈ss.flatten,b6 cs m x=true:=fun x hx=>by
 obtain ⟨l,h1,h2⟩:=List.mem_flatten.1 hx
 exact hg.it l h1 x h2
theorem Pt {cs:List Cod} {m:List (List Int)} {ss:List (List Itm)} {f:Con} (hg:Good cs m ss f) (ho:B2 cs ss=true) {i k:Nat} (hi:i < ss.flatten.length) (hk:k < ss.flatten.length) (hne:i≠k) (ht:iV cs (bz ss.flatten i) (bz ss.flatten k)=true):bef (qS ss) i k=true∨bef (qS ss) k i=true:=by
 have hr:=zZ hg
 have key:∀ a b,a < ss.flatten.length->b < a->iV cs (bz ss.flatten a) (bz ss.flatten b)=true->bef (qS ss) a b=true∨bef (qS ss) b a=true:=by
   intro a b ha hb ht
   unfold B2 at ho
   have:=fC.1 (fC.1 ho a ha) b hb
   unfold kE at this
   rw [ht,Bool.not_true,Bool.false_or,gz] at this
   exact this
 rcases Nat.lt_or_ge k i with c | c
 · exact key i k hi c ht
 · exact (key k i hk (by omega) (by rw [IK (hr _ (fi hk)) (hr _ (fi hi))]; exact ht)).symm
theorem GW {cs:List Cod} {m:List (List Int)} {ss:List (List Itm)} {f:Con} (hg:Good cs m ss f) (hA:Qu.jI (qS ss)) {D w b:List Nat} (ho:Qu.KO (aft (qS ss)) ss.flatten.length D w b []) {i k:Nat} (hi:i < ss.flatten.length) (hk:k < ss.flatten.length):(bef (qS ss) i k=true->w.getD i 0 < w.getD k 0)/\(B2 cs ss=true->i≠k->w.getD i 0=w.getD k 0->iV cs (bz ss.flatten i) (bz ss.flatten k)=false):=by
 have hN:(qS ss).flatten.length=ss.flatten.length:=by rw [gS,ar]
 have h:=(Qu.ID hA (by rw [hN]; exact ho)).2
 rw [hN] at h
 refine ⟨h i k hi hk,fun hB hne e=>?_⟩
 cases ht:iV cs (bz ss.flatten i) (bz ss.flatten k) with
 | false=>rfl
 | true =>
   rcases Pt hg hB hi hk hne ht with c | c
   · have:=h i k hi hk c; omega
   · have:=h k i hk hi c; omega
end Go.Dv
namespace Go.Dv
open Go.Proofs
attribute [local congr] aF bC aY bB bD
theorem aa0 {tm:List AV} {H:AH} {a b:Nat} {u c':List AV} (h4:tm.getD 4 uA=.ptr a 0) (h5:tm.getD 5 uA=.ptr b 0) (ha:ak H a 0 6=some u) (hb:ak H b 0 6=some c'):r55 (tm,H)=some (.tuple [.agg u,.agg c'],H):=by
 show mr aa Tryz.f55 (tm,H)=_
 have hr:Tryz.f55.results.toList=[.cell 4 112,.cell 5 112]:=by rfl
 unfold mr
 rw [hr]
 simp only [jb,h4,h5,Rg,ha,hb,cE]; rfl
theorem BA:dP aa 112=some (.agg (bits [])):=by rw [aab,Nc]
theorem Hg {tm:List AV} {K:AH} {u c':List AV} {i j:Nat} {R:Option (bs × St)} (hR:EvC aa C0 W0 nD (aI [true,true,false] c55) (tm,K)=R) (hij:i≠j) (hu:K[i]? =some (.cells u 112)) (hc:K[j]? =some (.cells c' 112)) (lu:u.length=6) (lc:c'.length=6) (ou:u.all AV.one=true) (oc:c'.all AV.one=true) (hlen:tm.length=63) (h4:tm.getD 4 uA=.ptr i 0) (h5:tm.getD 5 uA=.ptr j 0) :
   ∃ tm',R=some (.normal,(tm',K))/\tm'.length=63/\tm'.getD 4 uA=.ptr i 0/\tm'.getD 5 uA=.ptr j 0:=by
 subst hR
 exact Je hij hu hc lu lc ou oc hlen h4 h5
theorem Jc {tm:List AV} {G K:AH} {x:Itm} {va:AV} {l l':List Nat} {cr:List AV} {j:Nat} {R:Option (bs × St)} (hR:EvC aa C0 W0 nD (aI [true,false,true,false,true,false,true,true,false,false,true,false,false,true,false] c55) (tm,K)=R) (hK:K=G++[.cells (aL x va) 34,.cells (bits l) 112,.cells (bits l') 112,.cells cr 66]) (hlen:tm.length=63) (h3:tm.getD 3 uA=.ptr G.length 0) (h4:tm.getD 4 uA=.ptr (G.length+1) 0) (h5:tm.getD 5 uA=.ptr (G.length+2) 0) (h7:tm.getD 7 uA=I (j:Int)) {y i2 k2:Nat} (hy:y < 6) (hix:∀ kk,aD aa 32 va (.int kk (j:Int))=some (.ptr i2 k2)) (hra:∀ L,ak (G++L) i2 k2 1=some [.int .i32 (y:Int)]) :
   ∃ tm',R=some (.normal,(tm',G++[.cells (aL x va) 34,.cells (bits (l++[y])) 112,.cells (bits (l'++[y])) 112,.cells cr 66]))/\tm'.length=63/\tm'.getD 0 uA=tm.getD 0 uA/\tm'.getD 3 uA=tm.getD 3 uA/\tm'.getD 4 uA=tm.getD 4 uA/\tm'.getD 5 uA=tm.getD 5 uA/\tm'.getD 6 uA=tm.getD 6 uA/\tm'.getD 7 uA=tm.getD 7 uA:=by
 subst hK
 have h:=Jd (u:=bits l) (c':=bits l') (ij l) (ij l') hlen h3 h4 h5 h7 va x.kind x.code x.grid x.block x.src x.dst x.ev x.word hy hix hra hR
 rw [tM,tM] at h
 exact h
theorem Tc {G:AH} {c:Cod} {vp vs vi va:AV} {x:Itm} (h:eO G c vp vs vi) (ha:SlS 32 1 G va (x.args.map dw)) (hal:x.args.length=c.params.length) (hpos:∀ j,j < c.params.length->iK c (j:Int)=true->0<=fI x.args j/\fI x.args j < 6) (hN:c.params.length < 2 ^ 60):∀ (d j:Nat) (tm:List AV) (K:AH) (Z:Option (bs × St)),EvC aa C0 W0 nD Rv (tm,K)=Z->c.params.length - j=d->j<=c.params.length->(tm.length=63/\tm.getD 3 uA=.ptr G.length 0/\tm.getD 4 uA=.ptr (G.length+1) 0/\tm.getD 5 uA=.ptr (G.length+2) 0/\tm.getD 6 uA=.ptr (G.length+3) 0/\tm.getD 7 uA=I ((j:Nat):Int)/\K=G++[.cells (aL x va) 34,.cells (bits (jg c x.args (j))) 112,.cells (bits (jg c x.args (j))) 112,.cells (bI c vp vs vi) 66]) ->
   ∃ X K1,Z=some (.exit 1,(X,K1))/\(X.length=63/\X.getD 3 uA=.ptr G.length 0/\X.getD 4 uA=.ptr (G.length+1) 0/\X.getD 5 uA=.ptr (G.length+2) 0/\X.getD 6 uA=.ptr (G.length+3) 0/\X.getD 7 uA=I ((c.params.length:Nat):Int)/\K1=G++[.cells (aL x va) 34,.cells (bits (jg c x.args (c.params.length))) 112,.cells (bits (jg c x.args (c.params.length))) 112,.cells (bI c vp vs vi) 66]):=by
 have hlp:=h.lp
 intro d
 induction d with
 | zero =>
   intro j tm K Z hZ hd hj hI
   subst hZ
   have hjl:j=c.params.length:=by omega
   subst hjl
   obtain ⟨hlen,h3,h4,h5,h6,h7,hK⟩:=hI
   have hb1:ak K (G.length+3) 1 1=some [vp]:=by rw [hK,jN]; rfl
   have hlt:ltB ((c.params.length:Nat):Int) (c.params.length:Nat)=false:=cH (by omega)
   rw [Me]
   simp -implicitDefEqProofs only [C7,Tryz.f55,aP,hlen,h3,h4,h5,h6,h7,hb1,hlp,hlt,r5,↓az,nck,↓cbT,↓cbF,↓ao,an,eu,sevalprocAttr]
   exact ⟨_,K,rfl,by simp only [ls,hlen],Aj5 (by simp only [hlen,h3,h4,h5,h6,h7,gB,and_self,sevalprocAttr]) hK⟩
 | succ d ih =>
   intro j tm K Z hZ hd hj hI
   subst hZ
   obtain ⟨hlen,h3,h4,h5,h6,h7,hK⟩:=hI
   have hjN:j < c.params.length:=by omega
   have hA:au G K:=by rw [hK]; exact au.app _ _
   have hb1:ak K (G.length+3) 1 1=some [vp]:=by rw [hK,jN]; rfl
   have hlt:ltB (j:Int) (c.params.length:Nat)=true:=cD (by omega)
   have hw:=cp (j:=j) (by omega)
   obtain ⟨i1,k1,nm,hix,hrd1',_⟩:=xG h hA hjN
   have hrd1:=hrd1' []
   rw [af] at hrd1
   rw [Me]
   cases hb:iK c (j:Int) with
   | true =>
     rw [hb] at hrd1
     obtain ⟨i2,k2,hix2,hra⟩:=yR ha (au.refl G) (j:=j) (by omega)
     have hn:=hpos j hjN hb
     obtain ⟨y,hy⟩:∃ y:Nat,fI x.args j=y:=⟨(fI x.args j).toNat,by omega⟩
     rw [hy] at hra hn
     simp -implicitDefEqProofs only [C7,Tryz.f55,aP,hlen,h3,h4,h5,h6,h7,hb1,hlp,hlt,hix,hrd1,r5,↓az,nck,↓cbT,↓cbF,↓ao,an,eu,sevalprocAttr]
     generalize hR:EvC aa C0 W0 _ (Code.region _ _ _) _=R
     obtain ⟨t,he,tl,t0,t3,t4,t5,t6,t7⟩:=Jc hR hK (by simp only [ls,hlen]) (by simp only [hlen,h3,gB,sevalprocAttr]) (by simp only [hlen,h4,gB,sevalprocAttr]) (by simp only [hlen,h5,gB,sevalprocAttr]) (by simp only [hlen,h7,gB,sevalprocAttr]) (by omega) hix2 hra
     subst he
     simp only [hlen,h3,h4,h5,h6,h7,gB,sevalprocAttr] at t3 t4 t5 t6 t7
     simp -implicitDefEqProofs only [aP,tl,t3,t4,t5,t6,t7,hw,r5,↓az,nck,↓cbT,↓cbF,↓ao,an,eu,sevalprocAttr]
     generalize hX:EvC aa C0 W0 _ _ _=Z
     refine ih (j+1) _ _ _ hX (by omega) (by omega) ⟨by simp only [ls,tl],Aj5 (by simp only [tl,t3,t4,t5,t6,t7,gB,and_self,sevalprocAttr]) (?_)⟩
     rw [oX,hb,if_pos rfl,hy,Int.toNat_natCast]
     rfl
   | false =>
     rw [hb] at hrd1
     simp -implicitDefEqProofs only [C7,Tryz.f55,aP,hlen,h3,h4,h5,h6,h7,hb1,hlp,hlt,hix,hrd1,hw,r5,↓az,nck,↓cbT,↓cbF,↓ao,an,eu,sevalprocAttr]
     generalize hX:EvC aa C0 W0 _ _ _=Z
     refine ih (j+1) _ _ _ hX (by omega) (by omega) ⟨by simp only [ls,hlen],Aj5 (by simp only [hlen,h3,h4,h5,h6,h7,gB,and_self,sevalprocAttr]) (?_)⟩
     rw [oX,hb]
     exact hK
end Go.Dv
