/- Part 32 of the walks (own work). -/
import Derived.Test.YtilpjnckfkjkbaaGreatDoorS31
open Bool renaming true_and→aZ
open List renaming append_nil→af,getElem?_append_right→aw,getElem?_eq_getElem→aj,getElem?_map→aI,length_map→au,mem_flatten→vG,mem_map→bY,replicate→aA
open Nat renaming add_sub_cancel_left→bE,le_refl→ax,sub_self→dI,zero_le→fy
open Go.Proofs.Tryz renaming prog→aa
set_option maxRecDepth 100000
set_option maxHeartbeats 4000000
set_option linter.unusedSimpArgs false
set_option linter.unusedVariables false
namespace Go.Dv
open Go.Proofs
attribute [local congr] aH bP bj bO bQ
open Qu (off cr lq nD nxt aft lF)
theorem Uo {S0 G0:AH} (hG:Sub G0 S0) {ss:List (List Itm)} {vs:AV} {p mb q:Nat} {w:AV} {i:Nat} (hx:dA G0 (aR ss i) w) (hfew:ss.flatten.length<=1000) (hev:∀ x∈aR ss i,x.kind=3->0<=x.ev):∀ (d j:Nat) (tm:List AV) (K:AH),(aR ss i).length - j=d->j<=(aR ss i).length->(tm.length=111/\tm.getD 2 uA=.ptr q 0/\tm.getD 3 uA=.ptr p 0/\tm.getD 4 uA=.map mb/\tm.getD 14 uA=vs/\tm.getD 15 uA=I ss.length/\tm.getD 16 uA=I ((i:Nat):Int)/\tm.getD 20 uA=w/\tm.getD 21 uA=I (aR ss i).length/\tm.getD 22 uA=I ((j:Nat):Int)/\(∃ iv av ws mv l,ey S0 K p mb iv av ws mv l (A1 (qS ss) (off (qS ss) i+j)) (R1 (qS ss) (off (qS ss) i+j))/\l.map (·.1)=ss.flatten.take (off (qS ss) i+j)/\∀ q∈l,SlS 32 1 G0 q.2 (q.1.args.map dh))) ->
   ∃ X K1,EvC aa C0 W0 iE Bt (tm,K)=some (.exit 2,(X,K1))/\(X.length=111/\X.getD 2 uA=.ptr q 0/\X.getD 3 uA=.ptr p 0/\X.getD 4 uA=.map mb/\X.getD 14 uA=vs/\X.getD 15 uA=I ss.length/\X.getD 16 uA=I ((i:Nat):Int)/\X.getD 20 uA=w/\X.getD 21 uA=I (aR ss i).length/\X.getD 22 uA=I (((aR ss i).length:Nat):Int)/\(∃ iv av ws mv l,ey S0 K1 p mb iv av ws mv l (A1 (qS ss) (off (qS ss) i+(aR ss i).length)) (R1 (qS ss) (off (qS ss) i+(aR ss i).length))/\l.map (·.1)=ss.flatten.take (off (qS ss) i+(aR ss i).length)/\∀ q∈l,SlS 32 1 G0 q.2 (q.1.args.map dh))):=by
 intro d
 induction d with
 | zero =>
   intro j tm K hd hj hI
   have hjl:j=(aR ss i).length:=by omega
   subst hjl
   obtain ⟨hlen,h2,h3,h4,h14,h15,h16,h20,h21,h22,hP⟩:=hI
   have hlt:ltB (((aR ss i).length:Nat):Int) ((aR ss i).length:Nat)=false:=db (by omega)
   rw [Ln]
   simp -implicitDefEqProofs only [pT,Tryz.f42,aP,hlen,h3,h20,h21,h22,hlt,↓cbT,↓cbF,↓ao,an,eu,sevalprocAttr]
   exact ⟨_,K,rfl,by simp only [ls,hlen],Aj9 (by simp only [hlen,h2,h3,h4,h14,h15,h16,h20,h21,h22,gB,and_self,sevalprocAttr]) hP⟩
 | succ d ih =>
   intro j tm K hd hj hI
   obtain ⟨tm',K',he,hI'⟩:=N6 hG hx hfew hev (by omega) hI
   obtain ⟨X,K1,h1,h2⟩:=ih (j+1) tm' K' (by omega) (by omega) hI'
   exact ⟨X,K1,he.trans h1,h2⟩
theorem Ru {S0 G0:AH} (hG:Sub G0 S0) {ss:List (List Itm)} {vs:AV} {p mb q:Nat} (hs:da G0 ss vs) (hfew:ss.flatten.length<=1000) (hev:∀ l∈ss,∀ x∈l,x.kind=3->0<=x.ev):∀ (d i:Nat) (tm:List AV) (K:AH),ss.length - i=d->i<=ss.length->(tm.length=111/\tm.getD 2 uA=.ptr q 0/\tm.getD 3 uA=.ptr p 0/\tm.getD 4 uA=.map mb/\tm.getD 14 uA=vs/\tm.getD 15 uA=I ss.length/\tm.getD 16 uA=I ((i:Nat):Int)/\(∃ iv av ws mv l,ey S0 K p mb iv av ws mv l (A1 (qS ss) (off (qS ss) (i))) (R1 (qS ss) (off (qS ss) (i)))/\l.map (·.1)=ss.flatten.take (off (qS ss) (i))/\∀ q∈l,SlS 32 1 G0 q.2 (q.1.args.map dh))) ->
   ∃ X K1,EvC aa C0 W0 iE EN (tm,K)=some (.exit 0,(X,K1))/\(X.length=111/\X.getD 2 uA=.ptr q 0/\X.getD 3 uA=.ptr p 0/\X.getD 4 uA=.map mb/\X.getD 14 uA=vs/\X.getD 15 uA=I ss.length/\X.getD 16 uA=I ((ss.length:Nat):Int)/\(∃ iv av ws mv l,ey S0 K1 p mb iv av ws mv l (A1 (qS ss) (off (qS ss) (ss.length))) (R1 (qS ss) (off (qS ss) (ss.length)))/\l.map (·.1)=ss.flatten.take (off (qS ss) (ss.length))/\∀ q∈l,SlS 32 1 G0 q.2 (q.1.args.map dh))):=by
 intro d
 induction d with
 | zero =>
   intro i tm K hd hi hI
   have hil:i=ss.length:=by omega
   subst hil
   obtain ⟨hlen,h2,h3,h4,h14,h15,h16,hP⟩:=hI
   have hlt:ltB ((ss.length:Nat):Int) (ss.length:Nat)=false:=db (by omega)
   rw [Lm]
   simp -implicitDefEqProofs only [Cp,Tryz.f42,aP,hlen,h3,h14,h15,h16,hlt,↓cbT,↓cbF,↓ao,an,eu,sevalprocAttr]
   exact ⟨_,K,rfl,by simp only [ls,hlen],Aj6 (by simp only [hlen,h2,h3,h4,h14,h15,h16,gB,and_self,sevalprocAttr]) hP⟩
 | succ d ih =>
   intro i tm K hd hi hI
   have hil:i < ss.length:=by omega
   obtain ⟨hlen,h2,h3,h4,h14,h15,h16,iv,av,ws,mv,l,hP,hl,ha⟩:=hI
   have hlt:ltB (i:Int) (ss.length:Nat)=true:=cQ (by omega)
   have hsn:=hs.n
   have hw:=cD (j:=i) (by omega)
   obtain ⟨i0,k0,w,hix,hrd,hx⟩:=hs.atS (hG.trans hP.sub) hil
   have hln:=hx.len
   have hrd0:=hrd []
   rw [af] at hrd0
   rw [Lm]
   simp -implicitDefEqProofs only [Cp,Tryz.f42,aP,hlen,h3,h14,h15,h16,hlt,hix,hrd0,hln,r5,↓az,nck,↓cbT,↓cbF,↓ao,an,eu,sevalprocAttr]
   generalize hX:EvC aa C0 W0 iE (Code.loop _) _=Z
   have hin:∀ (tm:List AV) (K:AH) (Z:Option (bu × St)),EvC aa C0 W0 iE Bt (tm,K)=Z->(tm.length=111/\tm.getD 2 uA=.ptr q 0/\tm.getD 3 uA=.ptr p 0/\tm.getD 4 uA=.map mb/\tm.getD 14 uA=vs/\tm.getD 15 uA=I ss.length/\tm.getD 16 uA=I ((i:Nat):Int)/\tm.getD 20 uA=w/\tm.getD 21 uA=I (aR ss i).length/\tm.getD 22 uA=I ((0:Nat):Int)/\(∃ iv av ws mv l,ey S0 K p mb iv av ws mv l (A1 (qS ss) (off (qS ss) i+0)) (R1 (qS ss) (off (qS ss) i+0))/\l.map (·.1)=ss.flatten.take (off (qS ss) i+0)/\∀ q∈l,SlS 32 1 G0 q.2 (q.1.args.map dh)))->∃ X K1,Z=some (.exit 2,(X,K1))/\(X.length=111/\X.getD 2 uA=.ptr q 0/\X.getD 3 uA=.ptr p 0/\X.getD 4 uA=.map mb/\X.getD 14 uA=vs/\X.getD 15 uA=I ss.length/\X.getD 16 uA=I ((i:Nat):Int)/\X.getD 20 uA=w/\X.getD 21 uA=I (aR ss i).length/\X.getD 22 uA=I (((aR ss i).length:Nat):Int)/\(∃ iv av ws mv l,ey S0 K1 p mb iv av ws mv l (A1 (qS ss) (off (qS ss) i+(aR ss i).length)) (R1 (qS ss) (off (qS ss) i+(aR ss i).length))/\l.map (·.1)=ss.flatten.take (off (qS ss) i+(aR ss i).length)/\∀ q∈l,SlS 32 1 G0 q.2 (q.1.args.map dh))):=fun tm K Z hZ hI=>by
     subst hZ
     exact Uo hG hx hfew (hev _ (gO hil)) _ 0 tm K rfl (fy _) hI
   obtain ⟨X,K1,he,hXl,x2,x3,x4,x14,x15,x16,x20,x21,x22,hP1⟩:=hin _ _ _ hX ⟨by simp only [ls,hlen],by simp only [hlen,h2,gB,sevalprocAttr]; try rfl,by simp only [hlen,h3,gB,sevalprocAttr]; try rfl,by simp only [hlen,h4,gB,sevalprocAttr]; try rfl,by simp only [hlen,h14,gB,sevalprocAttr]; try rfl,by simp only [hlen,h15,gB,sevalprocAttr]; try rfl,by simp only [hlen,h16,gB,sevalprocAttr]; try rfl,by simp only [hlen,gB,sevalprocAttr]; try rfl,by simp only [hlen,gB,sevalprocAttr]; try rfl,by simp only [hlen,gB,sevalprocAttr]; try rfl,iv,av,ws,mv,l,hP,hl,ha⟩
   subst he
   have hoff:off (qS ss) i+(aR ss i).length=off (qS ss) (i+1):=by
     rw [Qu.nH (by rw [wR]; exact hil),Ep,au]
   rw [hoff] at hP1
   simp -implicitDefEqProofs only [Cp,Tryz.f42,aP,hXl,x2,x3,x4,x14,x15,x16,x20,x21,x22,hw,r5,↓az,nck,↓cbT,↓cbF,↓ao,an,eu,sevalprocAttr]
   generalize hY:EvC aa C0 W0 iE _ _=Z
   have hnx:∀ (tm:List AV) (K:AH) (Z:Option (bu × St)),EvC aa C0 W0 iE EN (tm,K)=Z->(tm.length=111/\tm.getD 2 uA=.ptr q 0/\tm.getD 3 uA=.ptr p 0/\tm.getD 4 uA=.map mb/\tm.getD 14 uA=vs/\tm.getD 15 uA=I ss.length/\tm.getD 16 uA=I (((i+1):Nat):Int)/\(∃ iv av ws mv l,ey S0 K p mb iv av ws mv l (A1 (qS ss) (off (qS ss) ((i+1)))) (R1 (qS ss) (off (qS ss) ((i+1))))/\l.map (·.1)=ss.flatten.take (off (qS ss) ((i+1)))/\∀ q∈l,SlS 32 1 G0 q.2 (q.1.args.map dh)))->∃ X K1,Z=some (.exit 0,(X,K1))/\(X.length=111/\X.getD 2 uA=.ptr q 0/\X.getD 3 uA=.ptr p 0/\X.getD 4 uA=.map mb/\X.getD 14 uA=vs/\X.getD 15 uA=I ss.length/\X.getD 16 uA=I ((ss.length:Nat):Int)/\(∃ iv av ws mv l,ey S0 K1 p mb iv av ws mv l (A1 (qS ss) (off (qS ss) (ss.length))) (R1 (qS ss) (off (qS ss) (ss.length)))/\l.map (·.1)=ss.flatten.take (off (qS ss) (ss.length))/\∀ q∈l,SlS 32 1 G0 q.2 (q.1.args.map dh))):=fun tm K Z hZ hI=>by
     subst hZ
     exact ih (i+1) tm K (by omega) (by omega) hI
   exact hnx _ _ _ hY ⟨by simp only [ls,hXl],Aj6 (by simp only [hXl,x2,x3,x4,x14,x15,x16,gB,and_self,sevalprocAttr]) hP1⟩
end Go.Dv
namespace Go.Dv
open Go.Proofs
attribute [local congr] aH bP bj bO bQ
open Qu (off cr lq nD nxt aft lF)
theorem N5 {S0:AH} {ss:List (List Itm)} {p mb q:Nat} {iv:AV} {l:List (Itm × AV)} (hl:l.map (·.1)=ss.flatten) (hfew:ss.flatten.length<=1000) (hargs:∀ q∈l,q.2.cells=[q.2]/\q.2.one=true) (hev:∀ x∈ss.flatten,x.kind=4->0<=x.ev) {j:Nat} (hj:j < ss.flatten.length) {tm:List AV} {K:AH} (hI:tm.length=111/\tm.getD 2 uA=.ptr q 0/\tm.getD 3 uA=.ptr p 0/\tm.getD 4 uA=.map mb/\tm.getD 73 uA=iv/\tm.getD 74 uA=I (ss.flatten.length:Nat)/\tm.getD 75 uA=I ((j:Nat):Int)/\∃ av ws mv,ey S0 K p mb iv av ws mv l (A2 (qS ss) (j)) (R1 (qS ss) ss.flatten.length)) :
   ∃ tm' K',EvC aa C0 W0 iE Bs (tm,K)=EvC aa C0 W0 iE Bs (tm',K')/\tm'.length=111/\tm'.getD 2 uA=.ptr q 0/\tm'.getD 3 uA=.ptr p 0/\tm'.getD 4 uA=.map mb/\tm'.getD 73 uA=iv/\tm'.getD 74 uA=I (ss.flatten.length:Nat)/\tm'.getD 75 uA=I (((j+1):Nat):Int)/\∃ av ws mv,ey S0 K' p mb iv av ws mv l (A2 (qS ss) ((j+1))) (R1 (qS ss) ss.flatten.length):=by
 obtain ⟨hlen,h2,h3,h4,h73,h74,h75,av,ws,mv,hP⟩:=hI
 have hlt:ltB (j:Int) (ss.flatten.length:Nat)=true:=cQ (by omega)
 have hw:=cD (j:=j) (by omega)
 have hNq:(qS ss).flatten.length=ss.flatten.length:=by rw [jv,au]
 have hjl:j < l.length:=by rw [<-au (f:=(·.1)),hl]; exact hj
 have hpl:l[j]∈l:=List.getElem_mem hjl
 obtain ⟨hac,hao⟩:=hargs _ hpl
 have hfl:(qS ss).flatten[j]? =some (qi (l[j]).1):=by
   rw [jv,<-hl,aI,aI,aj hjl]; rfl
 have hsl:=Own.nz mL (by decide) hP.oi.own (eU l)
 obtain ⟨i0,k0,hix,hrd⟩:=hsl.ix j (dQ l[j]) (by rw [aI,aj hjl]; rfl)
 have hrd:=fun L=>(al.app K L).sub.rd hrd
 have hevx:(l[j]).1.kind=4->0<=(l[j]).1.ev:=hev _ (by rw [<-hl]; exact List.mem_map_of_mem hpl)
 have hlkk:=fun e L=>hP.hm.get e L
 have hlnn:∀ (e:Nat) (G:AH),dR aa 30 G (mv e)=some (I ((R1 (qS ss) ss.flatten.length e).length:Nat)):=fun e G=>by
   have:=((hP.om e).own.ints (l:=R1 (qS ss) ss.flatten.length e)).len G
   rwa [show (ints (R1 (qS ss) ss.flatten.length e)).length=(R1 (qS ss) ss.flatten.length e).length from by simp [ints]] at this
 generalize l[j]=px at *
 obtain ⟨x,va⟩:=px
 simp only [dQ] at hrd
 rw [Ll]
 rw [<-af K]
 have hput:∀ o,put none K o=some (K.length,K++[o]):=fun _=>rfl
 cases hk:eqB x.kind 4 with
 | false =>
   have hkn:x.kind≠4:=(pL _ _).1 hk
   rw [show A2 (qS ss) (j+1)=A2 (qS ss) j from FP hfl fun c=>hkn c.1]
   simp only [aU] at hrd
   simp -implicitDefEqProofs only [xV,Tryz.f42,aP,hlen,h2,h3,h4,h73,h74,h75,hlt,hw,hix,hrd,se,d7,↓hac,↓hao,hput,hk,r5,↓az,nck,↓cbT,↓cbF,↓ao,an,eu,sevalprocAttr]
   exact ⟨_,_,rfl,by simp only [ls,hlen],Aj6 (by simp only [hlen,h2,h3,h4,h73,h74,gB,and_self,sevalprocAttr]) ⟨av,ws,mv,hP.grow _⟩⟩
 | true =>
   have hky:x.kind=4:=(cX _ _).1 hk
   obtain ⟨e,he⟩:∃ e:Nat,x.ev=(e:Int):=⟨x.ev.toNat,by have:=hevx hky; simp only at this; omega⟩
   have hlk:=hlkk e
   have hln:=hlnn e
   cases hq:eqB ((R1 (qS ss) ss.flatten.length e).length:Nat) 1 with
   | false =>
     have hqn:=(pL _ _).1 hq
     rw [show A2 (qS ss) (j+1)=A2 (qS ss) j from FP hfl fun c=>hqn (by
       have:=c.2
       rw [show (qi x).event=(e:Int) from he,<-FN,hNq] at this
       rw [this]; rfl)]
     simp only [aU,he] at hrd
     simp -implicitDefEqProofs only [xV,Tryz.f42,aP,hlen,h2,h3,h4,h73,h74,h75,hlt,hw,hix,hrd,se,d7,↓hac,↓hao,hput,hk,hlk,hln,hq,r5,↓az,nck,↓cbT,↓cbF,↓ao,an,eu,sevalprocAttr]
     exact ⟨_,_,rfl,by simp only [ls,hlen],Aj6 (by simp only [hlen,h2,h3,h4,h73,h74,gB,and_self,sevalprocAttr]) ⟨av,ws,mv,hP.grow _⟩⟩
   | true =>
     have hq1:(R1 (qS ss) ss.flatten.length e).length=1:=by have:=(cX _ _).1 hq; omega
     obtain ⟨n,hn⟩:=List.length_eq_one_iff.1 hq1
     obtain ⟨hnN,hA⟩:=Tm hfl (show (qi x).kind=4 from hky) (n:=n) (by
       rw [show (qi x).event=(e:Int) from he,<-FN,hNq]; exact hn)
     rw [hA]
     have hrow:=(hP.om e).own.ints (l:=R1 (qS ss) ss.flatten.length e)
     rw [hn] at hrow
     obtain ⟨i1,k1,hix1,hrd1⟩:=ints_at hrow (al.refl K) (j:=0) (by simp)
     have hix1':∀ kk,aG aa 30 (mv e) (.int kk 0)=some (.ptr i1 k1):=hix1
     have hrd1':∀ L,ak (K++L) i1 k1 1=some [I (n:Int)]:=hrd1
     simp only [aU,he] at hrd
     simp -implicitDefEqProofs only [xV,Tryz.f42,aP,hlen,h2,h3,h4,h73,h74,h75,hlt,hw,hix,hrd,se,d7,↓hac,↓hao,hput,hk,hlk,hln,hq,hix1',hrd1',r5,↓az,nck,↓cbT,↓cbF,↓ao,an,eu,sevalprocAttr]
     generalize hR:EvC aa C0 W0 iE (Code.region 22 _ _) _=Z22
     obtain ⟨t,K1,ws1,e1,tl,tlow,P1⟩:=Ih (hP.pad _) hR (by simp only [ls,hlen]) (by simp only [hlen,h3,gB,sevalprocAttr]) (j:=j) (n:=n) (by simp only [hlen,gB,sevalprocAttr]) (by simp only [hlen,gB,sevalprocAttr]) (by rw [Tl]; exact hnN) (by rw [FQ _ _ hnN]; exact Nat.le_trans (yg _ _ _) (by omega))
     subst e1
     have t2:t.getD 2 uA=.ptr q 0:=(tlow 2 (by decide)).trans (by simp only [hlen,h2,gB,sevalprocAttr])
     have t3:t.getD 3 uA=.ptr p 0:=(tlow 3 (by decide)).trans (by simp only [hlen,h3,gB,sevalprocAttr])
     have t4:t.getD 4 uA=.map mb:=(tlow 4 (by decide)).trans (by simp only [hlen,h4,gB,sevalprocAttr])
     have t73:t.getD 73 uA=iv:=(tlow 73 (by decide)).trans (by simp only [hlen,h73,gB,sevalprocAttr])
     have t74:t.getD 74 uA=I (ss.flatten.length:Nat):=(tlow 74 (by decide)).trans (by simp only [hlen,h74,gB,sevalprocAttr])
     have t75:t.getD 75 uA=I ((j:Nat):Int):=(tlow 75 (by decide)).trans (by simp only [hlen,h75,gB,sevalprocAttr])
     simp -implicitDefEqProofs only [xV,Tryz.f42,aP,tl,t2,t3,t4,t73,t74,t75,hw,r5,↓az,nck,↓cbT,↓cbF,↓ao,an,eu,sevalprocAttr]
     exact ⟨_,_,rfl,by simp only [ls,tl],Aj6 (by simp only [tl,t2,t3,t4,t73,t74,gB,and_self,sevalprocAttr]) ⟨av,ws1,mv,P1.less nF.sub nF.len⟩⟩
theorem IV {S0:AH} {ss:List (List Itm)} {p mb q:Nat} {iv:AV} {l:List (Itm × AV)} (hl:l.map (·.1)=ss.flatten) (hfew:ss.flatten.length<=1000) (hargs:∀ q∈l,q.2.cells=[q.2]/\q.2.one=true) (hev:∀ x∈ss.flatten,x.kind=4->0<=x.ev):∀ (d j:Nat) (tm:List AV) (K:AH),ss.flatten.length - j=d->j<=ss.flatten.length->(tm.length=111/\tm.getD 2 uA=.ptr q 0/\tm.getD 3 uA=.ptr p 0/\tm.getD 4 uA=.map mb/\tm.getD 73 uA=iv/\tm.getD 74 uA=I (ss.flatten.length:Nat)/\tm.getD 75 uA=I ((j:Nat):Int)/\∃ av ws mv,ey S0 K p mb iv av ws mv l (A2 (qS ss) (j)) (R1 (qS ss) ss.flatten.length)) ->
   ∃ X K1,EvC aa C0 W0 iE Bs (tm,K)=some (.exit 4,(X,K1))/\(X.length=111/\X.getD 2 uA=.ptr q 0/\X.getD 3 uA=.ptr p 0/\X.getD 4 uA=.map mb/\X.getD 73 uA=iv/\X.getD 74 uA=I (ss.flatten.length:Nat)/\X.getD 75 uA=I ((ss.flatten.length:Nat):Int)/\∃ av ws mv,ey S0 K1 p mb iv av ws mv l (A2 (qS ss) (ss.flatten.length)) (R1 (qS ss) ss.flatten.length)):=by
 intro d
 induction d with
 | zero =>
   intro j tm K hd hj hI
   have hjl:j=ss.flatten.length:=by omega
   subst hjl
   obtain ⟨hlen,h2,h3,h4,h73,h74,h75,hP⟩:=hI
   have hlt:ltB ((ss.flatten.length:Nat):Int) (ss.flatten.length:Nat)=false:=db (by omega)
   rw [Ll]
   simp -implicitDefEqProofs only [xV,Tryz.f42,aP,hlen,h2,h3,h4,h73,h74,h75,hlt,↓cbT,↓cbF,↓ao,an,eu,sevalprocAttr]
   exact ⟨_,K,rfl,by simp only [ls,hlen],Aj6 (by simp only [hlen,h2,h3,h4,h73,h74,h75,gB,and_self,sevalprocAttr]) hP⟩
 | succ d ih =>
   intro j tm K hd hj hI
   obtain ⟨tm',K',he,hI'⟩:=N5 hl hfew hargs hev (by omega) hI
   obtain ⟨X,K1,h1,h2⟩:=ih (j+1) tm' K' (by omega) (by omega) hI'
   exact ⟨X,K1,he.trans h1,h2⟩
end Go.Dv
namespace Go.Dv
open Go.Proofs
attribute [local congr] aH bP bj bO bQ
open Qu (off cr lq nD nxt aft lF)
theorem z93:ep aa 93=some (.agg [.nilSlice,.nilSlice]):=by kernel_rfl
theorem Dx (H:AH) (i k:Nat):ldA aa 93 H i k=(ak H i k 2).map .agg:=by kernel_rfl
theorem Q7 (H:AH) (i k:Nat) (x:AV):stA aa 93 H i k x=if x.cells.length=2 then bp H i k x.cells else none:=by kernel_rfl
theorem GF {H:AH} {ss:List (List Itm)} {vs:AV} (hs:da H ss vs) (hfew:ss.flatten.length<=1000):ss.flatten.length < 2 ^ 50/\(∀ x∈ss.flatten,x.args.length < 2 ^ 50)/\(∀ x∈ss.flatten,∀ a∈x.args,eD a)/\∀ x∈ss.flatten,eD x.word:=by
 obtain ⟨⟨l,e,_,hl⟩,_⟩:=hs
 have key:∀ x∈ss.flatten,∃ xs v,dA H xs v/\x∈xs:=fun x hx=>by
   obtain ⟨xs,h1,h2⟩:=vG.1 hx
   rw [<-e] at h1
   obtain ⟨p,hp,rfl⟩:=bY.1 h1
   exact ⟨_,_,hl p hp,h2⟩
 refine ⟨by omega,fun x hx=>?_,fun x hx=>?_,fun x hx=>?_⟩
 all_goals obtain ⟨xs,v,h1,h2⟩:=key x hx
 · exact h1.na x h2
 · exact h1.im x h2
 · exact h1.iw x h2
theorem N7 (H:AH):ey (H++[.cells [.nilSlice,.nilSlice] 93]) (H++[.cells [.nilSlice,.nilSlice] 93,.cells [.nilSlice,.nilSlice] 93,.map [] 0]) (H.length+1) (H.length+2) .nilSlice .nilSlice [] (fun _=>.nilSlice) [] [] (fun _=>[]) where
 sub:=(al.sub (by
   have:=al.app (H++[bo.cells [.nilSlice,.nilSlice] 93]) [.cells [.nilSlice,.nilSlice] 93,.map [] 0]
   rwa [List.append_assoc] at this))
 gp:=s6 (by simp)
 gm:=s6 (by simp)
 pm:=by omega
 hp:=by rw [aw (by omega),bE]; rfl
 hm:=⟨[],List.nodup_nil,by rw [aw (by omega),bE]; rfl,fun _ _=>rfl⟩
 lw:=rfl
 ow:={
   sl:=by simp
   xl:=fun x hx=>by
     simp only [List.mem_cons,List.not_mem_nil,or_false] at hx
     rw [List.length_append]
     rcases hx with rfl | rfl <;> simp
   ex:=fun a i=>by
     left
     match a,i with
     | 0,0=>exact ⟨rfl,rfl⟩
     | 1,0=>exact ⟨rfl,rfl⟩
     | 2,i=>exact ⟨rfl,rfl⟩
     | 3,e=>exact ⟨rfl,rfl⟩
     | 0,i+1=>exact ⟨rfl,rfl⟩
     | 1,i+1=>exact ⟨rfl,rfl⟩
     | a+4,i=>exact ⟨rfl,rfl⟩
   dis:=fun a i c j _ b hb=>by
     have:bZ (plF .nilSlice .nilSlice [] (fun _=>.nilSlice) [] [] (fun _=>[]) a i).1=none:=by
       match a,i with
       | 0,0=>rfl
       | 1,0=>rfl
       | 2,i=>rfl
       | 3,e=>rfl
       | 0,i+1=>rfl
       | 1,i+1=>rfl
       | a+4,i=>rfl
     rw [this] at hb; cases hb
   own:=fun a i b hb=>by
     have:bZ (plF .nilSlice .nilSlice [] (fun _=>.nilSlice) [] [] (fun _=>[]) a i).1=none:=by
       match a,i with
       | 0,0=>rfl
       | 1,0=>rfl
       | 2,i=>rfl
       | 3,e=>rfl
       | 0,i+1=>rfl
       | 1,i+1=>rfl
       | a+4,i=>rfl
     rw [this] at hb; cases hb }
theorem Ou (ss:List (List Itm)):off (qS ss) ss.length=ss.flatten.length:=by
 have:=Qu.dP (qS ss)
 rw [jv,au,wR] at this
 exact this.symm
theorem Wv {H:AH} {ss:List (List Itm)} {vs:AV} (hs:da H ss vs) (hfew:ss.flatten.length<=1000) (hev:∀ l∈ss,∀ x∈l,x.kind=3∨x.kind=4->0<=x.ev) :
   ∃ iv av K,Ev aa C0 W0 42 [vs] H=some (.agg [iv,av],K)/\Sub H K/\H.length<=K.length/\dA K ss.flatten iv/\lx K (aft (qS ss)) av/\(iv.cells=[iv]/\iv.one=true)/\(av.cells=[av]/\av.one=true)/\((iv=.nilSlice/\ss.flatten.length=0)∨∃ b,iv=.slice b 0 9 ss.flatten.length ss.flatten.length false):=by
 obtain ⟨tm,ht,g0,g1⟩:=tm1 vs 111 (by decide)
 rw [Zb,ht]
 have hln:=hs.len
 have hG:Sub H (H++[.cells [.nilSlice,.nilSlice] 93]):=(al.app H _).sub
 have hput:∀ o,put none H o=some (H.length,H++[o]):=fun _=>rfl
 simp -implicitDefEqProofs only [c42,Tryz.f42,aP,g0,g1,hln,z93,hput,↓k9,r5,↓az,nck,↓cbT,↓cbF,↓ao,an,eu,sevalprocAttr]
 generalize hX:EvC aa C0 W0 iE _ _=Z
 have hout:∀ (tm:List AV) (K:AH) (Z:Option (bu × St)),EvC aa C0 W0 iE EN (tm,K)=Z->(tm.length=111/\tm.getD 2 uA=.ptr H.length 0/\tm.getD 3 uA=.ptr (H.length+1) 0/\tm.getD 4 uA=.map (H.length+2)/\tm.getD 14 uA=vs/\tm.getD 15 uA=I ss.length/\tm.getD 16 uA=I ((0:Nat):Int)/\(∃ iv av ws mv l,ey (H++[.cells [.nilSlice,.nilSlice] 93]) K (H.length+1) (H.length+2) iv av ws mv l (A1 (qS ss) (off (qS ss) (0))) (R1 (qS ss) (off (qS ss) (0)))/\l.map (·.1)=ss.flatten.take (off (qS ss) (0))/\∀ q∈l,SlS 32 1 H q.2 (q.1.args.map dh)))->∃ X K1,Z=some (.exit 0,(X,K1))/\(X.length=111/\X.getD 2 uA=.ptr H.length 0/\X.getD 3 uA=.ptr (H.length+1) 0/\X.getD 4 uA=.map (H.length+2)/\X.getD 14 uA=vs/\X.getD 15 uA=I ss.length/\X.getD 16 uA=I ((ss.length:Nat):Int)/\(∃ iv av ws mv l,ey (H++[.cells [.nilSlice,.nilSlice] 93]) K1 (H.length+1) (H.length+2) iv av ws mv l (A1 (qS ss) (off (qS ss) (ss.length))) (R1 (qS ss) (off (qS ss) (ss.length)))/\l.map (·.1)=ss.flatten.take (off (qS ss) (ss.length))/\∀ q∈l,SlS 32 1 H q.2 (q.1.args.map dh))):=fun tm K Z hZ hI=>by
   subst hZ
   exact Ru hG hs hfew (fun l hl x hx hk=>hev l hl x hx (.inl hk)) _ 0 tm K rfl (fy _) hI
 obtain ⟨X,K1,he,hXl,x2,x3,x4,x14,x15,x16,iv,av,ws,mv,l,hP,hl,ha⟩:=hout _ _ _ hX ⟨by simp only [ls,g0],Aj5 (by simp only [g0,g1,gB,and_self,sevalprocAttr]) ⟨by simp only [g0,gB,sevalprocAttr]; try rfl,.nilSlice,.nilSlice,[],fun _=>.nilSlice,[],N7 H,rfl,fun q hq=>by cases hq⟩⟩
 subst he
 rw [Ou] at hP hl
 rw [List.take_length] at hl
 have hNq:(qS ss).flatten.length=ss.flatten.length:=by rw [jv,au]
 have hll:l.length=ss.flatten.length:=by rw [<-hl,au]
 rw [show A1 (qS ss) ss.flatten.length=A2 (qS ss) 0 from by rw [<-hNq]; exact To _] at hP
 have hr0:=hP.rp [] 0 rfl
 rw [af] at hr0
 have hli:∀ G,dR aa 31 G iv=some (I ((ss.flatten.length:Nat):Int)):=fun G=>by
   have:=(hP.oi.own.nz mL (by decide) (eU l)).len G
   rwa [au,hll] at this
 simp -implicitDefEqProofs only [c42,Tryz.f42,aP,hXl,x2,x3,x4,hr0,hli,pI,r5,↓az,nck,↓cbT,↓cbF,↓ao,an,eu,sevalprocAttr]
 generalize hY:EvC aa C0 W0 iE _ _=Z
 have hwa:∀ (tm:List AV) (K:AH) (Z:Option (bu × St)),EvC aa C0 W0 iE Bs (tm,K)=Z->(tm.length=111/\tm.getD 2 uA=.ptr H.length 0/\tm.getD 3 uA=.ptr (H.length+1) 0/\tm.getD 4 uA=.map (H.length+2)/\tm.getD 73 uA=iv/\tm.getD 74 uA=I (ss.flatten.length:Nat)/\tm.getD 75 uA=I ((0:Nat):Int)/\∃ av ws mv,ey (H++[.cells [.nilSlice,.nilSlice] 93]) K (H.length+1) (H.length+2) iv av ws mv l (A2 (qS ss) (0)) (R1 (qS ss) ss.flatten.length))->∃ X K1,Z=some (.exit 4,(X,K1))/\(X.length=111/\X.getD 2 uA=.ptr H.length 0/\X.getD 3 uA=.ptr (H.length+1) 0/\X.getD 4 uA=.map (H.length+2)/\X.getD 73 uA=iv/\X.getD 74 uA=I (ss.flatten.length:Nat)/\X.getD 75 uA=I ((ss.flatten.length:Nat):Int)/\∃ av ws mv,ey (H++[.cells [.nilSlice,.nilSlice] 93]) K1 (H.length+1) (H.length+2) iv av ws mv l (A2 (qS ss) (ss.flatten.length)) (R1 (qS ss) ss.flatten.length)):=fun tm K Z hZ hI=>by
   subst hZ
   exact IV hl hfew (fun q hq=>⟨(ha q hq).cells,(ha q hq).one⟩) (fun x hx hk=>by
     obtain ⟨xs,h1,h2⟩:=vG.1 hx
     exact hev xs h1 x h2 (.inr hk)) _ 0 tm K rfl (fy _) hI
 obtain ⟨Y,K2,he,hYl,y2,y3,y4,y73,y74,y75,av2,ws2,mv2,hP2⟩:=hwa _ _ _ hY ⟨by simp only [ls,hXl],Aj5 (by simp only [hXl,x2,x3,x4,gB,and_self,sevalprocAttr]) ⟨by simp only [hXl,gB,sevalprocAttr]; try rfl,av,ws,mv,hP⟩⟩
 subst he
 rw [show A2 (qS ss) ss.flatten.length=aft (qS ss) from by rw [<-hNq]; exact Tn _] at hP2
 have hp2:ak K2 (H.length+1) 0 2=some [iv,av2]:=by
   unfold ak; rw [hP2.hp]; rfl
 have hq2:K2[H.length]? =some (.cells [.nilSlice,.nilSlice] 93):=hP2.sub H.length _ (by rw [aw (ax _),dI]; rfl) (by simp)
 have hic:=hP2.oi.cells
 have hac:=hP2.oa.cells
 have hic1:=hic.1
 have hic2:=hic.2
 have hac1:=hac.1
 have hac2:=hac.2
 have hq2l:=aJ hq2
 have hwr:bp K2 H.length 0 [iv,av2]=some (K2.set H.length (.cells [iv,av2] 93)):=by
   have:=gN hq2 (k:=0) (xs:=[iv,av2]) (by simp) (by simp [hic2,hac2]) []
   rw [af,af] at this
   rw [this]; rfl
 have hrq:ak (K2.set H.length (.cells [iv,av2] 93)) H.length 0 2=some [iv,av2]:=by
   unfold ak; rw [List.getElem?_set_self hq2l]; rfl
 simp -implicitDefEqProofs only [c42,Tryz.f42,aP,hYl,y2,y3,hp2,Dx,Q7,↓hic1,↓hac1,hwr,Yu,hrq,r5,↓az,nck,↓cbT,↓cbF,↓ao,an,eu,sevalprocAttr]
 have hkp:∀ c,c≠H.length->(K2.set H.length (.cells [iv,av2] 93))[c]? =K2[c]?:=fun c hc=>List.getElem?_set_ne (Ne.symm hc)
 have hS0:(H++[bo.cells [.nilSlice,.nilSlice] 93])[H.length]? =some (.cells [.nilSlice,.nilSlice] 93):=by rw [aw (ax _),dI]; rfl
 have hne:∀ a i,bZ (plF iv av2 ws2 mv2 l (aft (qS ss)) (R1 (qS ss) ss.flatten.length) a i).1≠some H.length:=fun a i e=>(hP2.ow.own a i _ e).1.ne hS0 (by simp) rfl
 have hsub:Sub H (K2.set H.length (.cells [iv,av2] 93)):=((al.app H [bo.cells [.nilSlice,.nilSlice] 93]).sub.trans hP2.sub).tN (s6 (ax _)) _
 have hb3:Sub (H++[.cells [.nilSlice,.nilSlice] 93]) K2:=hP2.sub
 have hargs:∀ q∈l,SlS 32 1 (K2.set H.length (.cells [iv,av2] 93)) q.2 (q.1.args.map dh):=fun q hq=>(ha q hq).sub hsub
 refine ⟨iv,av2,_,rfl,hsub,by rw [List.length_set]; omega,?_,?_,hic,hac,?_⟩
 · obtain ⟨f1,f2,f3,f4⟩:=GF hs hfew
   have oi:=hP2.oi.ll (K':=K2.set H.length (.cells [iv,av2] 93)) fun i hi=>hkp i fun e=>hne 0 0 (by rw [<-e]; exact hi)
   exact ⟨⟨l,hl,oi.own.nz mL (by decide) (eU l),hargs⟩,f1,f2,f3,f4⟩
 · have oa:=hP2.oa.ll (K':=K2.set H.length (.cells [iv,av2] 93)) fun i hi=>hkp i fun e=>hne 1 0 (by rw [<-e]; exact hi)
   refine ⟨ws2,hP2.lw,?_,fun i hi=>?_⟩
   · refine Own.nz (elem:=30) (b:=0) Vg (by decide) (rows:=ws2.map fun w=>[w]) ?_ (fun r hr=>by obtain ⟨w,_,rfl⟩:=bY.1 hr; rfl)
     rw [show (ws2.map fun w=>[w]).flatten=ws2 from by
       have:=pF (fun w:AV=>w) ws2
       simpa using this]
     exact oa.own
   · have ow:=(hP2.ow2 i).ll (K':=K2.set H.length (.cells [iv,av2] 93)) fun j hj=>hkp j fun e=>hne 2 i (by rw [<-e]; exact hj)
     have hw:ws2.getD i uA=ws2.getD i .nilSlice:=by
       have:i < ws2.length:=by rw [hP2.lw]; exact hi
       rw [dr this,dr this]
     rw [hw]
     exact ow.own.ints
 · have ho:=hP2.oi
   have hfl:=dP (eU l)
   rw [au,hll] at hfl
   rcases ho with ⟨e1,e2⟩ | ⟨b,n,e1,e2,e3⟩
   · left
     rw [e2,List.length_nil] at hfl
     exact ⟨e1,by omega⟩
   · right
     refine ⟨b,?_⟩
     rw [e1]
     have:n=ss.flatten.length:=by omega
     rw [this]
end Go.Dv
namespace Go.Dv
open Go.Proofs
attribute [local congr] aH bP bj bO bQ
open Qu (off cr lq nD nxt aft lF bef)
def fm:Con:=⟨1,false,1,1,0,0,0⟩
theorem z27:ep aa 27=some (.agg [I 0,.bool false,I 0,I 0,I 0,I 0,I 0]):=by kernel_rfl
theorem Xu:kz aa 27 [(0,I 1),(2,I 1),(3,I 1)]=some (.agg [I 1,.bool false,I 1,I 1,I 0,I 0,I 0]):=by kernel_rfl
theorem yR (H:AH) (i k:Nat):ldA aa 27 H i k=(ak H i k 7).map .agg:=by kernel_rfl
theorem SE (H:AH):Ev aa C0 W0 41 [] H=some (.agg (d8 fm),H++[.cells (d8 fm) 27]):=by
 have g0:(([]:List AV)++aA (2 - ([]:List AV).length) uA).length=2:=by simp
 rw [Zc]
 generalize ([]:List AV)++aA (2 - ([]:List AV).length) uA=tm at *
 simp -implicitDefEqProofs only [c41,Tryz.f41,aP,g0,z27,Xu,XZ,Yv,yR,show ∀ o,put none H o=some (H.length,H++[o]) from fun _=>rfl,fm,d8,r5,↓az,nck,↓cbT,↓cbF,↓ao,an,eu,sevalprocAttr]
def jY (cs:List Cod) (ss:List (List Itm)) (i j:Nat):Bool:=!rI cs (bB ss.flatten i) (bB ss.flatten j) || bef (qS ss) i j || bef (qS ss) j i
theorem HV {ss:List (List Itm)} {i j:Nat} {seen:List Nat} (hi:i < ss.flatten.length) (hj:j < ss.flatten.length) (h:∀ y,y∈seen↔Qu.TG (Qu.EA (aft (qS ss))) i y):seen.contains j=bef (qS ss) i j:=by
 have hN:(qS ss).flatten.length=ss.flatten.length:=by rw [jv,au]
 rw [Bool.eq_iff_iff,List.contains_iff_mem,h j]
 exact Qu.Gm (by omega) (by omega)
theorem Qj {H:AH} {ss:List (List Itm)} {iv av:AV} {n:Nat} (hic:iv.cells=[iv]/\iv.one=true) (hac:av.cells=[av]/\av.one=true) (haft:lx H (aft (qS ss)) av) (hn:n < ss.flatten.length) (hfew:ss.flatten.length<=1000):∃ mb K,Ev aa C0 W0 44 [.agg [iv,av],I n] H=some (.map mb,K)/\al H K/\∀ j L,j < ss.flatten.length->ig aa 95 (.map mb) (I (j:Int)) false (K++L)=some (.bool (bef (qS ss) n j)):=by
 have hN:(qS ss).flatten.length=ss.flatten.length:=by rw [jv,au]
 obtain ⟨mb,K,seen,h1,h2,_,h3,h4⟩:=aaj (N:=ss.flatten.length) (n:=n) hic hac haft (by rw [Qu.FL,hN]) (fun l hl y hy=>by rw [<-hN]; exact Qu.Ms l hl y hy) (fun l hl=>by
   unfold aft at hl
   obtain ⟨m,hm,rfl⟩:=bY.1 hl
   exact Nat.lt_of_le_of_lt (yg _ _ _) (by omega)) hn (by omega)
 refine ⟨mb,K,h1,h2,fun j L hj=>?_⟩
 rw [UT (l:=seen) (c:=seen.length) (by rw [List.getElem?_append_left (aJ h3)]; exact h3),HV hn hj h4]
theorem RJ {G:AH} {cs:List Cod} {m:List (List Int)} {ss:List (List Itm)} {vc iv av:AV} {a:Nat} (hc:cO G cs vc) (hcp:∀ c∈cs,c.params.length<=6) (hI:dA G ss.flatten iv) (hrt:∀ x∈ss.flatten,cK cs m x=true) (haf:lx G (aft (qS ss)) av) (hic:iv.cells=[iv]/\iv.one=true) (hac:av.cells=[av]/\av.one=true) (hfew:ss.flatten.length<=1000) (hpa:G[a]? =some (.cells [iv,av] 93)) {i c:Nat} {w va:AV} (hiN:i < ss.flatten.length) (hcx:G[c]? =some (.cells (aU (bB ss.flatten i) va) 34)) (hsx:SlS 32 1 G va ((bB ss.flatten i).args.map dh)) (hw:∀ j kk,j < i->aG aa 31 w (.int kk (j:Nat))=aG aa 31 iv (.int kk (j:Nat))):∀ (d j:Nat) (tm:List AV) (K:AH),i - j=d->j<=i->al G K->tm.length=64->tm.getD 0 uA=vc->tm.getD 9 uA=.ptr a 0->tm.getD 10 uA=I (i:Nat)->tm.getD 11 uA=.ptr c 0->tm.getD 25 uA=iv->tm.getD 26 uA=I (ss.flatten.length:Nat)->tm.getD 27 uA=I (i:Nat)->tm.getD 35 uA=w->tm.getD 36 uA=I (i:Nat)->tm.getD 37 uA=I ((j:Nat):Int) ->
   (bA (fun j=>jY cs ss i j) i j=true->∃ X K1,EvC aa C0 W0 plN xr (tm,K)=some (.exit 2,(X,K1))/\X.length=64/\al G K1/\X.getD 0 uA=vc/\X.getD 9 uA=.ptr a 0/\X.getD 10 uA=I (i:Nat)/\X.getD 11 uA=.ptr c 0/\X.getD 25 uA=iv/\X.getD 26 uA=I (ss.flatten.length:Nat)/\X.getD 27 uA=I (i:Nat)/\X.getD 35 uA=w/\X.getD 36 uA=I (i:Nat))/\(bA (fun j=>jY cs ss i j) i j=false->∃ Y K1,EvC aa C0 W0 plN xr (tm,K)=some (.ret,(Y,K1))/\Y.getD 6 uA=.bool false/\Y.getD 7 uA=I 0):=by
 intro d
 induction d with
 | zero =>
   intro j tm K hd hj hA hlen h0 h9 h10 h11 h25 h26 h27 h35 h36 h37
   have hjl:j=i:=by omega
   subst hjl
   have hlt:ltB (j:Int) (j:Nat)=false:=db (by omega)
   rw [cN (ax _),LF]
   refine ⟨fun _=>?_,fun h=>(by cases h)⟩
   simp -implicitDefEqProofs only [xW,Tryz.f18,aP,hlen,h0,h9,h10,h11,h25,h26,h27,h35,h36,h37,hlt,↓cbT,↓cbF,↓ao,an,eu,sevalprocAttr]
   exact ⟨_,K,rfl,by simp only [ls,hlen],hA,by simp only [hlen,h0,h9,h10,h11,h25,h26,h27,h35,h36,gB,and_self,sevalprocAttr]⟩
 | succ d ih =>
   intro j tm K hd hj hA hlen h0 h9 h10 h11 h25 h26 h27 h35 h36 h37
   have hjN:j < i:=by omega
   have hjF:j < ss.flatten.length:=by omega
   have hlt:ltB (j:Int) (i:Nat)=true:=cQ (by omega)
   have hwi:=cD (j:=j) (by omega)
   obtain ⟨i0,k0,vb,hix,hrd,hsy⟩:=hI.at hA hjF
   have hix':∀ kk,aG aa 31 w (.int kk (j:Nat))=some (.ptr i0 k0):=fun kk=>(hw j kk hjN).trans (hix kk)
   have hall:=ch (p:=(fun j=>jY cs ss i j)) hjN
   have hrx:=hrt _ (fu hiN)
   have hry:=hrt _ (fu hjF)
   have hyc:=hsy.cells
   have hyo:=hsy.one
   have hxr:∀ L,ak (K++L) c 0 9=some (aU (bB ss.flatten i) va):=fun L=>(hA.bS L).sub.rd (by unfold ak; rw [hcx]; rfl)
   have hpr:∀ K2,al G K2->∀ L,ak (K2++L) a 0 2=some [iv,av]:=fun K2 h2 L=>(h2.bS L).sub.rd (by unfold ak; rw [hpa]; rfl)
   have hA1:al G (K++[.cells (aU (bB ss.flatten j) vb) 34]):=hA.bS _
   have h43:=aak (hc.aX hA1) hcp (hsx.same hA1) (hsy.same hA1) hrx hry
   obtain ⟨mb1,K2,h44a,hA2,hlk1⟩:=Qj hic hac (haf.sub hA1.sub) hiN hfew
   have hA2G:=hA1.trans hA2
   obtain ⟨mb2,K3,h44b,hA3,hlk2⟩:=Qj hic hac (haf.sub hA2G.sub) hjF hfew
   have hp0:=hpr K hA
   have hp2:=hpr K2 hA2G []
   have hl1:=hlk1 j [] hjF
   have hl2:=hlk2 i [] hiN
   rw [af] at hp2 hl1 hl2
   have hput:∀ o,put none K o=some (K.length,K++[o]):=fun _=>rfl
   rw [LF]
   rw [<-af K]
   have hoP:jY cs ss i j=(!rI cs (bB ss.flatten i) (bB ss.flatten j) || bef (qS ss) i j || bef (qS ss) j i):=rfl
   generalize bB ss.flatten i=x at *
   generalize bB ss.flatten j=y at *
   simp only [aU] at hrd hxr h43 h44a
   cases hT:rI cs x y with
   | false =>
     rw [hT] at hoP
     rw [show jY cs ss i j=true from hoP,aZ] at hall
     simp -implicitDefEqProofs only [xW,Tryz.f18,aP,hlen,h0,h9,h10,h11,h25,h26,h27,h35,h36,h37,hlt,hix',hrd,hwi,se,d7,↓hyc,↓hyo,hput,hxr,↓O7,↓O6,h43,hT,Dx,hp0,r5,↓az,nck,↓cbT,↓cbF,↓ao,an,eu,sevalprocAttr]
     generalize hX:EvC aa C0 W0 _ _ _=Z
     have key:∀ (tm1:List AV) (K1:AH),EvC aa C0 W0 plN xr (tm1,K1)=Z->al G K1->tm1.length=64->tm1.getD 0 uA=vc->tm1.getD 9 uA=.ptr a 0->tm1.getD 10 uA=I (i:Nat)->tm1.getD 11 uA=.ptr c 0->tm1.getD 25 uA=iv->tm1.getD 26 uA=I (ss.flatten.length:Nat)->tm1.getD 27 uA=I (i:Nat)->tm1.getD 35 uA=w->tm1.getD 36 uA=I (i:Nat)->tm1.getD 37 uA=I ((j+1:Nat):Int)->(bA (fun j=>jY cs ss i j) i (j+1)=true->∃ X K1,Z=some (.exit 2,(X,K1))/\X.length=64/\al G K1/\X.getD 0 uA=vc/\X.getD 9 uA=.ptr a 0/\X.getD 10 uA=I (i:Nat)/\X.getD 11 uA=.ptr c 0/\X.getD 25 uA=iv/\X.getD 26 uA=I (ss.flatten.length:Nat)/\X.getD 27 uA=I (i:Nat)/\X.getD 35 uA=w/\X.getD 36 uA=I (i:Nat))/\(bA (fun j=>jY cs ss i j) i (j+1)=false->∃ Y K1,Z=some (.ret,(Y,K1))/\Y.getD 6 uA=.bool false/\Y.getD 7 uA=I 0):=by
       intro tm1 K1 h hA1 hl1 h0 h9 h10 h11 h25 h26 h27 h35 h36 h37
       rw [<-h]
       exact ih (j+1) tm1 K1 (by omega) (by omega) hA1 hl1 h0 h9 h10 h11 h25 h26 h27 h35 h36 h37
     rw [hall]
     exact key _ _ hX (hA.bS _) (by simp only [ls,hlen]) (by simp only [hlen,h0,gB,sevalprocAttr]) (by simp only [hlen,h9,gB,sevalprocAttr]) (by simp only [hlen,h10,gB,sevalprocAttr]) (by simp only [hlen,h11,gB,sevalprocAttr]) (by simp only [hlen,h25,gB,sevalprocAttr]) (by simp only [hlen,h26,gB,sevalprocAttr]) (by simp only [hlen,h27,gB,sevalprocAttr]) (by simp only [hlen,h35,gB,sevalprocAttr]) (by simp only [hlen,h36,gB,sevalprocAttr]) (by simp only [hlen,gB,sevalprocAttr])
   | true =>
     cases hb1:bef (qS ss) i j with
     | true =>
       rw [hT,hb1] at hoP
       rw [show jY cs ss i j=true from hoP,aZ] at hall
       simp -implicitDefEqProofs only [xW,Tryz.f18,aP,hlen,h0,h9,h10,h11,h25,h26,h27,h35,h36,h37,hlt,hix',hrd,hwi,se,d7,↓hyc,↓hyo,hput,hxr,↓O7,↓O6,h43,hT,Dx,hp0,h44a,hl1,hb1,r5,↓az,nck,↓cbT,↓cbF,↓ao,an,eu,sevalprocAttr]
       generalize hX:EvC aa C0 W0 _ _ _=Z
       have key:∀ (tm1:List AV) (K1:AH),EvC aa C0 W0 plN xr (tm1,K1)=Z->al G K1->tm1.length=64->tm1.getD 0 uA=vc->tm1.getD 9 uA=.ptr a 0->tm1.getD 10 uA=I (i:Nat)->tm1.getD 11 uA=.ptr c 0->tm1.getD 25 uA=iv->tm1.getD 26 uA=I (ss.flatten.length:Nat)->tm1.getD 27 uA=I (i:Nat)->tm1.getD 35 uA=w->tm1.getD 36 uA=I (i:Nat)->tm1.getD 37 uA=I ((j+1:Nat):Int)->(bA (fun j=>jY cs ss i j) i (j+1)=true->∃ X K1,Z=some (.exit 2,(X,K1))/\X.length=64/\al G K1/\X.getD 0 uA=vc/\X.getD 9 uA=.ptr a 0/\X.getD 10 uA=I (i:Nat)/\X.getD 11 uA=.ptr c 0/\X.getD 25 uA=iv/\X.getD 26 uA=I (ss.flatten.length:Nat)/\X.getD 27 uA=I (i:Nat)/\X.getD 35 uA=w/\X.getD 36 uA=I (i:Nat))/\(bA (fun j=>jY cs ss i j) i (j+1)=false->∃ Y K1,Z=some (.ret,(Y,K1))/\Y.getD 6 uA=.bool false/\Y.getD 7 uA=I 0):=by
         intro tm1 K1 h hA1 hl1 h0 h9 h10 h11 h25 h26 h27 h35 h36 h37
         rw [<-h]
         exact ih (j+1) tm1 K1 (by omega) (by omega) hA1 hl1 h0 h9 h10 h11 h25 h26 h27 h35 h36 h37
       rw [hall]
       exact key _ _ hX (hA2G) (by simp only [ls,hlen]) (by simp only [hlen,h0,gB,sevalprocAttr]) (by simp only [hlen,h9,gB,sevalprocAttr]) (by simp only [hlen,h10,gB,sevalprocAttr]) (by simp only [hlen,h11,gB,sevalprocAttr]) (by simp only [hlen,h25,gB,sevalprocAttr]) (by simp only [hlen,h26,gB,sevalprocAttr]) (by simp only [hlen,h27,gB,sevalprocAttr]) (by simp only [hlen,h35,gB,sevalprocAttr]) (by simp only [hlen,h36,gB,sevalprocAttr]) (by simp only [hlen,gB,sevalprocAttr])
     | false =>
       cases hb2:bef (qS ss) j i with
       | true =>
         rw [hT,hb1,hb2] at hoP
         rw [show jY cs ss i j=true from hoP,aZ] at hall
         simp -implicitDefEqProofs only [xW,Tryz.f18,aP,hlen,h0,h9,h10,h11,h25,h26,h27,h35,h36,h37,hlt,hix',hrd,hwi,se,d7,↓hyc,↓hyo,hput,hxr,↓O7,↓O6,h43,hT,Dx,hp0,h44a,hl1,hb1,h44b,hp2,hl2,hb2,r5,↓az,nck,↓cbT,↓cbF,↓ao,an,eu,sevalprocAttr]
         generalize hX:EvC aa C0 W0 _ _ _=Z
         have key:∀ (tm1:List AV) (K1:AH),EvC aa C0 W0 plN xr (tm1,K1)=Z->al G K1->tm1.length=64->tm1.getD 0 uA=vc->tm1.getD 9 uA=.ptr a 0->tm1.getD 10 uA=I (i:Nat)->tm1.getD 11 uA=.ptr c 0->tm1.getD 25 uA=iv->tm1.getD 26 uA=I (ss.flatten.length:Nat)->tm1.getD 27 uA=I (i:Nat)->tm1.getD 35 uA=w->tm1.getD 36 uA=I (i:Nat)->tm1.getD 37 uA=I ((j+1:Nat):Int)->(bA (fun j=>jY cs ss i j) i (j+1)=true->∃ X K1,Z=some (.exit 2,(X,K1))/\X.length=64/\al G K1/\X.getD 0 uA=vc/\X.getD 9 uA=.ptr a 0/\X.getD 10 uA=I (i:Nat)/\X.getD 11 uA=.ptr c 0/\X.getD 25 uA=iv/\X.getD 26 uA=I (ss.flatten.length:Nat)/\X.getD 27 uA=I (i:Nat)/\X.getD 35 uA=w/\X.getD 36 uA=I (i:Nat))/\(bA (fun j=>jY cs ss i j) i (j+1)=false->∃ Y K1,Z=some (.ret,(Y,K1))/\Y.getD 6 uA=.bool false/\Y.getD 7 uA=I 0):=by
           intro tm1 K1 h hA1 hl1 h0 h9 h10 h11 h25 h26 h27 h35 h36 h37
           rw [<-h]
           exact ih (j+1) tm1 K1 (by omega) (by omega) hA1 hl1 h0 h9 h10 h11 h25 h26 h27 h35 h36 h37
         rw [hall]
         exact key _ _ hX (hA2G.trans hA3) (by simp only [ls,hlen]) (by simp only [hlen,h0,gB,sevalprocAttr]) (by simp only [hlen,h9,gB,sevalprocAttr]) (by simp only [hlen,h10,gB,sevalprocAttr]) (by simp only [hlen,h11,gB,sevalprocAttr]) (by simp only [hlen,h25,gB,sevalprocAttr]) (by simp only [hlen,h26,gB,sevalprocAttr]) (by simp only [hlen,h27,gB,sevalprocAttr]) (by simp only [hlen,h35,gB,sevalprocAttr]) (by simp only [hlen,h36,gB,sevalprocAttr]) (by simp only [hlen,gB,sevalprocAttr])
       | false =>
         rw [hT,hb1,hb2] at hoP
         rw [show jY cs ss i j=false from hoP,Bool.false_and] at hall
         rw [hall]
         refine ⟨fun h=>(by cases h),fun _=>?_⟩
         simp -implicitDefEqProofs only [xW,Tryz.f18,aP,hlen,h0,h9,h10,h11,h25,h26,h27,h35,h36,h37,hlt,hix',hrd,hwi,se,d7,↓hyc,↓hyo,hput,hxr,↓O7,↓O6,h43,hT,Dx,hp0,h44a,hl1,hb1,h44b,hp2,hl2,hb2,r5,↓az,nck,↓cbT,↓cbF,↓ao,an,eu,sevalprocAttr]
         exact ⟨_,_,rfl,by simp only [hlen,gB,and_self,sevalprocAttr]⟩
end Go.Dv
