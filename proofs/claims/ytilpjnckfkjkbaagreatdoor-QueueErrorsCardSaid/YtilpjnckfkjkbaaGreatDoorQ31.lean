/- Part 31 of the walks (own work). -/
import Derived.Test.YtilpjnckfkjkbaaGreatDoorQ30
set_option maxRecDepth 100000
set_option maxHeartbeats 4000000
set_option linter.unusedSimpArgs false
set_option linter.unusedVariables false
namespace Go.Dv
open Go.Proofs
attribute [local congr] bind_congr_first cb_congr condA_congr gd_congr br_congr
open Qu (off item? isRecB recs nxt aft aftTo)
theorem pl_in {S0 G0:AH} (hG:Sub G0 S0) {ss:List (List Itm)} {vs:AV} {p mb q:Nat} {w:AV} {i:Nat} (hx:ItmsR G0 (strAt ss i) w) (hfew:ss.flatten.length<=1000) (hev:∀ x∈strAt ss i,x.kind=3->0<=x.ev):∀ (d j:Nat) (tm:List AV) (K:AH),(strAt ss i).length - j=d->j<=(strAt ss i).length->(tm.length=111/\tm.getD 2 uA=.ptr q 0/\tm.getD 3 uA=.ptr p 0/\tm.getD 4 uA=.map mb/\tm.getD 14 uA=vs/\tm.getD 15 uA=I ss.length/\tm.getD 16 uA=I ((i:Nat):Int)/\tm.getD 20 uA=w/\tm.getD 21 uA=I (strAt ss i).length/\tm.getD 22 uA=I ((j:Nat):Int)/\(∃ iv av ws mv l,PlnR S0 K p mb iv av ws mv l (A1 (qS ss) (off (qS ss) i+j)) (R1 (qS ss) (off (qS ss) i+j))/\l.map (·.1)=ss.flatten.take (off (qS ss) i+j)/\∀ q∈l,SlS 32 1 G0 q.2 (q.1.args.map row1))) ->
   ∃ X K1,EvC Tryz.prog C0 W0 pl42 l42_0 (tm,K)=some (.exit 2,(X,K1))/\(X.length=111/\X.getD 2 uA=.ptr q 0/\X.getD 3 uA=.ptr p 0/\X.getD 4 uA=.map mb/\X.getD 14 uA=vs/\X.getD 15 uA=I ss.length/\X.getD 16 uA=I ((i:Nat):Int)/\X.getD 20 uA=w/\X.getD 21 uA=I (strAt ss i).length/\X.getD 22 uA=I (((strAt ss i).length:Nat):Int)/\(∃ iv av ws mv l,PlnR S0 K1 p mb iv av ws mv l (A1 (qS ss) (off (qS ss) i+(strAt ss i).length)) (R1 (qS ss) (off (qS ss) i+(strAt ss i).length))/\l.map (·.1)=ss.flatten.take (off (qS ss) i+(strAt ss i).length)/\∀ q∈l,SlS 32 1 G0 q.2 (q.1.args.map row1))):=by
 intro d
 induction d with
 | zero =>
   intro j tm K hd hj hI
   have hjl:j=(strAt ss i).length:=by omega
   subst hjl
   obtain ⟨hlen,h2,h3,h4,h14,h15,h16,h20,h21,h22,hP⟩:=hI
   have hlt:ltB (((strAt ss i).length:Nat):Int) ((strAt ss i).length:Nat)=false:=ltB_f (by omega)
   rw [el42_0]
   simp -implicitDefEqProofs only [b42_0,Tryz.f42,aP,hlen,h3,h20,h21,h22,hlt,↓cbT,↓cbF,↓evDn,evUp,eu,sevalprocAttr]
   exact ⟨_,K,rfl,by simp only [ls,hlen],Aj9 (by simp only [hlen,h2,h3,h4,h14,h15,h16,h20,h21,h22,gB,and_self,sevalprocAttr]) hP⟩
 | succ d ih =>
   intro j tm K hd hj hI
   obtain ⟨tm',K',he,hI'⟩:=pl_item hG hx hfew hev (by omega) hI
   obtain ⟨X,K1,h1,h2⟩:=ih (j+1) tm' K' (by omega) (by omega) hI'
   exact ⟨X,K1,he.trans h1,h2⟩
theorem pl_out {S0 G0:AH} (hG:Sub G0 S0) {ss:List (List Itm)} {vs:AV} {p mb q:Nat} (hs:StrsR G0 ss vs) (hfew:ss.flatten.length<=1000) (hev:∀ l∈ss,∀ x∈l,x.kind=3->0<=x.ev):∀ (d i:Nat) (tm:List AV) (K:AH),ss.length - i=d->i<=ss.length->(tm.length=111/\tm.getD 2 uA=.ptr q 0/\tm.getD 3 uA=.ptr p 0/\tm.getD 4 uA=.map mb/\tm.getD 14 uA=vs/\tm.getD 15 uA=I ss.length/\tm.getD 16 uA=I ((i:Nat):Int)/\(∃ iv av ws mv l,PlnR S0 K p mb iv av ws mv l (A1 (qS ss) (off (qS ss) (i))) (R1 (qS ss) (off (qS ss) (i)))/\l.map (·.1)=ss.flatten.take (off (qS ss) (i))/\∀ q∈l,SlS 32 1 G0 q.2 (q.1.args.map row1))) ->
   ∃ X K1,EvC Tryz.prog C0 W0 pl42 l42_1 (tm,K)=some (.exit 0,(X,K1))/\(X.length=111/\X.getD 2 uA=.ptr q 0/\X.getD 3 uA=.ptr p 0/\X.getD 4 uA=.map mb/\X.getD 14 uA=vs/\X.getD 15 uA=I ss.length/\X.getD 16 uA=I ((ss.length:Nat):Int)/\(∃ iv av ws mv l,PlnR S0 K1 p mb iv av ws mv l (A1 (qS ss) (off (qS ss) (ss.length))) (R1 (qS ss) (off (qS ss) (ss.length)))/\l.map (·.1)=ss.flatten.take (off (qS ss) (ss.length))/\∀ q∈l,SlS 32 1 G0 q.2 (q.1.args.map row1))):=by
 intro d
 induction d with
 | zero =>
   intro i tm K hd hi hI
   have hil:i=ss.length:=by omega
   subst hil
   obtain ⟨hlen,h2,h3,h4,h14,h15,h16,hP⟩:=hI
   have hlt:ltB ((ss.length:Nat):Int) (ss.length:Nat)=false:=ltB_f (by omega)
   rw [el42_1]
   simp -implicitDefEqProofs only [b42_1,Tryz.f42,aP,hlen,h3,h14,h15,h16,hlt,↓cbT,↓cbF,↓evDn,evUp,eu,sevalprocAttr]
   exact ⟨_,K,rfl,by simp only [ls,hlen],Aj6 (by simp only [hlen,h2,h3,h4,h14,h15,h16,gB,and_self,sevalprocAttr]) hP⟩
 | succ d ih =>
   intro i tm K hd hi hI
   have hil:i < ss.length:=by omega
   obtain ⟨hlen,h2,h3,h4,h14,h15,h16,iv,av,ws,mv,l,hP,hl,ha⟩:=hI
   have hlt:ltB (i:Int) (ss.length:Nat)=true:=ltB_t (by omega)
   have hsn:=hs.n
   have hw:=inc_i (j:=i) (by omega)
   obtain ⟨i0,k0,w,hix,hrd,hx⟩:=hs.atS (hG.trans hP.sub) hil
   have hln:=hx.len
   have hrd0:=hrd []
   rw [List.append_nil] at hrd0
   rw [el42_1]
   simp -implicitDefEqProofs only [b42_1,Tryz.f42,aP,hlen,h3,h14,h15,h16,hlt,hix,hrd0,hln,r5,↓evLd,nck,↓cbT,↓cbF,↓evDn,evUp,eu,sevalprocAttr]
   generalize hX:EvC Tryz.prog C0 W0 pl42 (Code.loop _) _=Z
   have hin:∀ (tm:List AV) (K:AH) (Z:Option (AExit × St)),EvC Tryz.prog C0 W0 pl42 l42_0 (tm,K)=Z->(tm.length=111/\tm.getD 2 uA=.ptr q 0/\tm.getD 3 uA=.ptr p 0/\tm.getD 4 uA=.map mb/\tm.getD 14 uA=vs/\tm.getD 15 uA=I ss.length/\tm.getD 16 uA=I ((i:Nat):Int)/\tm.getD 20 uA=w/\tm.getD 21 uA=I (strAt ss i).length/\tm.getD 22 uA=I ((0:Nat):Int)/\(∃ iv av ws mv l,PlnR S0 K p mb iv av ws mv l (A1 (qS ss) (off (qS ss) i+0)) (R1 (qS ss) (off (qS ss) i+0))/\l.map (·.1)=ss.flatten.take (off (qS ss) i+0)/\∀ q∈l,SlS 32 1 G0 q.2 (q.1.args.map row1)))->∃ X K1,Z=some (.exit 2,(X,K1))/\(X.length=111/\X.getD 2 uA=.ptr q 0/\X.getD 3 uA=.ptr p 0/\X.getD 4 uA=.map mb/\X.getD 14 uA=vs/\X.getD 15 uA=I ss.length/\X.getD 16 uA=I ((i:Nat):Int)/\X.getD 20 uA=w/\X.getD 21 uA=I (strAt ss i).length/\X.getD 22 uA=I (((strAt ss i).length:Nat):Int)/\(∃ iv av ws mv l,PlnR S0 K1 p mb iv av ws mv l (A1 (qS ss) (off (qS ss) i+(strAt ss i).length)) (R1 (qS ss) (off (qS ss) i+(strAt ss i).length))/\l.map (·.1)=ss.flatten.take (off (qS ss) i+(strAt ss i).length)/\∀ q∈l,SlS 32 1 G0 q.2 (q.1.args.map row1))):=fun tm K Z hZ hI=>by
     subst hZ
     exact pl_in hG hx hfew (hev _ (strAt_mem hil)) _ 0 tm K rfl (Nat.zero_le _) hI
   obtain ⟨X,K1,he,hXl,x2,x3,x4,x14,x15,x16,x20,x21,x22,hP1⟩:=hin _ _ _ hX ⟨by simp only [ls,hlen],by simp only [hlen,h2,gB,sevalprocAttr]; try rfl,by simp only [hlen,h3,gB,sevalprocAttr]; try rfl,by simp only [hlen,h4,gB,sevalprocAttr]; try rfl,by simp only [hlen,h14,gB,sevalprocAttr]; try rfl,by simp only [hlen,h15,gB,sevalprocAttr]; try rfl,by simp only [hlen,h16,gB,sevalprocAttr]; try rfl,by simp only [hlen,gB,sevalprocAttr]; try rfl,by simp only [hlen,gB,sevalprocAttr]; try rfl,by simp only [hlen,gB,sevalprocAttr]; try rfl,iv,av,ws,mv,l,hP,hl,ha⟩
   subst he
   have hoff:off (qS ss) i+(strAt ss i).length=off (qS ss) (i+1):=by
     rw [Qu.off_succ (by rw [qS_len]; exact hil),qS_getD,List.length_map]
   rw [hoff] at hP1
   simp -implicitDefEqProofs only [b42_1,Tryz.f42,aP,hXl,x2,x3,x4,x14,x15,x16,x20,x21,x22,hw,r5,↓evLd,nck,↓cbT,↓cbF,↓evDn,evUp,eu,sevalprocAttr]
   generalize hY:EvC Tryz.prog C0 W0 pl42 _ _=Z
   have hnx:∀ (tm:List AV) (K:AH) (Z:Option (AExit × St)),EvC Tryz.prog C0 W0 pl42 l42_1 (tm,K)=Z->(tm.length=111/\tm.getD 2 uA=.ptr q 0/\tm.getD 3 uA=.ptr p 0/\tm.getD 4 uA=.map mb/\tm.getD 14 uA=vs/\tm.getD 15 uA=I ss.length/\tm.getD 16 uA=I (((i+1):Nat):Int)/\(∃ iv av ws mv l,PlnR S0 K p mb iv av ws mv l (A1 (qS ss) (off (qS ss) ((i+1)))) (R1 (qS ss) (off (qS ss) ((i+1))))/\l.map (·.1)=ss.flatten.take (off (qS ss) ((i+1)))/\∀ q∈l,SlS 32 1 G0 q.2 (q.1.args.map row1)))->∃ X K1,Z=some (.exit 0,(X,K1))/\(X.length=111/\X.getD 2 uA=.ptr q 0/\X.getD 3 uA=.ptr p 0/\X.getD 4 uA=.map mb/\X.getD 14 uA=vs/\X.getD 15 uA=I ss.length/\X.getD 16 uA=I ((ss.length:Nat):Int)/\(∃ iv av ws mv l,PlnR S0 K1 p mb iv av ws mv l (A1 (qS ss) (off (qS ss) (ss.length))) (R1 (qS ss) (off (qS ss) (ss.length)))/\l.map (·.1)=ss.flatten.take (off (qS ss) (ss.length))/\∀ q∈l,SlS 32 1 G0 q.2 (q.1.args.map row1))):=fun tm K Z hZ hI=>by
     subst hZ
     exact ih (i+1) tm K (by omega) (by omega) hI
   exact hnx _ _ _ hY ⟨by simp only [ls,hXl],Aj6 (by simp only [hXl,x2,x3,x4,x14,x15,x16,gB,and_self,sevalprocAttr]) hP1⟩
end Go.Dv
namespace Go.Dv
open Go.Proofs
attribute [local congr] bind_congr_first cb_congr condA_congr gd_congr br_congr
open Qu (off item? isRecB recs nxt aft aftTo)
theorem pl_wait {S0:AH} {ss:List (List Itm)} {p mb q:Nat} {iv:AV} {l:List (Itm × AV)} (hl:l.map (·.1)=ss.flatten) (hfew:ss.flatten.length<=1000) (hargs:∀ q∈l,q.2.cells=[q.2]/\q.2.one=true) (hev:∀ x∈ss.flatten,x.kind=4->0<=x.ev) {j:Nat} (hj:j < ss.flatten.length) {tm:List AV} {K:AH} (hI:tm.length=111/\tm.getD 2 uA=.ptr q 0/\tm.getD 3 uA=.ptr p 0/\tm.getD 4 uA=.map mb/\tm.getD 73 uA=iv/\tm.getD 74 uA=I (ss.flatten.length:Nat)/\tm.getD 75 uA=I ((j:Nat):Int)/\∃ av ws mv,PlnR S0 K p mb iv av ws mv l (A2 (qS ss) (j)) (R1 (qS ss) ss.flatten.length)) :
   ∃ tm' K',EvC Tryz.prog C0 W0 pl42 l42_2 (tm,K)=EvC Tryz.prog C0 W0 pl42 l42_2 (tm',K')/\tm'.length=111/\tm'.getD 2 uA=.ptr q 0/\tm'.getD 3 uA=.ptr p 0/\tm'.getD 4 uA=.map mb/\tm'.getD 73 uA=iv/\tm'.getD 74 uA=I (ss.flatten.length:Nat)/\tm'.getD 75 uA=I (((j+1):Nat):Int)/\∃ av ws mv,PlnR S0 K' p mb iv av ws mv l (A2 (qS ss) ((j+1))) (R1 (qS ss) ss.flatten.length):=by
 obtain ⟨hlen,h2,h3,h4,h73,h74,h75,av,ws,mv,hP⟩:=hI
 have hlt:ltB (j:Int) (ss.flatten.length:Nat)=true:=ltB_t (by omega)
 have hw:=inc_i (j:=j) (by omega)
 have hNq:(qS ss).flatten.length=ss.flatten.length:=by rw [qS_flat,List.length_map]
 have hjl:j < l.length:=by rw [<-List.length_map (f:=(·.1)),hl]; exact hj
 have hpl:l[j]∈l:=List.getElem_mem hjl
 obtain ⟨hac,hao⟩:=hargs _ hpl
 have hfl:(qS ss).flatten[j]? =some (qi (l[j]).1):=by
   rw [qS_flat,<-hl,List.getElem?_map,List.getElem?_map,List.getElem?_eq_getElem hjl]; rfl
 have hsl:=Own.slsG ix31T (by decide) hP.oi.own (xrow_len l)
 obtain ⟨i0,k0,hix,hrd⟩:=hsl.ix j (xrow l[j]) (by rw [List.getElem?_map,List.getElem?_eq_getElem hjl]; rfl)
 have hrd:=fun L=>(Agree.app K L).sub.rd hrd
 have hevx:(l[j]).1.kind=4->0<=(l[j]).1.ev:=hev _ (by rw [<-hl]; exact List.mem_map_of_mem hpl)
 have hlkk:=fun e L=>hP.hm.get e L
 have hlnn:∀ (e:Nat) (G:AH),lenA Tryz.prog 30 G (mv e)=some (I ((R1 (qS ss) ss.flatten.length e).length:Nat)):=fun e G=>by
   have:=((hP.om e).own.ints (l:=R1 (qS ss) ss.flatten.length e)).len G
   rwa [show (ints (R1 (qS ss) ss.flatten.length e)).length=(R1 (qS ss) ss.flatten.length e).length from by simp [ints]] at this
 generalize l[j]=px at *
 obtain ⟨x,va⟩:=px
 simp only [xrow] at hrd
 rw [el42_2]
 rw [<-List.append_nil K]
 have hput:∀ o,put none K o=some (K.length,K++[o]):=fun _=>rfl
 cases hk:eqB x.kind 4 with
 | false =>
   have hkn:x.kind≠4:=(eqB_iff0 _ _).1 hk
   rw [show A2 (qS ss) (j+1)=A2 (qS ss) j from A2_miss hfl fun c=>hkn c.1]
   simp only [rowX] at hrd
   simp -implicitDefEqProofs only [b42_2,Tryz.f42,aP,hlen,h2,h3,h4,h73,h74,h75,hlt,hw,hix,hrd,z34w,st34,↓hac,↓hao,hput,hk,r5,↓evLd,nck,↓cbT,↓cbF,↓evDn,evUp,eu,sevalprocAttr]
   exact ⟨_,_,rfl,by simp only [ls,hlen],Aj6 (by simp only [hlen,h2,h3,h4,h73,h74,gB,and_self,sevalprocAttr]) ⟨av,ws,mv,hP.grow _⟩⟩
 | true =>
   have hky:x.kind=4:=(eqB_iff _ _).1 hk
   obtain ⟨e,he⟩:∃ e:Nat,x.ev=(e:Int):=⟨x.ev.toNat,by have:=hevx hky; simp only at this; omega⟩
   have hlk:=hlkk e
   have hln:=hlnn e
   cases hq:eqB ((R1 (qS ss) ss.flatten.length e).length:Nat) 1 with
   | false =>
     have hqn:=(eqB_iff0 _ _).1 hq
     rw [show A2 (qS ss) (j+1)=A2 (qS ss) j from A2_miss hfl fun c=>hqn (by
       have:=c.2
       rw [show (qi x).event=(e:Int) from he,<-R1_recs,hNq] at this
       rw [this]; rfl)]
     simp only [rowX,he] at hrd
     simp -implicitDefEqProofs only [b42_2,Tryz.f42,aP,hlen,h2,h3,h4,h73,h74,h75,hlt,hw,hix,hrd,z34w,st34,↓hac,↓hao,hput,hk,hlk,hln,hq,r5,↓evLd,nck,↓cbT,↓cbF,↓evDn,evUp,eu,sevalprocAttr]
     exact ⟨_,_,rfl,by simp only [ls,hlen],Aj6 (by simp only [hlen,h2,h3,h4,h73,h74,gB,and_self,sevalprocAttr]) ⟨av,ws,mv,hP.grow _⟩⟩
   | true =>
     have hq1:(R1 (qS ss) ss.flatten.length e).length=1:=by have:=(eqB_iff _ _).1 hq; omega
     obtain ⟨n,hn⟩:=List.length_eq_one_iff.1 hq1
     obtain ⟨hnN,hA⟩:=A2_hit hfl (show (qi x).kind=4 from hky) (n:=n) (by
       rw [show (qi x).event=(e:Int) from he,<-R1_recs,hNq]; exact hn)
     rw [hA]
     have hrow:=(hP.om e).own.ints (l:=R1 (qS ss) ss.flatten.length e)
     rw [hn] at hrow
     obtain ⟨i1,k1,hix1,hrd1⟩:=ints_at hrow (Agree.refl K) (j:=0) (by simp)
     have hix1':∀ kk,indexAddrA Tryz.prog 30 (mv e) (.int kk 0)=some (.ptr i1 k1):=hix1
     have hrd1':∀ L,rdCells (K++L) i1 k1 1=some [I (n:Int)]:=hrd1
     simp only [rowX,he] at hrd
     simp -implicitDefEqProofs only [b42_2,Tryz.f42,aP,hlen,h2,h3,h4,h73,h74,h75,hlt,hw,hix,hrd,z34w,st34,↓hac,↓hao,hput,hk,hlk,hln,hq,hix1',hrd1',r5,↓evLd,nck,↓cbT,↓cbF,↓evDn,evUp,eu,sevalprocAttr]
     generalize hR:EvC Tryz.prog C0 W0 pl42 (Code.region 22 _ _) _=Z22
     obtain ⟨t,K1,ws1,e1,tl,tlow,P1⟩:=reg42_22 (hP.pad _) hR (by simp only [ls,hlen]) (by simp only [hlen,h3,gB,sevalprocAttr]) (j:=j) (n:=n) (by simp only [hlen,gB,sevalprocAttr]) (by simp only [hlen,gB,sevalprocAttr]) (by rw [A2_len]; exact hnN) (by rw [A2_getD _ _ hnN]; exact Nat.le_trans (aftTo_le _ _ _) (by omega))
     subst e1
     have t2:t.getD 2 uA=.ptr q 0:=(tlow 2 (by decide)).trans (by simp only [hlen,h2,gB,sevalprocAttr])
     have t3:t.getD 3 uA=.ptr p 0:=(tlow 3 (by decide)).trans (by simp only [hlen,h3,gB,sevalprocAttr])
     have t4:t.getD 4 uA=.map mb:=(tlow 4 (by decide)).trans (by simp only [hlen,h4,gB,sevalprocAttr])
     have t73:t.getD 73 uA=iv:=(tlow 73 (by decide)).trans (by simp only [hlen,h73,gB,sevalprocAttr])
     have t74:t.getD 74 uA=I (ss.flatten.length:Nat):=(tlow 74 (by decide)).trans (by simp only [hlen,h74,gB,sevalprocAttr])
     have t75:t.getD 75 uA=I ((j:Nat):Int):=(tlow 75 (by decide)).trans (by simp only [hlen,h75,gB,sevalprocAttr])
     simp -implicitDefEqProofs only [b42_2,Tryz.f42,aP,tl,t2,t3,t4,t73,t74,t75,hw,r5,↓evLd,nck,↓cbT,↓cbF,↓evDn,evUp,eu,sevalprocAttr]
     exact ⟨_,_,rfl,by simp only [ls,tl],Aj6 (by simp only [tl,t2,t3,t4,t73,t74,gB,and_self,sevalprocAttr]) ⟨av,ws1,mv,P1.less padS_sub.sub padS_sub.len⟩⟩
theorem pl_waits {S0:AH} {ss:List (List Itm)} {p mb q:Nat} {iv:AV} {l:List (Itm × AV)} (hl:l.map (·.1)=ss.flatten) (hfew:ss.flatten.length<=1000) (hargs:∀ q∈l,q.2.cells=[q.2]/\q.2.one=true) (hev:∀ x∈ss.flatten,x.kind=4->0<=x.ev):∀ (d j:Nat) (tm:List AV) (K:AH),ss.flatten.length - j=d->j<=ss.flatten.length->(tm.length=111/\tm.getD 2 uA=.ptr q 0/\tm.getD 3 uA=.ptr p 0/\tm.getD 4 uA=.map mb/\tm.getD 73 uA=iv/\tm.getD 74 uA=I (ss.flatten.length:Nat)/\tm.getD 75 uA=I ((j:Nat):Int)/\∃ av ws mv,PlnR S0 K p mb iv av ws mv l (A2 (qS ss) (j)) (R1 (qS ss) ss.flatten.length)) ->
   ∃ X K1,EvC Tryz.prog C0 W0 pl42 l42_2 (tm,K)=some (.exit 4,(X,K1))/\(X.length=111/\X.getD 2 uA=.ptr q 0/\X.getD 3 uA=.ptr p 0/\X.getD 4 uA=.map mb/\X.getD 73 uA=iv/\X.getD 74 uA=I (ss.flatten.length:Nat)/\X.getD 75 uA=I ((ss.flatten.length:Nat):Int)/\∃ av ws mv,PlnR S0 K1 p mb iv av ws mv l (A2 (qS ss) (ss.flatten.length)) (R1 (qS ss) ss.flatten.length)):=by
 intro d
 induction d with
 | zero =>
   intro j tm K hd hj hI
   have hjl:j=ss.flatten.length:=by omega
   subst hjl
   obtain ⟨hlen,h2,h3,h4,h73,h74,h75,hP⟩:=hI
   have hlt:ltB ((ss.flatten.length:Nat):Int) (ss.flatten.length:Nat)=false:=ltB_f (by omega)
   rw [el42_2]
   simp -implicitDefEqProofs only [b42_2,Tryz.f42,aP,hlen,h2,h3,h4,h73,h74,h75,hlt,↓cbT,↓cbF,↓evDn,evUp,eu,sevalprocAttr]
   exact ⟨_,K,rfl,by simp only [ls,hlen],Aj6 (by simp only [hlen,h2,h3,h4,h73,h74,h75,gB,and_self,sevalprocAttr]) hP⟩
 | succ d ih =>
   intro j tm K hd hj hI
   obtain ⟨tm',K',he,hI'⟩:=pl_wait hl hfew hargs hev (by omega) hI
   obtain ⟨X,K1,h1,h2⟩:=ih (j+1) tm' K' (by omega) (by omega) hI'
   exact ⟨X,K1,he.trans h1,h2⟩
end Go.Dv
namespace Go.Dv
open Go.Proofs
attribute [local congr] bind_congr_first cb_congr condA_congr gd_congr br_congr
open Qu (off item? isRecB recs nxt aft aftTo)
theorem z93:zeroA Tryz.prog 93=some (.agg [.nilSlice,.nilSlice]):=by kernel_rfl
theorem ld93 (H:AH) (i k:Nat):ldA Tryz.prog 93 H i k=(rdCells H i k 2).map .agg:=by kernel_rfl
theorem st93 (H:AH) (i k:Nat) (x:AV):stA Tryz.prog 93 H i k x=if x.cells.length=2 then wrCells H i k x.cells else none:=by kernel_rfl
theorem flat_itms {H:AH} {ss:List (List Itm)} {vs:AV} (hs:StrsR H ss vs) (hfew:ss.flatten.length<=1000):ss.flatten.length < 2 ^ 50/\(∀ x∈ss.flatten,x.args.length < 2 ^ 50)/\(∀ x∈ss.flatten,∀ a∈x.args,i32R a)/\∀ x∈ss.flatten,i32R x.word:=by
 obtain ⟨⟨l,e,_,hl⟩,_⟩:=hs
 have key:∀ x∈ss.flatten,∃ xs v,ItmsR H xs v/\x∈xs:=fun x hx=>by
   obtain ⟨xs,h1,h2⟩:=List.mem_flatten.1 hx
   rw [<-e] at h1
   obtain ⟨p,hp,rfl⟩:=List.mem_map.1 h1
   exact ⟨_,_,hl p hp,h2⟩
 refine ⟨by omega,fun x hx=>?_,fun x hx=>?_,fun x hx=>?_⟩
 all_goals obtain ⟨xs,v,h1,h2⟩:=key x hx
 · exact h1.na x h2
 · exact h1.im x h2
 · exact h1.iw x h2
theorem pl_init (H:AH):PlnR (H++[.cells [.nilSlice,.nilSlice] 93]) (H++[.cells [.nilSlice,.nilSlice] 93,.cells [.nilSlice,.nilSlice] 93,.map [] 0]) (H.length+1) (H.length+2) .nilSlice .nilSlice [] (fun _=>.nilSlice) [] [] (fun _=>[]) where
 sub:=(Agree.sub (by
   have:=Agree.app (H++[AObj.cells [.nilSlice,.nilSlice] 93]) [.cells [.nilSlice,.nilSlice] 93,.map [] 0]
   rwa [List.append_assoc] at this))
 gp:=gone_ge (by simp)
 gm:=gone_ge (by simp)
 pm:=by omega
 hp:=by rw [List.getElem?_append_right (by omega),Nat.add_sub_cancel_left]; rfl
 hm:=⟨[],List.nodup_nil,by rw [List.getElem?_append_right (by omega),Nat.add_sub_cancel_left]; rfl,fun _ _=>rfl⟩
 lw:=rfl
 ow:={
   sl:=by simp
   xl:=fun x hx=>by
     simp only [List.mem_cons,List.not_mem_nil,or_false] at hx
     rw [List.length_append]
     rcases hx with rfl | rfl <;> simp
   ex:=fun a i=>by
     left
     match a,i with
     | 0,0=>exact ⟨rfl,rfl⟩
     | 1,0=>exact ⟨rfl,rfl⟩
     | 2,i=>exact ⟨rfl,rfl⟩
     | 3,e=>exact ⟨rfl,rfl⟩
     | 0,i+1=>exact ⟨rfl,rfl⟩
     | 1,i+1=>exact ⟨rfl,rfl⟩
     | a+4,i=>exact ⟨rfl,rfl⟩
   dis:=fun a i c j _ b hb=>by
     have:blkO (plF .nilSlice .nilSlice [] (fun _=>.nilSlice) [] [] (fun _=>[]) a i).1=none:=by
       match a,i with
       | 0,0=>rfl
       | 1,0=>rfl
       | 2,i=>rfl
       | 3,e=>rfl
       | 0,i+1=>rfl
       | 1,i+1=>rfl
       | a+4,i=>rfl
     rw [this] at hb; cases hb
   own:=fun a i b hb=>by
     have:blkO (plF .nilSlice .nilSlice [] (fun _=>.nilSlice) [] [] (fun _=>[]) a i).1=none:=by
       match a,i with
       | 0,0=>rfl
       | 1,0=>rfl
       | 2,i=>rfl
       | 3,e=>rfl
       | 0,i+1=>rfl
       | 1,i+1=>rfl
       | a+4,i=>rfl
     rw [this] at hb; cases hb }
theorem off_all (ss:List (List Itm)):off (qS ss) ss.length=ss.flatten.length:=by
 have:=Qu.flat_len (qS ss)
 rw [qS_flat,List.length_map,qS_len] at this
 exact this.symm
theorem ev42 {H:AH} {ss:List (List Itm)} {vs:AV} (hs:StrsR H ss vs) (hfew:ss.flatten.length<=1000) (hev:∀ l∈ss,∀ x∈l,x.kind=3∨x.kind=4->0<=x.ev) :
   ∃ iv av K,Ev Tryz.prog C0 W0 42 [vs] H=some (.agg [iv,av],K)/\Sub H K/\H.length<=K.length/\ItmsR K ss.flatten iv/\AftR K (aft (qS ss)) av/\(iv.cells=[iv]/\iv.one=true)/\(av.cells=[av]/\av.one=true)/\((iv=.nilSlice/\ss.flatten.length=0)∨∃ b,iv=.slice b 0 9 ss.flatten.length ss.flatten.length false):=by
 obtain ⟨tm,ht,g0,g1⟩:=tm1 vs 111 (by decide)
 rw [fe42,ht]
 have hln:=hs.len
 have hG:Sub H (H++[.cells [.nilSlice,.nilSlice] 93]):=(Agree.app H _).sub
 have hput:∀ o,put none H o=some (H.length,H++[o]):=fun _=>rfl
 simp -implicitDefEqProofs only [c42,Tryz.f42,aP,g0,g1,hln,z93,hput,↓aop_makeMap,r5,↓evLd,nck,↓cbT,↓cbF,↓evDn,evUp,eu,sevalprocAttr]
 generalize hX:EvC Tryz.prog C0 W0 pl42 _ _=Z
 have hout:∀ (tm:List AV) (K:AH) (Z:Option (AExit × St)),EvC Tryz.prog C0 W0 pl42 l42_1 (tm,K)=Z->(tm.length=111/\tm.getD 2 uA=.ptr H.length 0/\tm.getD 3 uA=.ptr (H.length+1) 0/\tm.getD 4 uA=.map (H.length+2)/\tm.getD 14 uA=vs/\tm.getD 15 uA=I ss.length/\tm.getD 16 uA=I ((0:Nat):Int)/\(∃ iv av ws mv l,PlnR (H++[.cells [.nilSlice,.nilSlice] 93]) K (H.length+1) (H.length+2) iv av ws mv l (A1 (qS ss) (off (qS ss) (0))) (R1 (qS ss) (off (qS ss) (0)))/\l.map (·.1)=ss.flatten.take (off (qS ss) (0))/\∀ q∈l,SlS 32 1 H q.2 (q.1.args.map row1)))->∃ X K1,Z=some (.exit 0,(X,K1))/\(X.length=111/\X.getD 2 uA=.ptr H.length 0/\X.getD 3 uA=.ptr (H.length+1) 0/\X.getD 4 uA=.map (H.length+2)/\X.getD 14 uA=vs/\X.getD 15 uA=I ss.length/\X.getD 16 uA=I ((ss.length:Nat):Int)/\(∃ iv av ws mv l,PlnR (H++[.cells [.nilSlice,.nilSlice] 93]) K1 (H.length+1) (H.length+2) iv av ws mv l (A1 (qS ss) (off (qS ss) (ss.length))) (R1 (qS ss) (off (qS ss) (ss.length)))/\l.map (·.1)=ss.flatten.take (off (qS ss) (ss.length))/\∀ q∈l,SlS 32 1 H q.2 (q.1.args.map row1))):=fun tm K Z hZ hI=>by
   subst hZ
   exact pl_out hG hs hfew (fun l hl x hx hk=>hev l hl x hx (.inl hk)) _ 0 tm K rfl (Nat.zero_le _) hI
 obtain ⟨X,K1,he,hXl,x2,x3,x4,x14,x15,x16,iv,av,ws,mv,l,hP,hl,ha⟩:=hout _ _ _ hX ⟨by simp only [ls,g0],Aj5 (by simp only [g0,g1,gB,and_self,sevalprocAttr]) ⟨by simp only [g0,gB,sevalprocAttr]; try rfl,.nilSlice,.nilSlice,[],fun _=>.nilSlice,[],pl_init H,rfl,fun q hq=>by cases hq⟩⟩
 subst he
 rw [off_all] at hP hl
 rw [List.take_length] at hl
 have hNq:(qS ss).flatten.length=ss.flatten.length:=by rw [qS_flat,List.length_map]
 have hll:l.length=ss.flatten.length:=by rw [<-hl,List.length_map]
 rw [show A1 (qS ss) ss.flatten.length=A2 (qS ss) 0 from by rw [<-hNq]; exact A1_end _] at hP
 have hr0:=hP.rp [] 0 rfl
 rw [List.append_nil] at hr0
 have hli:∀ G,lenA Tryz.prog 31 G iv=some (I ((ss.flatten.length:Nat):Int)):=fun G=>by
   have:=(hP.oi.own.slsG ix31T (by decide) (xrow_len l)).len G
   rwa [List.length_map,hll] at this
 simp -implicitDefEqProofs only [c42,Tryz.f42,aP,hXl,x2,x3,x4,hr0,hli,fa93_0,r5,↓evLd,nck,↓cbT,↓cbF,↓evDn,evUp,eu,sevalprocAttr]
 generalize hY:EvC Tryz.prog C0 W0 pl42 _ _=Z
 have hwa:∀ (tm:List AV) (K:AH) (Z:Option (AExit × St)),EvC Tryz.prog C0 W0 pl42 l42_2 (tm,K)=Z->(tm.length=111/\tm.getD 2 uA=.ptr H.length 0/\tm.getD 3 uA=.ptr (H.length+1) 0/\tm.getD 4 uA=.map (H.length+2)/\tm.getD 73 uA=iv/\tm.getD 74 uA=I (ss.flatten.length:Nat)/\tm.getD 75 uA=I ((0:Nat):Int)/\∃ av ws mv,PlnR (H++[.cells [.nilSlice,.nilSlice] 93]) K (H.length+1) (H.length+2) iv av ws mv l (A2 (qS ss) (0)) (R1 (qS ss) ss.flatten.length))->∃ X K1,Z=some (.exit 4,(X,K1))/\(X.length=111/\X.getD 2 uA=.ptr H.length 0/\X.getD 3 uA=.ptr (H.length+1) 0/\X.getD 4 uA=.map (H.length+2)/\X.getD 73 uA=iv/\X.getD 74 uA=I (ss.flatten.length:Nat)/\X.getD 75 uA=I ((ss.flatten.length:Nat):Int)/\∃ av ws mv,PlnR (H++[.cells [.nilSlice,.nilSlice] 93]) K1 (H.length+1) (H.length+2) iv av ws mv l (A2 (qS ss) (ss.flatten.length)) (R1 (qS ss) ss.flatten.length)):=fun tm K Z hZ hI=>by
   subst hZ
   exact pl_waits hl hfew (fun q hq=>⟨(ha q hq).cells,(ha q hq).one⟩) (fun x hx hk=>by
     obtain ⟨xs,h1,h2⟩:=List.mem_flatten.1 hx
     exact hev xs h1 x h2 (.inr hk)) _ 0 tm K rfl (Nat.zero_le _) hI
 obtain ⟨Y,K2,he,hYl,y2,y3,y4,y73,y74,y75,av2,ws2,mv2,hP2⟩:=hwa _ _ _ hY ⟨by simp only [ls,hXl],Aj5 (by simp only [hXl,x2,x3,x4,gB,and_self,sevalprocAttr]) ⟨by simp only [hXl,gB,sevalprocAttr]; try rfl,av,ws,mv,hP⟩⟩
 subst he
 rw [show A2 (qS ss) ss.flatten.length=aft (qS ss) from by rw [<-hNq]; exact A2_end _] at hP2
 have hp2:rdCells K2 (H.length+1) 0 2=some [iv,av2]:=by
   unfold rdCells; rw [hP2.hp]; rfl
 have hq2:K2[H.length]? =some (.cells [.nilSlice,.nilSlice] 93):=hP2.sub H.length _ (by rw [List.getElem?_append_right (Nat.le_refl _),Nat.sub_self]; rfl) (by simp)
 have hic:=hP2.oi.cells
 have hac:=hP2.oa.cells
 have hic1:=hic.1
 have hic2:=hic.2
 have hac1:=hac.1
 have hac2:=hac.2
 have hq2l:=lt_of_get hq2
 have hwr:wrCells K2 H.length 0 [iv,av2]=some (K2.set H.length (.cells [iv,av2] 93)):=by
   have:=wr_objs hq2 (k:=0) (xs:=[iv,av2]) (by simp) (by simp [hic2,hac2]) []
   rw [List.append_nil,List.append_nil] at this
   rw [this]; rfl
 have hrq:rdCells (K2.set H.length (.cells [iv,av2] 93)) H.length 0 2=some [iv,av2]:=by
   unfold rdCells; rw [List.getElem?_set_self hq2l]; rfl
 simp -implicitDefEqProofs only [c42,Tryz.f42,aP,hYl,y2,y3,hp2,ld93,st93,↓hic1,↓hac1,hwr,fr42,hrq,r5,↓evLd,nck,↓cbT,↓cbF,↓evDn,evUp,eu,sevalprocAttr]
 have hkp:∀ c,c≠H.length->(K2.set H.length (.cells [iv,av2] 93))[c]? =K2[c]?:=fun c hc=>List.getElem?_set_ne (Ne.symm hc)
 have hS0:(H++[AObj.cells [.nilSlice,.nilSlice] 93])[H.length]? =some (.cells [.nilSlice,.nilSlice] 93):=by rw [List.getElem?_append_right (Nat.le_refl _),Nat.sub_self]; rfl
 have hne:∀ a i,blkO (plF iv av2 ws2 mv2 l (aft (qS ss)) (R1 (qS ss) ss.flatten.length) a i).1≠some H.length:=fun a i e=>(hP2.ow.own a i _ e).1.ne hS0 (by simp) rfl
 have hsub:Sub H (K2.set H.length (.cells [iv,av2] 93)):=((Agree.app H [AObj.cells [.nilSlice,.nilSlice] 93]).sub.trans hP2.sub).setR (gone_ge (Nat.le_refl _)) _
 have hb3:Sub (H++[.cells [.nilSlice,.nilSlice] 93]) K2:=hP2.sub
 have hargs:∀ q∈l,SlS 32 1 (K2.set H.length (.cells [iv,av2] 93)) q.2 (q.1.args.map row1):=fun q hq=>(ha q hq).sub hsub
 refine ⟨iv,av2,_,rfl,hsub,by rw [List.length_set]; omega,?_,?_,hic,hac,?_⟩
 · obtain ⟨f1,f2,f3,f4⟩:=flat_itms hs hfew
   have oi:=hP2.oi.keep (K':=K2.set H.length (.cells [iv,av2] 93)) fun i hi=>hkp i fun e=>hne 0 0 (by rw [<-e]; exact hi)
   exact ⟨⟨l,hl,oi.own.slsG ix31T (by decide) (xrow_len l),hargs⟩,f1,f2,f3,f4⟩
 · have oa:=hP2.oa.keep (K':=K2.set H.length (.cells [iv,av2] 93)) fun i hi=>hkp i fun e=>hne 1 0 (by rw [<-e]; exact hi)
   refine ⟨ws2,hP2.lw,?_,fun i hi=>?_⟩
   · refine Own.slsG (elem:=30) (b:=0) ix91T (by decide) (rows:=ws2.map fun w=>[w]) ?_ (fun r hr=>by obtain ⟨w,_,rfl⟩:=List.mem_map.1 hr; rfl)
     rw [show (ws2.map fun w=>[w]).flatten=ws2 from by
       have:=flat1 (fun w:AV=>w) ws2
       simpa using this]
     exact oa.own
   · have ow:=(hP2.ow2 i).keep (K':=K2.set H.length (.cells [iv,av2] 93)) fun j hj=>hkp j fun e=>hne 2 i (by rw [<-e]; exact hj)
     have hw:ws2.getD i uA=ws2.getD i .nilSlice:=by
       have:i < ws2.length:=by rw [hP2.lw]; exact hi
       rw [getD_at this,getD_at this]
     rw [hw]
     exact ow.own.ints
 · have ho:=hP2.oi
   have hfl:=flat_len (xrow_len l)
   rw [List.length_map,hll] at hfl
   rcases ho with ⟨e1,e2⟩ | ⟨b,n,e1,e2,e3⟩
   · left
     rw [e2,List.length_nil] at hfl
     exact ⟨e1,by omega⟩
   · right
     refine ⟨b,?_⟩
     rw [e1]
     have:n=ss.flatten.length:=by omega
     rw [this]
end Go.Dv
namespace Go.Dv
open Go.Proofs
attribute [local congr] bind_congr_first cb_congr condA_congr gd_congr br_congr
open Qu (off item? isRecB recs nxt aft aftTo bef)
def plainC:Con:=⟨1,false,1,1,0,0,0⟩
theorem z27:zeroA Tryz.prog 27=some (.agg [I 0,.bool false,I 0,I 0,I 0,I 0,I 0]):=by kernel_rfl
theorem bl27:buildA Tryz.prog 27 [(0,I 1),(2,I 1),(3,I 1)]=some (.agg [I 1,.bool false,I 1,I 1,I 0,I 0,I 0]):=by kernel_rfl
theorem ld27' (H:AH) (i k:Nat):ldA Tryz.prog 27 H i k=(rdCells H i k 7).map .agg:=by kernel_rfl
theorem ev41 (H:AH):Ev Tryz.prog C0 W0 41 [] H=some (.agg (rowF plainC),H++[.cells (rowF plainC) 27]):=by
 have g0:(([]:List AV)++List.replicate (2 - ([]:List AV).length) uA).length=2:=by simp
 rw [fe41]
 generalize ([]:List AV)++List.replicate (2 - ([]:List AV).length) uA=tm at *
 simp -implicitDefEqProofs only [c41,Tryz.f41,aP,g0,z27,bl27,st27,fr41,ld27',show ∀ o,put none H o=some (H.length,H++[o]) from fun _=>rfl,plainC,rowF,r5,↓evLd,nck,↓cbT,↓cbF,↓evDn,evUp,eu,sevalprocAttr]
def ordP (cs:List Cod) (ss:List (List Itm)) (i j:Nat):Bool:=!touchN cs (itmAt ss.flatten i) (itmAt ss.flatten j) || bef (qS ss) i j || bef (qS ss) j i
theorem seen_bef {ss:List (List Itm)} {i j:Nat} {seen:List Nat} (hi:i < ss.flatten.length) (hj:j < ss.flatten.length) (h:∀ y,y∈seen↔Qu.TG (Qu.EA (aft (qS ss))) i y):seen.contains j=bef (qS ss) i j:=by
 have hN:(qS ss).flatten.length=ss.flatten.length:=by rw [qS_flat,List.length_map]
 rw [Bool.eq_iff_iff,List.contains_iff_mem,h j]
 exact Qu.reach_bef (by omega) (by omega)
theorem ev44' {H:AH} {ss:List (List Itm)} {iv av:AV} {n:Nat} (hic:iv.cells=[iv]/\iv.one=true) (hac:av.cells=[av]/\av.one=true) (haft:AftR H (aft (qS ss)) av) (hn:n < ss.flatten.length) (hfew:ss.flatten.length<=1000):∃ mb K,Ev Tryz.prog C0 W0 44 [.agg [iv,av],I n] H=some (.map mb,K)/\Agree H K/\∀ j L,j < ss.flatten.length->lookupA Tryz.prog 95 (.map mb) (I (j:Int)) false (K++L)=some (.bool (bef (qS ss) n j)):=by
 have hN:(qS ss).flatten.length=ss.flatten.length:=by rw [qS_flat,List.length_map]
 obtain ⟨mb,K,seen,h1,h2,_,h3,h4⟩:=ev44 (N:=ss.flatten.length) (n:=n) hic hac haft (by rw [Qu.aft_len,hN]) (fun l hl y hy=>by rw [<-hN]; exact Qu.aft_lt l hl y hy) (fun l hl=>by
   unfold aft at hl
   obtain ⟨m,hm,rfl⟩:=List.mem_map.1 hl
   exact Nat.lt_of_le_of_lt (aftTo_le _ _ _) (by omega)) hn (by omega)
 refine ⟨mb,K,h1,h2,fun j L hj=>?_⟩
 rw [lk95 (l:=seen) (c:=seen.length) (by rw [List.getElem?_append_left (lt_of_get h3)]; exact h3),seen_bef hn hj h4]
theorem ord_in {G:AH} {cs:List Cod} {m:List (List Int)} {ss:List (List Itm)} {vc iv av:AV} {a:Nat} (hc:CodsR G cs vc) (hcp:∀ c∈cs,c.params.length<=6) (hI:ItmsR G ss.flatten iv) (hrt:∀ x∈ss.flatten,rightP cs m x=true) (haf:AftR G (aft (qS ss)) av) (hic:iv.cells=[iv]/\iv.one=true) (hac:av.cells=[av]/\av.one=true) (hfew:ss.flatten.length<=1000) (hpa:G[a]? =some (.cells [iv,av] 93)) {i c:Nat} {w va:AV} (hiN:i < ss.flatten.length) (hcx:G[c]? =some (.cells (rowX (itmAt ss.flatten i) va) 34)) (hsx:SlS 32 1 G va ((itmAt ss.flatten i).args.map row1)) (hw:∀ j kk,j < i->indexAddrA Tryz.prog 31 w (.int kk (j:Nat))=indexAddrA Tryz.prog 31 iv (.int kk (j:Nat))):∀ (d j:Nat) (tm:List AV) (K:AH),i - j=d->j<=i->Agree G K->tm.length=64->tm.getD 0 uA=vc->tm.getD 9 uA=.ptr a 0->tm.getD 10 uA=I (i:Nat)->tm.getD 11 uA=.ptr c 0->tm.getD 25 uA=iv->tm.getD 26 uA=I (ss.flatten.length:Nat)->tm.getD 27 uA=I (i:Nat)->tm.getD 35 uA=w->tm.getD 36 uA=I (i:Nat)->tm.getD 37 uA=I ((j:Nat):Int) ->
   (allF (fun j=>ordP cs ss i j) i j=true->∃ X K1,EvC Tryz.prog C0 W0 plN l18_0 (tm,K)=some (.exit 2,(X,K1))/\X.length=64/\Agree G K1/\X.getD 0 uA=vc/\X.getD 9 uA=.ptr a 0/\X.getD 10 uA=I (i:Nat)/\X.getD 11 uA=.ptr c 0/\X.getD 25 uA=iv/\X.getD 26 uA=I (ss.flatten.length:Nat)/\X.getD 27 uA=I (i:Nat)/\X.getD 35 uA=w/\X.getD 36 uA=I (i:Nat))/\(allF (fun j=>ordP cs ss i j) i j=false->∃ Y K1,EvC Tryz.prog C0 W0 plN l18_0 (tm,K)=some (.ret,(Y,K1))/\Y.getD 6 uA=.bool false/\Y.getD 7 uA=I 0):=by
 intro d
 induction d with
 | zero =>
   intro j tm K hd hj hA hlen h0 h9 h10 h11 h25 h26 h27 h35 h36 h37
   have hjl:j=i:=by omega
   subst hjl
   have hlt:ltB (j:Int) (j:Nat)=false:=ltB_f (by omega)
   rw [allF_end (Nat.le_refl _),el18_0]
   refine ⟨fun _=>?_,fun h=>(by cases h)⟩
   simp -implicitDefEqProofs only [b18_0,Tryz.f18,aP,hlen,h0,h9,h10,h11,h25,h26,h27,h35,h36,h37,hlt,↓cbT,↓cbF,↓evDn,evUp,eu,sevalprocAttr]
   exact ⟨_,K,rfl,by simp only [ls,hlen],hA,by simp only [hlen,h0,h9,h10,h11,h25,h26,h27,h35,h36,gB,and_self,sevalprocAttr]⟩
 | succ d ih =>
   intro j tm K hd hj hA hlen h0 h9 h10 h11 h25 h26 h27 h35 h36 h37
   have hjN:j < i:=by omega
   have hjF:j < ss.flatten.length:=by omega
   have hlt:ltB (j:Int) (i:Nat)=true:=ltB_t (by omega)
   have hwi:=inc_i (j:=j) (by omega)
   obtain ⟨i0,k0,vb,hix,hrd,hsy⟩:=hI.at hA hjF
   have hix':∀ kk,indexAddrA Tryz.prog 31 w (.int kk (j:Nat))=some (.ptr i0 k0):=fun kk=>(hw j kk hjN).trans (hix kk)
   have hall:=allF_step (p:=(fun j=>ordP cs ss i j)) hjN
   have hrx:=hrt _ (itmAt_mem hiN)
   have hry:=hrt _ (itmAt_mem hjF)
   have hyc:=hsy.cells
   have hyo:=hsy.one
   have hxr:∀ L,rdCells (K++L) c 0 9=some (rowX (itmAt ss.flatten i) va):=fun L=>(hA.appR L).sub.rd (by unfold rdCells; rw [hcx]; rfl)
   have hpr:∀ K2,Agree G K2->∀ L,rdCells (K2++L) a 0 2=some [iv,av]:=fun K2 h2 L=>(h2.appR L).sub.rd (by unfold rdCells; rw [hpa]; rfl)
   have hA1:Agree G (K++[.cells (rowX (itmAt ss.flatten j) vb) 34]):=hA.appR _
   have h43:=ev43 (hc.agree hA1) hcp (hsx.same hA1) (hsy.same hA1) hrx hry
   obtain ⟨mb1,K2,h44a,hA2,hlk1⟩:=ev44' hic hac (haf.sub hA1.sub) hiN hfew
   have hA2G:=hA1.trans hA2
   obtain ⟨mb2,K3,h44b,hA3,hlk2⟩:=ev44' hic hac (haf.sub hA2G.sub) hjF hfew
   have hp0:=hpr K hA
   have hp2:=hpr K2 hA2G []
   have hl1:=hlk1 j [] hjF
   have hl2:=hlk2 i [] hiN
   rw [List.append_nil] at hp2 hl1 hl2
   have hput:∀ o,put none K o=some (K.length,K++[o]):=fun _=>rfl
   rw [el18_0]
   rw [<-List.append_nil K]
   have hoP:ordP cs ss i j=(!touchN cs (itmAt ss.flatten i) (itmAt ss.flatten j) || bef (qS ss) i j || bef (qS ss) j i):=rfl
   generalize itmAt ss.flatten i=x at *
   generalize itmAt ss.flatten j=y at *
   simp only [rowX] at hrd hxr h43 h44a
   cases hT:touchN cs x y with
   | false =>
     rw [hT] at hoP
     rw [show ordP cs ss i j=true from hoP,Bool.true_and] at hall
     simp -implicitDefEqProofs only [b18_0,Tryz.f18,aP,hlen,h0,h9,h10,h11,h25,h26,h27,h35,h36,h37,hlt,hix',hrd,hwi,z34w,st34,↓hyc,↓hyo,hput,hxr,↓fc43,↓fc44,h43,hT,ld93,hp0,r5,↓evLd,nck,↓cbT,↓cbF,↓evDn,evUp,eu,sevalprocAttr]
     generalize hX:EvC Tryz.prog C0 W0 _ _ _=Z
     have key:∀ (tm1:List AV) (K1:AH),EvC Tryz.prog C0 W0 plN l18_0 (tm1,K1)=Z->Agree G K1->tm1.length=64->tm1.getD 0 uA=vc->tm1.getD 9 uA=.ptr a 0->tm1.getD 10 uA=I (i:Nat)->tm1.getD 11 uA=.ptr c 0->tm1.getD 25 uA=iv->tm1.getD 26 uA=I (ss.flatten.length:Nat)->tm1.getD 27 uA=I (i:Nat)->tm1.getD 35 uA=w->tm1.getD 36 uA=I (i:Nat)->tm1.getD 37 uA=I ((j+1:Nat):Int)->(allF (fun j=>ordP cs ss i j) i (j+1)=true->∃ X K1,Z=some (.exit 2,(X,K1))/\X.length=64/\Agree G K1/\X.getD 0 uA=vc/\X.getD 9 uA=.ptr a 0/\X.getD 10 uA=I (i:Nat)/\X.getD 11 uA=.ptr c 0/\X.getD 25 uA=iv/\X.getD 26 uA=I (ss.flatten.length:Nat)/\X.getD 27 uA=I (i:Nat)/\X.getD 35 uA=w/\X.getD 36 uA=I (i:Nat))/\(allF (fun j=>ordP cs ss i j) i (j+1)=false->∃ Y K1,Z=some (.ret,(Y,K1))/\Y.getD 6 uA=.bool false/\Y.getD 7 uA=I 0):=by
       intro tm1 K1 h hA1 hl1 h0 h9 h10 h11 h25 h26 h27 h35 h36 h37
       rw [<-h]
       exact ih (j+1) tm1 K1 (by omega) (by omega) hA1 hl1 h0 h9 h10 h11 h25 h26 h27 h35 h36 h37
     rw [hall]
     exact key _ _ hX (hA.appR _) (by simp only [ls,hlen]) (by simp only [hlen,h0,gB,sevalprocAttr]) (by simp only [hlen,h9,gB,sevalprocAttr]) (by simp only [hlen,h10,gB,sevalprocAttr]) (by simp only [hlen,h11,gB,sevalprocAttr]) (by simp only [hlen,h25,gB,sevalprocAttr]) (by simp only [hlen,h26,gB,sevalprocAttr]) (by simp only [hlen,h27,gB,sevalprocAttr]) (by simp only [hlen,h35,gB,sevalprocAttr]) (by simp only [hlen,h36,gB,sevalprocAttr]) (by simp only [hlen,gB,sevalprocAttr])
   | true =>
     cases hb1:bef (qS ss) i j with
     | true =>
       rw [hT,hb1] at hoP
       rw [show ordP cs ss i j=true from hoP,Bool.true_and] at hall
       simp -implicitDefEqProofs only [b18_0,Tryz.f18,aP,hlen,h0,h9,h10,h11,h25,h26,h27,h35,h36,h37,hlt,hix',hrd,hwi,z34w,st34,↓hyc,↓hyo,hput,hxr,↓fc43,↓fc44,h43,hT,ld93,hp0,h44a,hl1,hb1,r5,↓evLd,nck,↓cbT,↓cbF,↓evDn,evUp,eu,sevalprocAttr]
       generalize hX:EvC Tryz.prog C0 W0 _ _ _=Z
       have key:∀ (tm1:List AV) (K1:AH),EvC Tryz.prog C0 W0 plN l18_0 (tm1,K1)=Z->Agree G K1->tm1.length=64->tm1.getD 0 uA=vc->tm1.getD 9 uA=.ptr a 0->tm1.getD 10 uA=I (i:Nat)->tm1.getD 11 uA=.ptr c 0->tm1.getD 25 uA=iv->tm1.getD 26 uA=I (ss.flatten.length:Nat)->tm1.getD 27 uA=I (i:Nat)->tm1.getD 35 uA=w->tm1.getD 36 uA=I (i:Nat)->tm1.getD 37 uA=I ((j+1:Nat):Int)->(allF (fun j=>ordP cs ss i j) i (j+1)=true->∃ X K1,Z=some (.exit 2,(X,K1))/\X.length=64/\Agree G K1/\X.getD 0 uA=vc/\X.getD 9 uA=.ptr a 0/\X.getD 10 uA=I (i:Nat)/\X.getD 11 uA=.ptr c 0/\X.getD 25 uA=iv/\X.getD 26 uA=I (ss.flatten.length:Nat)/\X.getD 27 uA=I (i:Nat)/\X.getD 35 uA=w/\X.getD 36 uA=I (i:Nat))/\(allF (fun j=>ordP cs ss i j) i (j+1)=false->∃ Y K1,Z=some (.ret,(Y,K1))/\Y.getD 6 uA=.bool false/\Y.getD 7 uA=I 0):=by
         intro tm1 K1 h hA1 hl1 h0 h9 h10 h11 h25 h26 h27 h35 h36 h37
         rw [<-h]
         exact ih (j+1) tm1 K1 (by omega) (by omega) hA1 hl1 h0 h9 h10 h11 h25 h26 h27 h35 h36 h37
       rw [hall]
       exact key _ _ hX (hA2G) (by simp only [ls,hlen]) (by simp only [hlen,h0,gB,sevalprocAttr]) (by simp only [hlen,h9,gB,sevalprocAttr]) (by simp only [hlen,h10,gB,sevalprocAttr]) (by simp only [hlen,h11,gB,sevalprocAttr]) (by simp only [hlen,h25,gB,sevalprocAttr]) (by simp only [hlen,h26,gB,sevalprocAttr]) (by simp only [hlen,h27,gB,sevalprocAttr]) (by simp only [hlen,h35,gB,sevalprocAttr]) (by simp only [hlen,h36,gB,sevalprocAttr]) (by simp only [hlen,gB,sevalprocAttr])
     | false =>
       cases hb2:bef (qS ss) j i with
       | true =>
         rw [hT,hb1,hb2] at hoP
         rw [show ordP cs ss i j=true from hoP,Bool.true_and] at hall
         simp -implicitDefEqProofs only [b18_0,Tryz.f18,aP,hlen,h0,h9,h10,h11,h25,h26,h27,h35,h36,h37,hlt,hix',hrd,hwi,z34w,st34,↓hyc,↓hyo,hput,hxr,↓fc43,↓fc44,h43,hT,ld93,hp0,h44a,hl1,hb1,h44b,hp2,hl2,hb2,r5,↓evLd,nck,↓cbT,↓cbF,↓evDn,evUp,eu,sevalprocAttr]
         generalize hX:EvC Tryz.prog C0 W0 _ _ _=Z
         have key:∀ (tm1:List AV) (K1:AH),EvC Tryz.prog C0 W0 plN l18_0 (tm1,K1)=Z->Agree G K1->tm1.length=64->tm1.getD 0 uA=vc->tm1.getD 9 uA=.ptr a 0->tm1.getD 10 uA=I (i:Nat)->tm1.getD 11 uA=.ptr c 0->tm1.getD 25 uA=iv->tm1.getD 26 uA=I (ss.flatten.length:Nat)->tm1.getD 27 uA=I (i:Nat)->tm1.getD 35 uA=w->tm1.getD 36 uA=I (i:Nat)->tm1.getD 37 uA=I ((j+1:Nat):Int)->(allF (fun j=>ordP cs ss i j) i (j+1)=true->∃ X K1,Z=some (.exit 2,(X,K1))/\X.length=64/\Agree G K1/\X.getD 0 uA=vc/\X.getD 9 uA=.ptr a 0/\X.getD 10 uA=I (i:Nat)/\X.getD 11 uA=.ptr c 0/\X.getD 25 uA=iv/\X.getD 26 uA=I (ss.flatten.length:Nat)/\X.getD 27 uA=I (i:Nat)/\X.getD 35 uA=w/\X.getD 36 uA=I (i:Nat))/\(allF (fun j=>ordP cs ss i j) i (j+1)=false->∃ Y K1,Z=some (.ret,(Y,K1))/\Y.getD 6 uA=.bool false/\Y.getD 7 uA=I 0):=by
           intro tm1 K1 h hA1 hl1 h0 h9 h10 h11 h25 h26 h27 h35 h36 h37
           rw [<-h]
           exact ih (j+1) tm1 K1 (by omega) (by omega) hA1 hl1 h0 h9 h10 h11 h25 h26 h27 h35 h36 h37
         rw [hall]
         exact key _ _ hX (hA2G.trans hA3) (by simp only [ls,hlen]) (by simp only [hlen,h0,gB,sevalprocAttr]) (by simp only [hlen,h9,gB,sevalprocAttr]) (by simp only [hlen,h10,gB,sevalprocAttr]) (by simp only [hlen,h11,gB,sevalprocAttr]) (by simp only [hlen,h25,gB,sevalprocAttr]) (by simp only [hlen,h26,gB,sevalprocAttr]) (by simp only [hlen,h27,gB,sevalprocAttr]) (by simp only [hlen,h35,gB,sevalprocAttr]) (by simp only [hlen,h36,gB,sevalprocAttr]) (by simp only [hlen,gB,sevalprocAttr])
       | false =>
         rw [hT,hb1,hb2] at hoP
         rw [show ordP cs ss i j=false from hoP,Bool.false_and] at hall
         rw [hall]
         refine ⟨fun h=>(by cases h),fun _=>?_⟩
         simp -implicitDefEqProofs only [b18_0,Tryz.f18,aP,hlen,h0,h9,h10,h11,h25,h26,h27,h35,h36,h37,hlt,hix',hrd,hwi,z34w,st34,↓hyc,↓hyo,hput,hxr,↓fc43,↓fc44,h43,hT,ld93,hp0,h44a,hl1,hb1,h44b,hp2,hl2,hb2,r5,↓evLd,nck,↓cbT,↓cbF,↓evDn,evUp,eu,sevalprocAttr]
         exact ⟨_,_,rfl,by simp only [hlen,gB,and_self,sevalprocAttr]⟩
end Go.Dv
