/- Part 31 of the walks (own work). -/
import Derived.Test.YtilpjnckfkjkbaaGreatDoorU30
open List renaming append_nil→af,getElem?_append_right→al,getElem?_eq_getElem→aj,getElem?_map→aO,length_append→ai,length_map→ao,length_singleton→eM,mem_flatten→Ji,mem_map→bI
open Nat renaming add_assoc→bN,add_sub_cancel_left→aN,le_refl→aw,le_trans→bh,reduceAdd→bg,reduceEqDiff→aQ,reduceLT→aR,reduceLeDiff→aK,sub_self→d9,zero_le→aV
open Go.Proofs.Tryz renaming prog→aa
set_option maxRecDepth 100000
set_option maxHeartbeats 4000000
set_option linter.unusedSimpArgs false
set_option linter.unusedVariables false
open Go.Proofs.Tryz (f42)
namespace Go.Dv
open Go.Proofs
attribute [local congr] aA bC aT bB bD
open Qu (off di jU l7 nxt aft lX)
theorem QA {S0 G0:AH} (hG:Sub G0 S0) {ss:List (List Itm)} {vs:AV} {p mb q:Nat} {w:AV} {i:Nat} (hx:eD G0 (aM ss i) w) (hfew:ss.flatten.length<=1000) (hev:∀ x∈aM ss i,x.kind=3->0<=x.ev) {j:Nat} (hj:j < (aM ss i).length) {tm:List AV} {K:AH} (hI:tm.length=111/\tm.getD 2 uA=.ptr q 0/\tm.getD 3 uA=.ptr p 0/\tm.getD 4 uA=.map mb/\tm.getD 14 uA=vs/\tm.getD 15 uA=I ss.length/\tm.getD 16 uA=I ((i:Nat):Int)/\tm.getD 20 uA=w/\tm.getD 21 uA=I (aM ss i).length/\tm.getD 22 uA=I ((j:Nat):Int)/\(∃ iv av ws mv l,eV S0 K p mb iv av ws mv l (A1 (qS ss) (off (qS ss) i+j)) (R1 (qS ss) (off (qS ss) i+j))/\l.map (·.1)=ss.flatten.take (off (qS ss) i+j)/\∀ q∈l,SlS 32 1 G0 q.2 (q.1.args.map dH))) :
   ∃ tm' K',EvC aa C0 W0 jb Cz (tm,K)=EvC aa C0 W0 jb Cz (tm',K')/\tm'.length=111/\tm'.getD 2 uA=.ptr q 0/\tm'.getD 3 uA=.ptr p 0/\tm'.getD 4 uA=.map mb/\tm'.getD 14 uA=vs/\tm'.getD 15 uA=I ss.length/\tm'.getD 16 uA=I ((i:Nat):Int)/\tm'.getD 20 uA=w/\tm'.getD 21 uA=I (aM ss i).length/\tm'.getD 22 uA=I (((j+1):Nat):Int)/\(∃ iv av ws mv l,eV S0 K' p mb iv av ws mv l (A1 (qS ss) (off (qS ss) i+(j+1))) (R1 (qS ss) (off (qS ss) i+(j+1)))/\l.map (·.1)=ss.flatten.take (off (qS ss) i+(j+1))/\∀ q∈l,SlS 32 1 G0 q.2 (q.1.args.map dH)):=by
 obtain ⟨hlen,h2,h3,h4,h14,h15,h16,h20,h21,h22,iv,av,ws,mv,l,hP,hl,ha⟩:=hI;have hlt:ltB (j:Int) ((aM ss i).length:Nat)=true:=cu (by omega);have hxn:=hx.n;have hw:=b6 (j:=j) (by omega);obtain ⟨i0,k0,va,hix,hrd,hsa⟩:=hx.atS (hG.trans hP.sub) hj;have hit:=nv hj;have htk:=HJ hj;have hfl:=Qu.oZ (qS ss) i j _ hit;have hcf:off (qS ss) i+j < ss.flatten.length:=by have:=aI hfl;rwa [gM,ao] at this
 have hev':=hev _ (fA hj);have hac:=hsa.cells;have hao:=hsa.one;have hll:l.length=off (qS ss) i+j:=by have:=congrArg List.length hl;rw [ao,List.length_take] at this; omega
 have hr0:∀ L,ak (K++L) p 0 1=some [iv]:=fun L=>hP.rp L 0 rfl;have hli:∀ G,d4 aa 31 G iv=some (I ((off (qS ss) i+j:Nat):Int)):=fun G=>by have:=(hP.oi.own.mJ mV (by decide) (fu l)).len G;rwa [ao,hll] at this
 generalize bo (aM ss i) j=x at *;simp only [aJ] at hrd;rw [Nt];rw [<-af K];simp -implicitDefEqProofs only [qn,f42,aP,hlen,h3,h20,h21,h22,hlt,hix,hrd,sK,ed,↓hac,↓hao,show ∀ o,put none K o=some (K.length,K++[o]) from fun _=>rfl,hr0,hli,qd,reduceCtorEq,reduceIte,aR,aQ,bg,aK,↓zzC,zzE];generalize hR:EvC aa C0 W0 jb (Code.region 10 _ _) _=Z10;obtain ⟨t,K1,iv1,av1,e1,tl,tlow,P1⟩:=J9 (hP.pad (.cells (aJ x va) 34)) hR (by simp only [ls,hlen]) (by simp only [hlen,h3,gB,sevalprocAttr]) (c:=K.length) (x:=x) (va:=va) (by simp only [hlen,gB,sevalprocAttr]) (uN hP.ow.sl) hac hao (by omega) (by rw [kY]; omega);subst e1;have b2:t.getD 2 uA=.ptr q 0:=(tlow 2 (by decide)).trans (by simp only [hlen,h2,gB,sevalprocAttr]);have b3:t.getD 3 uA=.ptr p 0:=(tlow 3 (by decide)).trans (by simp only [hlen,h3,gB,sevalprocAttr]);have b4:t.getD 4 uA=.map mb:=(tlow 4 (by decide)).trans (by simp only [hlen,h4,gB,sevalprocAttr]);have b14:t.getD 14 uA=vs:=(tlow 14 (by decide)).trans (by simp only [hlen,h14,gB,sevalprocAttr]);have b15:t.getD 15 uA=I ss.length:=(tlow 15 (by decide)).trans (by simp only [hlen,h15,gB,sevalprocAttr]);have b16:t.getD 16 uA=I ((i:Nat):Int):=(tlow 16 (by decide)).trans (by simp only [hlen,h16,gB,sevalprocAttr]);have b20:t.getD 20 uA=w:=(tlow 20 (by decide)).trans (by simp only [hlen,h20,gB,sevalprocAttr]);have b21:t.getD 21 uA=I (aM ss i).length:=(tlow 21 (by decide)).trans (by simp only [hlen,h21,gB,sevalprocAttr]);have b7:t.getD 7 uA=I ((j:Nat):Int):=(tlow 7 (by decide)).trans (by simp only [hlen,gB,sevalprocAttr]);have b8:t.getD 8 uA=.ptr K.length 0:=(tlow 8 (by decide)).trans (by simp only [hlen,gB,sevalprocAttr]);have b9:t.getD 9 uA=I ((off (qS ss) i+j:Nat):Int):=(tlow 9 (by decide)).trans (by simp only [hlen,gB,sevalprocAttr]);have b22:t.getD 22 uA=I ((j:Nat):Int):=(tlow 22 (by decide)).trans (by simp only [hlen,h22,gB,sevalprocAttr]);have hsc:(rD S0 K.length (.cells (aJ x va) 34))[K.length]? =some (.cells (aJ x va) 34):=uN hP.ow.sl;have hk0:∀ G,Sub (rD S0 K.length (.cells (aJ x va) 34)) G->ak G K.length 0 1=some [I x.kind]:=fun G hG=>hG.rd (by unfold ak; rw [hsc]; rfl);have hk1:=hk0 K1 P1.sub;have hback:Sub S0 (rD S0 K.length (.cells (aJ x va) 34)):=nZ.sub;have hbl:S0.length<=(rD S0 K.length (.cells (aJ x va) 34)).length:=nZ.len;have hlF:(l++[(x,va)]).map (·.1)=ss.flatten.take (off (qS ss) i+(j+1)):=by rw [List.map_append,hl,<-bN,htk]; rfl
 have haF:∀ q∈l++[(x,va)],SlS 32 1 G0 q.2 (q.1.args.map dH):=fun q hq=>by
   rcases List.mem_append.1 hq with c | c
   · exact ha q c
   · rw [List.mem_singleton] at c; subst c; exact hsa
 have hRn:x.kind≠3->R1 (qS ss) (off (qS ss) i+j)=R1 (qS ss) (off (qS ss) i+(j+1)):=fun hk=>funext fun e=>by rw [<-bN,Hu hit,if_neg fun c=>hk c.1]
 have hRy:x.kind=3->(fun e=>if e=x.ev.toNat then R1 (qS ss) (off (qS ss) i+j) x.ev.toNat++[off (qS ss) i+j] else R1 (qS ss) (off (qS ss) i+j) e)=R1 (qS ss) (off (qS ss) i+(j+1)):=fun hk=>funext fun e=>by
   have:=hev' hk;rw [<-bN,Hu hit];by_cases c:e=x.ev.toNat
   · subst c;rw [if_pos rfl,if_pos ⟨hk,by show x.ev=_; omega⟩]
   · rw [if_neg c,if_neg fun d=>c (by have:x.ev=(e:Int):=d.2; omega)]
 cases j with
 | zero =>
   have hgt:ltB 0 ((0:Nat):Int)=false:=rfl;have hA0:A1 (qS ss) (off (qS ss) i+0)++[[]]=A1 (qS ss) (off (qS ss) i+(0+1)):=(OX hit).symm;rw [hA0] at P1;cases hk:eqB x.kind 3 with
   | false =>
     have hkn:x.kind≠3:=fun c=>by rw [c] at hk; cases hk
     simp -implicitDefEqProofs only [qn,f42,aP,tl,b2,b3,b4,b7,b8,b9,b14,b15,b16,b20,b21,b22,hk,hk1,hgt,hw,reduceCtorEq,reduceIte,aR,aQ,bg,aK,↓zzC,zzE];rw [hRn hkn] at P1;refine ⟨_,_,rfl,by simp only [ls,tl],Aj9 (by simp only [tl,b2,b3,b4,b14,b15,b16,b20,b21,gB,and_self,sevalprocAttr]) ⟨_,_,_,_,_,P1.less hback hbl,hlF,haF⟩⟩
   | true =>have hky:x.kind=3:=(cP _ _).1 hk;simp -implicitDefEqProofs only [qn,f42,aP,tl,b2,b3,b4,b7,b8,b9,b14,b15,b16,b20,b21,b22,hk,hk1,hgt,hw,reduceCtorEq,reduceIte,aR,aQ,bg,aK,↓zzC,zzE];generalize hR:EvC aa C0 W0 jb (Code.region 14 _ _) _=Z14;obtain ⟨u,K3,mv3,e3,ul,ulow,P3⟩:=Ca P1 hR (by simp only [ls,tl]) (by simp only [tl,b4,gB,sevalprocAttr]) (c:=K.length) (x:=x) (va:=va) (by simp only [tl,b8,gB,sevalprocAttr]) hsc (e:=x.ev.toNat) (j:=off (qS ss) i+0) (by have:=hev' hky; omega) (by simp only [tl,b9,gB,sevalprocAttr]) (bh (TP _ _ _) (by omega));subst e3;have u2:u.getD 2 uA=.ptr q 0:=(ulow 2 (by decide)).trans (by simp only [tl,b2,gB,sevalprocAttr]);have u3:u.getD 3 uA=.ptr p 0:=(ulow 3 (by decide)).trans (by simp only [tl,b3,gB,sevalprocAttr]);have u4:u.getD 4 uA=.map mb:=(ulow 4 (by decide)).trans (by simp only [tl,b4,gB,sevalprocAttr]);have u14:u.getD 14 uA=vs:=(ulow 14 (by decide)).trans (by simp only [tl,b14,gB,sevalprocAttr]);have u15:u.getD 15 uA=I ss.length:=(ulow 15 (by decide)).trans (by simp only [tl,b15,gB,sevalprocAttr]);have u16:u.getD 16 uA=I ((i:Nat):Int):=(ulow 16 (by decide)).trans (by simp only [tl,b16,gB,sevalprocAttr]);have u20:u.getD 20 uA=w:=(ulow 20 (by decide)).trans (by simp only [tl,b20,gB,sevalprocAttr]);have u21:u.getD 21 uA=I (aM ss i).length:=(ulow 21 (by decide)).trans (by simp only [tl,b21,gB,sevalprocAttr]);have u22:u.getD 22 uA=I ((0:Nat):Int):=(ulow 22 (by decide)).trans (by simp only [tl,b22,gB,sevalprocAttr]);simp -implicitDefEqProofs only [qn,f42,aP,ul,u2,u3,u4,u14,u15,u16,u20,u21,u22,hw,reduceCtorEq,reduceIte,aR,aQ,bg,aK,↓zzC,zzE];rw [hRy hky] at P3;refine ⟨_,_,rfl,by simp only [ls,ul],Aj9 (by simp only [ul,u2,u3,u4,u14,u15,u16,u20,u21,gB,and_self,sevalprocAttr]) ⟨_,_,_,_,_,P3.less hback hbl,hlF,haF⟩⟩
 | succ j =>
   have hgt:ltB 0 ((j+1:Nat):Int)=true:=cu (by omega);simp -implicitDefEqProofs only [qn,f42,aP,tl,b2,b3,b4,b7,b8,b9,b14,b15,b16,b20,b21,b22,hgt,reduceCtorEq,reduceIte,aR,aQ,bg,aK,↓zzC,zzE];generalize hR:EvC aa C0 W0 jb (Code.region 12 _ _) _=Z12;obtain ⟨v,K2,ws2,e2,vl,vlow,P2⟩:=J8 P1 hR (by simp only [ls,tl]) (by simp only [tl,b3,gB,sevalprocAttr]) (n:=off (qS ss) i+j) (by simp only [tl,b9,gB,sevalprocAttr]; try rfl) (by rw [ai,kY,eM]; omega) (by rw [ai,kY,eM]; omega) (by rw [<-bN,Hz]; simp);subst e2;rw [<-OW hit] at P2;have hk2:=hk0 K2 P2.sub;have v2:v.getD 2 uA=.ptr q 0:=(vlow 2 (by decide)).trans (by simp only [tl,b2,gB,sevalprocAttr]);have v3:v.getD 3 uA=.ptr p 0:=(vlow 3 (by decide)).trans (by simp only [tl,b3,gB,sevalprocAttr]);have v4:v.getD 4 uA=.map mb:=(vlow 4 (by decide)).trans (by simp only [tl,b4,gB,sevalprocAttr]);have v14:v.getD 14 uA=vs:=(vlow 14 (by decide)).trans (by simp only [tl,b14,gB,sevalprocAttr]);have v15:v.getD 15 uA=I ss.length:=(vlow 15 (by decide)).trans (by simp only [tl,b15,gB,sevalprocAttr]);have v16:v.getD 16 uA=I ((i:Nat):Int):=(vlow 16 (by decide)).trans (by simp only [tl,b16,gB,sevalprocAttr]);have v20:v.getD 20 uA=w:=(vlow 20 (by decide)).trans (by simp only [tl,b20,gB,sevalprocAttr]);have v21:v.getD 21 uA=I (aM ss i).length:=(vlow 21 (by decide)).trans (by simp only [tl,b21,gB,sevalprocAttr]);have v7:v.getD 7 uA=I ((j+1:Nat):Int):=(vlow 7 (by decide)).trans (by simp only [tl,b7,gB,sevalprocAttr]);have v8:v.getD 8 uA=.ptr K.length 0:=(vlow 8 (by decide)).trans (by simp only [tl,b8,gB,sevalprocAttr]);have v9:v.getD 9 uA=I ((off (qS ss) i+(j+1):Nat):Int):=(vlow 9 (by decide)).trans (by simp only [tl,b9,gB,sevalprocAttr]);have v22:v.getD 22 uA=I ((j+1:Nat):Int):=(vlow 22 (by decide)).trans (by simp only [tl,b22,gB,sevalprocAttr]);cases hk:eqB x.kind 3 with
   | false =>
     have hkn:x.kind≠3:=fun c=>by rw [c] at hk; cases hk
     simp -implicitDefEqProofs only [qn,f42,aP,vl,v2,v3,v4,v7,v8,v9,v14,v15,v16,v20,v21,v22,hk,hk2,hw,reduceCtorEq,reduceIte,aR,aQ,bg,aK,↓zzC,zzE];rw [hRn hkn] at P2;refine ⟨_,_,rfl,by simp only [ls,vl],Aj9 (by simp only [vl,v2,v3,v4,v14,v15,v16,v20,v21,gB,and_self,sevalprocAttr]) ⟨_,_,_,_,_,P2.less hback hbl,hlF,haF⟩⟩
   | true =>have hky:x.kind=3:=(cP _ _).1 hk;simp -implicitDefEqProofs only [qn,f42,aP,vl,v2,v3,v4,v7,v8,v9,v14,v15,v16,v20,v21,v22,hk,hk2,hw,reduceCtorEq,reduceIte,aR,aQ,bg,aK,↓zzC,zzE];generalize hR:EvC aa C0 W0 jb (Code.region 14 _ _) _=Z14;obtain ⟨u,K3,mv3,e3,ul,ulow,P3⟩:=Ca P2 hR (by simp only [ls,vl]) (by simp only [vl,v4,gB,sevalprocAttr]) (c:=K.length) (x:=x) (va:=va) (by simp only [vl,v8,gB,sevalprocAttr]) hsc (e:=x.ev.toNat) (j:=off (qS ss) i+(j+1)) (by have:=hev' hky; omega) (by simp only [vl,v9,gB,sevalprocAttr]) (bh (TP _ _ _) (by omega));subst e3;have u2:u.getD 2 uA=.ptr q 0:=(ulow 2 (by decide)).trans (by simp only [vl,v2,gB,sevalprocAttr]);have u3:u.getD 3 uA=.ptr p 0:=(ulow 3 (by decide)).trans (by simp only [vl,v3,gB,sevalprocAttr]);have u4:u.getD 4 uA=.map mb:=(ulow 4 (by decide)).trans (by simp only [vl,v4,gB,sevalprocAttr]);have u14:u.getD 14 uA=vs:=(ulow 14 (by decide)).trans (by simp only [vl,v14,gB,sevalprocAttr]);have u15:u.getD 15 uA=I ss.length:=(ulow 15 (by decide)).trans (by simp only [vl,v15,gB,sevalprocAttr]);have u16:u.getD 16 uA=I ((i:Nat):Int):=(ulow 16 (by decide)).trans (by simp only [vl,v16,gB,sevalprocAttr]);have u20:u.getD 20 uA=w:=(ulow 20 (by decide)).trans (by simp only [vl,v20,gB,sevalprocAttr]);have u21:u.getD 21 uA=I (aM ss i).length:=(ulow 21 (by decide)).trans (by simp only [vl,v21,gB,sevalprocAttr]);have u22:u.getD 22 uA=I ((j+1:Nat):Int):=(ulow 22 (by decide)).trans (by simp only [vl,v22,gB,sevalprocAttr]);simp -implicitDefEqProofs only [qn,f42,aP,ul,u2,u3,u4,u14,u15,u16,u20,u21,u22,hw,reduceCtorEq,reduceIte,aR,aQ,bg,aK,↓zzC,zzE];rw [hRy hky] at P3;refine ⟨_,_,rfl,by simp only [ls,ul],Aj9 (by simp only [ul,u2,u3,u4,u14,u15,u16,u20,u21,gB,and_self,sevalprocAttr]) ⟨_,_,_,_,_,P3.less hback hbl,hlF,haF⟩⟩
end Go.Dv
namespace Go.Dv
open Go.Proofs
attribute [local congr] aA bC aT bB bD
open Qu (off di jU l7 nxt aft lX)
theorem XZ {S0 G0:AH} (hG:Sub G0 S0) {ss:List (List Itm)} {vs:AV} {p mb q:Nat} {w:AV} {i:Nat} (hx:eD G0 (aM ss i) w) (hfew:ss.flatten.length<=1000) (hev:∀ x∈aM ss i,x.kind=3->0<=x.ev):∀ (d j:Nat) (tm:List AV) (K:AH),(aM ss i).length - j=d->j<=(aM ss i).length->(tm.length=111/\tm.getD 2 uA=.ptr q 0/\tm.getD 3 uA=.ptr p 0/\tm.getD 4 uA=.map mb/\tm.getD 14 uA=vs/\tm.getD 15 uA=I ss.length/\tm.getD 16 uA=I ((i:Nat):Int)/\tm.getD 20 uA=w/\tm.getD 21 uA=I (aM ss i).length/\tm.getD 22 uA=I ((j:Nat):Int)/\(∃ iv av ws mv l,eV S0 K p mb iv av ws mv l (A1 (qS ss) (off (qS ss) i+j)) (R1 (qS ss) (off (qS ss) i+j))/\l.map (·.1)=ss.flatten.take (off (qS ss) i+j)/\∀ q∈l,SlS 32 1 G0 q.2 (q.1.args.map dH))) ->
   ∃ X K1,EvC aa C0 W0 jb Cz (tm,K)=some (.exit 2,(X,K1))/\(X.length=111/\X.getD 2 uA=.ptr q 0/\X.getD 3 uA=.ptr p 0/\X.getD 4 uA=.map mb/\X.getD 14 uA=vs/\X.getD 15 uA=I ss.length/\X.getD 16 uA=I ((i:Nat):Int)/\X.getD 20 uA=w/\X.getD 21 uA=I (aM ss i).length/\X.getD 22 uA=I (((aM ss i).length:Nat):Int)/\(∃ iv av ws mv l,eV S0 K1 p mb iv av ws mv l (A1 (qS ss) (off (qS ss) i+(aM ss i).length)) (R1 (qS ss) (off (qS ss) i+(aM ss i).length))/\l.map (·.1)=ss.flatten.take (off (qS ss) i+(aM ss i).length)/\∀ q∈l,SlS 32 1 G0 q.2 (q.1.args.map dH))):=by
 intro d;induction d with
 | zero =>
   intro j tm K hd hj hI;have hjl:j=(aM ss i).length:=by omega
   subst hjl;obtain ⟨hlen,h2,h3,h4,h14,h15,h16,h20,h21,h22,hP⟩:=hI;have hlt:ltB (((aM ss i).length:Nat):Int) ((aM ss i).length:Nat)=false:=cw (by omega);rw [Nt];simp -implicitDefEqProofs only [qn,f42,aP,hlen,h3,h20,h21,h22,hlt,↓zzA,zzB,sevalprocAttr];exact ⟨_,K,rfl,by simp only [ls,hlen],Aj9 (by simp only [hlen,h2,h3,h4,h14,h15,h16,h20,h21,h22,gB,and_self,sevalprocAttr]) hP⟩
 | succ d ih =>intro j tm K hd hj hI;obtain ⟨tm',K',he,hI'⟩:=QA hG hx hfew hev (by omega) hI;obtain ⟨X,K1,h1,h2⟩:=ih (j+1) tm' K' (by omega) (by omega) hI';exact ⟨X,K1,he.trans h1,h2⟩
theorem U2 {S0 G0:AH} (hG:Sub G0 S0) {ss:List (List Itm)} {vs:AV} {p mb q:Nat} (hs:cT G0 ss vs) (hfew:ss.flatten.length<=1000) (hev:∀ l∈ss,∀ x∈l,x.kind=3->0<=x.ev):∀ (d i:Nat) (tm:List AV) (K:AH),ss.length - i=d->i<=ss.length->(tm.length=111/\tm.getD 2 uA=.ptr q 0/\tm.getD 3 uA=.ptr p 0/\tm.getD 4 uA=.map mb/\tm.getD 14 uA=vs/\tm.getD 15 uA=I ss.length/\tm.getD 16 uA=I ((i:Nat):Int)/\(∃ iv av ws mv l,eV S0 K p mb iv av ws mv l (A1 (qS ss) (off (qS ss) (i))) (R1 (qS ss) (off (qS ss) (i)))/\l.map (·.1)=ss.flatten.take (off (qS ss) (i))/\∀ q∈l,SlS 32 1 G0 q.2 (q.1.args.map dH))) ->
   ∃ X K1,EvC aa C0 W0 jb Gg (tm,K)=some (.exit 0,(X,K1))/\(X.length=111/\X.getD 2 uA=.ptr q 0/\X.getD 3 uA=.ptr p 0/\X.getD 4 uA=.map mb/\X.getD 14 uA=vs/\X.getD 15 uA=I ss.length/\X.getD 16 uA=I ((ss.length:Nat):Int)/\(∃ iv av ws mv l,eV S0 K1 p mb iv av ws mv l (A1 (qS ss) (off (qS ss) (ss.length))) (R1 (qS ss) (off (qS ss) (ss.length)))/\l.map (·.1)=ss.flatten.take (off (qS ss) (ss.length))/\∀ q∈l,SlS 32 1 G0 q.2 (q.1.args.map dH))):=by
 intro d;induction d with
 | zero =>
   intro i tm K hd hi hI;have hil:i=ss.length:=by omega
   subst hil;obtain ⟨hlen,h2,h3,h4,h14,h15,h16,hP⟩:=hI;have hlt:ltB ((ss.length:Nat):Int) (ss.length:Nat)=false:=cw (by omega);rw [Ns];simp -implicitDefEqProofs only [DD,f42,aP,hlen,h3,h14,h15,h16,hlt,↓zzA,zzB,sevalprocAttr];exact ⟨_,K,rfl,by simp only [ls,hlen],Aj6 (by simp only [hlen,h2,h3,h4,h14,h15,h16,gB,and_self,sevalprocAttr]) hP⟩
 | succ d ih =>
   intro i tm K hd hi hI;have hil:i < ss.length:=by omega
   obtain ⟨hlen,h2,h3,h4,h14,h15,h16,iv,av,ws,mv,l,hP,hl,ha⟩:=hI;have hlt:ltB (i:Int) (ss.length:Nat)=true:=cu (by omega);have hsn:=hs.n;have hw:=b6 (j:=i) (by omega);obtain ⟨i0,k0,w,hix,hrd,hx⟩:=hs.atS (hG.trans hP.sub) hil;have hln:=hx.len;have hrd0:=hrd [];rw [af] at hrd0;rw [Ns];simp -implicitDefEqProofs only [DD,f42,aP,hlen,h3,h14,h15,h16,hlt,hix,hrd0,hln,↓zzC,zzE,sevalprocAttr];generalize hX:EvC aa C0 W0 jb (Code.loop _) _=Z;have hin:∀ (tm:List AV) (K:AH) (Z:Option (bk × St)),EvC aa C0 W0 jb Cz (tm,K)=Z->(tm.length=111/\tm.getD 2 uA=.ptr q 0/\tm.getD 3 uA=.ptr p 0/\tm.getD 4 uA=.map mb/\tm.getD 14 uA=vs/\tm.getD 15 uA=I ss.length/\tm.getD 16 uA=I ((i:Nat):Int)/\tm.getD 20 uA=w/\tm.getD 21 uA=I (aM ss i).length/\tm.getD 22 uA=I ((0:Nat):Int)/\(∃ iv av ws mv l,eV S0 K p mb iv av ws mv l (A1 (qS ss) (off (qS ss) i+0)) (R1 (qS ss) (off (qS ss) i+0))/\l.map (·.1)=ss.flatten.take (off (qS ss) i+0)/\∀ q∈l,SlS 32 1 G0 q.2 (q.1.args.map dH)))->∃ X K1,Z=some (.exit 2,(X,K1))/\(X.length=111/\X.getD 2 uA=.ptr q 0/\X.getD 3 uA=.ptr p 0/\X.getD 4 uA=.map mb/\X.getD 14 uA=vs/\X.getD 15 uA=I ss.length/\X.getD 16 uA=I ((i:Nat):Int)/\X.getD 20 uA=w/\X.getD 21 uA=I (aM ss i).length/\X.getD 22 uA=I (((aM ss i).length:Nat):Int)/\(∃ iv av ws mv l,eV S0 K1 p mb iv av ws mv l (A1 (qS ss) (off (qS ss) i+(aM ss i).length)) (R1 (qS ss) (off (qS ss) i+(aM ss i).length))/\l.map (·.1)=ss.flatten.take (off (qS ss) i+(aM ss i).length)/\∀ q∈l,SlS 32 1 G0 q.2 (q.1.args.map dH))):=fun tm K Z hZ hI=>by subst hZ;exact XZ hG hx hfew (hev _ (gG hil)) _ 0 tm K rfl (aV _) hI
   obtain ⟨X,K1,he,hXl,x2,x3,x4,x14,x15,x16,x20,x21,x22,hP1⟩:=hin _ _ _ hX ⟨by simp only [ls,hlen],by simp only [hlen,h2,gB,sevalprocAttr]; try rfl,by simp only [hlen,h3,gB,sevalprocAttr]; try rfl,by simp only [hlen,h4,gB,sevalprocAttr]; try rfl,by simp only [hlen,h14,gB,sevalprocAttr]; try rfl,by simp only [hlen,h15,gB,sevalprocAttr]; try rfl,by simp only [hlen,h16,gB,sevalprocAttr]; try rfl,by simp only [hlen,gB,sevalprocAttr]; try rfl,by simp only [hlen,gB,sevalprocAttr]; try rfl,by simp only [hlen,gB,sevalprocAttr]; try rfl,iv,av,ws,mv,l,hP,hl,ha⟩;subst he;have hoff:off (qS ss) i+(aM ss i).length=off (qS ss) (i+1):=by rw [Qu.lA (by rw [se]; exact hil),wN,ao]
   rw [hoff] at hP1;simp -implicitDefEqProofs only [DD,f42,aP,hXl,x2,x3,x4,x14,x15,x16,x20,x21,x22,hw,↓zzC,zzE,sevalprocAttr];generalize hY:EvC aa C0 W0 jb _ _=Z;have hnx:∀ (tm:List AV) (K:AH) (Z:Option (bk × St)),EvC aa C0 W0 jb Gg (tm,K)=Z->(tm.length=111/\tm.getD 2 uA=.ptr q 0/\tm.getD 3 uA=.ptr p 0/\tm.getD 4 uA=.map mb/\tm.getD 14 uA=vs/\tm.getD 15 uA=I ss.length/\tm.getD 16 uA=I (((i+1):Nat):Int)/\(∃ iv av ws mv l,eV S0 K p mb iv av ws mv l (A1 (qS ss) (off (qS ss) ((i+1)))) (R1 (qS ss) (off (qS ss) ((i+1))))/\l.map (·.1)=ss.flatten.take (off (qS ss) ((i+1)))/\∀ q∈l,SlS 32 1 G0 q.2 (q.1.args.map dH)))->∃ X K1,Z=some (.exit 0,(X,K1))/\(X.length=111/\X.getD 2 uA=.ptr q 0/\X.getD 3 uA=.ptr p 0/\X.getD 4 uA=.map mb/\X.getD 14 uA=vs/\X.getD 15 uA=I ss.length/\X.getD 16 uA=I ((ss.length:Nat):Int)/\(∃ iv av ws mv l,eV S0 K1 p mb iv av ws mv l (A1 (qS ss) (off (qS ss) (ss.length))) (R1 (qS ss) (off (qS ss) (ss.length)))/\l.map (·.1)=ss.flatten.take (off (qS ss) (ss.length))/\∀ q∈l,SlS 32 1 G0 q.2 (q.1.args.map dH))):=fun tm K Z hZ hI=>by subst hZ;exact ih (i+1) tm K (by omega) (by omega) hI
   exact hnx _ _ _ hY ⟨by simp only [ls,hXl],Aj6 (by simp only [hXl,x2,x3,x4,x14,x15,x16,gB,and_self,sevalprocAttr]) hP1⟩
end Go.Dv
namespace Go.Dv
open Go.Proofs
attribute [local congr] aA bC aT bB bD
open Qu (off di jU l7 nxt aft lX)
theorem Qy {S0:AH} {ss:List (List Itm)} {p mb q:Nat} {iv:AV} {l:List (Itm × AV)} (hl:l.map (·.1)=ss.flatten) (hfew:ss.flatten.length<=1000) (hargs:∀ q∈l,q.2.cells=[q.2]/\q.2.one=true) (hev:∀ x∈ss.flatten,x.kind=4->0<=x.ev) {j:Nat} (hj:j < ss.flatten.length) {tm:List AV} {K:AH} (hI:tm.length=111/\tm.getD 2 uA=.ptr q 0/\tm.getD 3 uA=.ptr p 0/\tm.getD 4 uA=.map mb/\tm.getD 73 uA=iv/\tm.getD 74 uA=I (ss.flatten.length:Nat)/\tm.getD 75 uA=I ((j:Nat):Int)/\∃ av ws mv,eV S0 K p mb iv av ws mv l (A2 (qS ss) (j)) (R1 (qS ss) ss.flatten.length)) :
   ∃ tm' K',EvC aa C0 W0 jb Cy (tm,K)=EvC aa C0 W0 jb Cy (tm',K')/\tm'.length=111/\tm'.getD 2 uA=.ptr q 0/\tm'.getD 3 uA=.ptr p 0/\tm'.getD 4 uA=.map mb/\tm'.getD 73 uA=iv/\tm'.getD 74 uA=I (ss.flatten.length:Nat)/\tm'.getD 75 uA=I (((j+1):Nat):Int)/\∃ av ws mv,eV S0 K' p mb iv av ws mv l (A2 (qS ss) ((j+1))) (R1 (qS ss) ss.flatten.length):=by
 obtain ⟨hlen,h2,h3,h4,h73,h74,h75,av,ws,mv,hP⟩:=hI;have hlt:ltB (j:Int) (ss.flatten.length:Nat)=true:=cu (by omega);have hw:=b6 (j:=j) (by omega);have hNq:(qS ss).flatten.length=ss.flatten.length:=by rw [gM,ao]
 have hjl:j < l.length:=by rw [<-ao (f:=(·.1)),hl]; exact hj
 have hpl:l[j]∈l:=List.getElem_mem hjl;obtain ⟨hac,hao⟩:=hargs _ hpl;have hfl:(qS ss).flatten[j]? =some (qi (l[j]).1):=by rw [gM,<-hl,aO,aO,aj hjl]; rfl
 have hsl:=Own.mJ mV (by decide) hP.oi.own (fu l);obtain ⟨i0,k0,hix,hrd⟩:=hsl.ix j (fC l[j]) (by rw [aO,aj hjl]; rfl);have hrd:=fun L=>(an.app K L).sub.rd hrd;have hevx:(l[j]).1.kind=4->0<=(l[j]).1.ev:=hev _ (by rw [<-hl]; exact List.mem_map_of_mem hpl);have hlkk:=fun e L=>hP.hm.get e L;have hlnn:∀ (e:Nat) (G:AH),d4 aa 30 G (mv e)=some (I ((R1 (qS ss) ss.flatten.length e).length:Nat)):=fun e G=>by have:=((hP.om e).own.ints (l:=R1 (qS ss) ss.flatten.length e)).len G;rwa [show (ints (R1 (qS ss) ss.flatten.length e)).length=(R1 (qS ss) ss.flatten.length e).length from by simp [ints]] at this
 generalize l[j]=px at *;obtain ⟨x,va⟩:=px;simp only [fC] at hrd;rw [Nr];rw [<-af K];have hput:∀ o,put none K o=some (K.length,K++[o]):=fun _=>rfl;cases hk:eqB x.kind 4 with
 | false =>have hkn:x.kind≠4:=(qe _ _).1 hk;rw [show A2 (qS ss) (j+1)=A2 (qS ss) j from Hx hfl fun c=>hkn c.1];simp only [aJ] at hrd;simp -implicitDefEqProofs only [yZ,f42,aP,hlen,h2,h3,h4,h73,h74,h75,hlt,hw,hix,hrd,sK,ed,↓hac,↓hao,hput,hk,↓zzC,zzE,sevalprocAttr];exact ⟨_,_,rfl,by simp only [ls,hlen],Aj6 (by simp only [hlen,h2,h3,h4,h73,h74,gB,and_self,sevalprocAttr]) ⟨av,ws,mv,hP.grow _⟩⟩
 | true =>
   have hky:x.kind=4:=(cP _ _).1 hk;obtain ⟨e,he⟩:∃ e:Nat,x.ev=(e:Int):=⟨x.ev.toNat,by have:=hevx hky; simp only at this; omega⟩;have hlk:=hlkk e;have hln:=hlnn e;cases hq:eqB ((R1 (qS ss) ss.flatten.length e).length:Nat) 1 with
   | false =>have hqn:=(qe _ _).1 hq;rw [show A2 (qS ss) (j+1)=A2 (qS ss) j from Hx hfl fun c=>hqn (by have:=c.2;rw [show (qi x).event=(e:Int) from he,<-Hv,hNq] at this;rw [this]; rfl)];simp only [aJ,he] at hrd;simp -implicitDefEqProofs only [yZ,f42,aP,hlen,h2,h3,h4,h73,h74,h75,hlt,hw,hix,hrd,sK,ed,↓hac,↓hao,hput,hk,hlk,hln,hq,↓zzC,zzE,sevalprocAttr];exact ⟨_,_,rfl,by simp only [ls,hlen],Aj6 (by simp only [hlen,h2,h3,h4,h73,h74,gB,and_self,sevalprocAttr]) ⟨av,ws,mv,hP.grow _⟩⟩
   | true =>
     have hq1:(R1 (qS ss) ss.flatten.length e).length=1:=by have:=(cP _ _).1 hq; omega
     obtain ⟨n,hn⟩:=List.length_eq_one_iff.1 hq1;obtain ⟨hnN,hA⟩:=WO hfl (show (qi x).kind=4 from hky) (n:=n) (by rw [show (qi x).event=(e:Int) from he,<-Hv,hNq]; exact hn);rw [hA];have hrow:=(hP.om e).own.ints (l:=R1 (qS ss) ss.flatten.length e);rw [hn] at hrow;obtain ⟨i1,k1,hix1,hrd1⟩:=ints_at hrow (an.refl K) (j:=0) (by simp);have hix1':∀ kk,aC aa 30 (mv e) (.int kk 0)=some (.ptr i1 k1):=hix1;have hrd1':∀ L,ak (K++L) i1 k1 1=some [I (n:Int)]:=hrd1;simp only [aJ,he] at hrd;simp -implicitDefEqProofs only [yZ,f42,aP,hlen,h2,h3,h4,h73,h74,h75,hlt,hw,hix,hrd,sK,ed,↓hac,↓hao,hput,hk,hlk,hln,hq,hix1',hrd1',↓zzC,zzE,sevalprocAttr];generalize hR:EvC aa C0 W0 jb (Code.region 22 _ _) _=Z22;obtain ⟨t,K1,ws1,e1,tl,tlow,P1⟩:=J7 (hP.pad _) hR (by simp only [ls,hlen]) (by simp only [hlen,h3,gB,sevalprocAttr]) (j:=j) (n:=n) (by simp only [hlen,gB,sevalprocAttr]) (by simp only [hlen,gB,sevalprocAttr]) (by rw [WN]; exact hnN) (by rw [Hy _ _ hnN]; exact bh (zj _ _ _) (by omega));subst e1;have t2:t.getD 2 uA=.ptr q 0:=(tlow 2 (by decide)).trans (by simp only [hlen,h2,gB,sevalprocAttr]);have t3:t.getD 3 uA=.ptr p 0:=(tlow 3 (by decide)).trans (by simp only [hlen,h3,gB,sevalprocAttr]);have t4:t.getD 4 uA=.map mb:=(tlow 4 (by decide)).trans (by simp only [hlen,h4,gB,sevalprocAttr]);have t73:t.getD 73 uA=iv:=(tlow 73 (by decide)).trans (by simp only [hlen,h73,gB,sevalprocAttr]);have t74:t.getD 74 uA=I (ss.flatten.length:Nat):=(tlow 74 (by decide)).trans (by simp only [hlen,h74,gB,sevalprocAttr]);have t75:t.getD 75 uA=I ((j:Nat):Int):=(tlow 75 (by decide)).trans (by simp only [hlen,h75,gB,sevalprocAttr]);simp -implicitDefEqProofs only [yZ,f42,aP,tl,t2,t3,t4,t73,t74,t75,hw,↓zzC,zzE,sevalprocAttr];exact ⟨_,_,rfl,by simp only [ls,tl],Aj6 (by simp only [tl,t2,t3,t4,t73,t74,gB,and_self,sevalprocAttr]) ⟨av,ws1,mv,P1.less nZ.sub nZ.len⟩⟩
theorem Lb {S0:AH} {ss:List (List Itm)} {p mb q:Nat} {iv:AV} {l:List (Itm × AV)} (hl:l.map (·.1)=ss.flatten) (hfew:ss.flatten.length<=1000) (hargs:∀ q∈l,q.2.cells=[q.2]/\q.2.one=true) (hev:∀ x∈ss.flatten,x.kind=4->0<=x.ev):∀ (d j:Nat) (tm:List AV) (K:AH),ss.flatten.length - j=d->j<=ss.flatten.length->(tm.length=111/\tm.getD 2 uA=.ptr q 0/\tm.getD 3 uA=.ptr p 0/\tm.getD 4 uA=.map mb/\tm.getD 73 uA=iv/\tm.getD 74 uA=I (ss.flatten.length:Nat)/\tm.getD 75 uA=I ((j:Nat):Int)/\∃ av ws mv,eV S0 K p mb iv av ws mv l (A2 (qS ss) (j)) (R1 (qS ss) ss.flatten.length)) ->
   ∃ X K1,EvC aa C0 W0 jb Cy (tm,K)=some (.exit 4,(X,K1))/\(X.length=111/\X.getD 2 uA=.ptr q 0/\X.getD 3 uA=.ptr p 0/\X.getD 4 uA=.map mb/\X.getD 73 uA=iv/\X.getD 74 uA=I (ss.flatten.length:Nat)/\X.getD 75 uA=I ((ss.flatten.length:Nat):Int)/\∃ av ws mv,eV S0 K1 p mb iv av ws mv l (A2 (qS ss) (ss.flatten.length)) (R1 (qS ss) ss.flatten.length)):=by
 intro d;induction d with
 | zero =>
   intro j tm K hd hj hI;have hjl:j=ss.flatten.length:=by omega
   subst hjl;obtain ⟨hlen,h2,h3,h4,h73,h74,h75,hP⟩:=hI;have hlt:ltB ((ss.flatten.length:Nat):Int) (ss.flatten.length:Nat)=false:=cw (by omega);rw [Nr];simp -implicitDefEqProofs only [yZ,f42,aP,hlen,h2,h3,h4,h73,h74,h75,hlt,↓zzA,zzB,sevalprocAttr];exact ⟨_,K,rfl,by simp only [ls,hlen],Aj6 (by simp only [hlen,h2,h3,h4,h73,h74,h75,gB,and_self,sevalprocAttr]) hP⟩
 | succ d ih =>intro j tm K hd hj hI;obtain ⟨tm',K',he,hI'⟩:=Qy hl hfew hargs hev (by omega) hI;obtain ⟨X,K1,h1,h2⟩:=ih (j+1) tm' K' (by omega) (by omega) hI';exact ⟨X,K1,he.trans h1,h2⟩
end Go.Dv
namespace Go.Dv
open Go.Proofs
attribute [local congr] aA bC aT bB bD
open Qu (off di jU l7 nxt aft lX)
theorem z93:d8 aa 93=some (.agg [.nilSlice,.nilSlice]):=by kernel_rfl
theorem EX (H:AH) (i k:Nat):ldA aa 93 H i k=(ak H i k 2).map .agg:=by kernel_rfl
theorem Ux (H:AH) (i k:Nat) (x:AV):stA aa 93 H i k x=if x.cells.length=2 then bj H i k x.cells else none:=by kernel_rfl
theorem IA {H:AH} {ss:List (List Itm)} {vs:AV} (hs:cT H ss vs) (hfew:ss.flatten.length<=1000):ss.flatten.length < 2 ^ 50/\(∀ x∈ss.flatten,x.args.length < 2 ^ 50)/\(∀ x∈ss.flatten,∀ a∈x.args,fk a)/\∀ x∈ss.flatten,fk x.word:=by
 obtain ⟨⟨l,e,_,hl⟩,_⟩:=hs;have key:∀ x∈ss.flatten,∃ xs v,eD H xs v/\x∈xs:=fun x hx=>by obtain ⟨xs,h1,h2⟩:=Ji.1 hx;rw [<-e] at h1;obtain ⟨p,hp,rfl⟩:=bI.1 h1;exact ⟨_,_,hl p hp,h2⟩
 refine ⟨by omega,fun x hx=>?_,fun x hx=>?_,fun x hx=>?_⟩;all_goals obtain ⟨xs,v,h1,h2⟩:=key x hx
 · exact h1.na x h2
 · exact h1.im x h2
 · exact h1.iw x h2
theorem QB (H:AH):eV (H++[.cells [.nilSlice,.nilSlice] 93]) (H++[.cells [.nilSlice,.nilSlice] 93,.cells [.nilSlice,.nilSlice] 93,.map [] 0]) (H.length+1) (H.length+2) .nilSlice .nilSlice [] (fun _=>.nilSlice) [] [] (fun _=>[]) where
 sub:=(an.sub (by
   have:=an.app (H++[bm.cells [.nilSlice,.nilSlice] 93]) [.cells [.nilSlice,.nilSlice] 93,.map [] 0]
   rwa [List.append_assoc] at this))
 gp:=tJ (by simp)
 gm:=tJ (by simp)
 pm:=by omega
 hp:=by rw [al (by omega),aN]; rfl
 hm:=⟨[],List.nodup_nil,by rw [al (by omega),aN]; rfl,fun _ _=>rfl⟩
 lw:=rfl
 ow:={
   sl:=by simp
   xl:=fun x hx=>by
     simp only [List.mem_cons,List.not_mem_nil,or_false] at hx
     rw [ai]
     rcases hx with rfl | rfl <;> simp
   ex:=fun a i=>by
     left
     match a,i with
     | 0,0=>exact ⟨rfl,rfl⟩
     | 1,0=>exact ⟨rfl,rfl⟩
     | 2,i=>exact ⟨rfl,rfl⟩
     | 3,e=>exact ⟨rfl,rfl⟩
     | 0,i+1=>exact ⟨rfl,rfl⟩
     | 1,i+1=>exact ⟨rfl,rfl⟩
     | a+4,i=>exact ⟨rfl,rfl⟩
   dis:=fun a i c j _ b hb=>by
     have:cF (plF .nilSlice .nilSlice [] (fun _=>.nilSlice) [] [] (fun _=>[]) a i).1=none:=by
       match a,i with
       | 0,0=>rfl
       | 1,0=>rfl
       | 2,i=>rfl
       | 3,e=>rfl
       | 0,i+1=>rfl
       | 1,i+1=>rfl
       | a+4,i=>rfl
     rw [this] at hb; cases hb
   own:=fun a i b hb=>by
     have:cF (plF .nilSlice .nilSlice [] (fun _=>.nilSlice) [] [] (fun _=>[]) a i).1=none:=by
       match a,i with
       | 0,0=>rfl
       | 1,0=>rfl
       | 2,i=>rfl
       | 3,e=>rfl
       | 0,i+1=>rfl
       | 1,i+1=>rfl
       | a+4,i=>rfl
     rw [this] at hb; cases hb }
theorem Be (ss:List (List Itm)):off (qS ss) ss.length=ss.flatten.length:=by have:=Qu.d5 (qS ss);rw [gM,ao,se] at this;exact this.symm
theorem aah {H:AH} {ss:List (List Itm)} {vs:AV} (hs:cT H ss vs) (hfew:ss.flatten.length<=1000) (hev:∀ l∈ss,∀ x∈l,x.kind=3∨x.kind=4->0<=x.ev) :
   ∃ iv av K,Ev aa C0 W0 42 [vs] H=some (.agg [iv,av],K)/\Sub H K/\H.length<=K.length/\eD K ss.flatten iv/\m8 K (aft (qS ss)) av/\(iv.cells=[iv]/\iv.one=true)/\(av.cells=[av]/\av.one=true)/\((iv=.nilSlice/\ss.flatten.length=0)∨∃ b,iv=.slice b 0 9 ss.flatten.length ss.flatten.length false):=by
 obtain ⟨tm,ht,g0,g1⟩:=tm1 vs 111 (by decide);rw [ade,ht];have hln:=hs.len;have hG:Sub H (H++[.cells [.nilSlice,.nilSlice] 93]):=(an.app H _).sub;have hput:∀ o,put none H o=some (H.length,H++[o]):=fun _=>rfl;simp -implicitDefEqProofs only [c42,f42,aP,g0,g1,hln,z93,hput,↓lJ,↓zzC,zzE,sevalprocAttr];generalize hX:EvC aa C0 W0 jb _ _=Z;have hout:∀ (tm:List AV) (K:AH) (Z:Option (bk × St)),EvC aa C0 W0 jb Gg (tm,K)=Z->(tm.length=111/\tm.getD 2 uA=.ptr H.length 0/\tm.getD 3 uA=.ptr (H.length+1) 0/\tm.getD 4 uA=.map (H.length+2)/\tm.getD 14 uA=vs/\tm.getD 15 uA=I ss.length/\tm.getD 16 uA=I ((0:Nat):Int)/\(∃ iv av ws mv l,eV (H++[.cells [.nilSlice,.nilSlice] 93]) K (H.length+1) (H.length+2) iv av ws mv l (A1 (qS ss) (off (qS ss) (0))) (R1 (qS ss) (off (qS ss) (0)))/\l.map (·.1)=ss.flatten.take (off (qS ss) (0))/\∀ q∈l,SlS 32 1 H q.2 (q.1.args.map dH)))->∃ X K1,Z=some (.exit 0,(X,K1))/\(X.length=111/\X.getD 2 uA=.ptr H.length 0/\X.getD 3 uA=.ptr (H.length+1) 0/\X.getD 4 uA=.map (H.length+2)/\X.getD 14 uA=vs/\X.getD 15 uA=I ss.length/\X.getD 16 uA=I ((ss.length:Nat):Int)/\(∃ iv av ws mv l,eV (H++[.cells [.nilSlice,.nilSlice] 93]) K1 (H.length+1) (H.length+2) iv av ws mv l (A1 (qS ss) (off (qS ss) (ss.length))) (R1 (qS ss) (off (qS ss) (ss.length)))/\l.map (·.1)=ss.flatten.take (off (qS ss) (ss.length))/\∀ q∈l,SlS 32 1 H q.2 (q.1.args.map dH))):=fun tm K Z hZ hI=>by subst hZ;exact U2 hG hs hfew (fun l hl x hx hk=>hev l hl x hx (.inl hk)) _ 0 tm K rfl (aV _) hI
 obtain ⟨X,K1,he,hXl,x2,x3,x4,x14,x15,x16,iv,av,ws,mv,l,hP,hl,ha⟩:=hout _ _ _ hX ⟨by simp only [ls,g0],Aj5 (by simp only [g0,g1,gB,and_self,sevalprocAttr]) ⟨by simp only [g0,gB,sevalprocAttr]; try rfl,.nilSlice,.nilSlice,[],fun _=>.nilSlice,[],QB H,rfl,fun q hq=>by cases hq⟩⟩;subst he;rw [Be] at hP hl;rw [List.take_length] at hl;have hNq:(qS ss).flatten.length=ss.flatten.length:=by rw [gM,ao]
 have hll:l.length=ss.flatten.length:=by rw [<-hl,ao]
 rw [show A1 (qS ss) ss.flatten.length=A2 (qS ss) 0 from by rw [<-hNq]; exact WS _] at hP;have hr0:=hP.rp [] 0 rfl;rw [af] at hr0;have hli:∀ G,d4 aa 31 G iv=some (I ((ss.flatten.length:Nat):Int)):=fun G=>by have:=(hP.oi.own.mJ mV (by decide) (fu l)).len G;rwa [ao,hll] at this
 simp -implicitDefEqProofs only [c42,f42,aP,hXl,x2,x3,x4,hr0,hli,qd,↓zzC,zzE,sevalprocAttr];generalize hY:EvC aa C0 W0 jb _ _=Z;have hwa:∀ (tm:List AV) (K:AH) (Z:Option (bk × St)),EvC aa C0 W0 jb Cy (tm,K)=Z->(tm.length=111/\tm.getD 2 uA=.ptr H.length 0/\tm.getD 3 uA=.ptr (H.length+1) 0/\tm.getD 4 uA=.map (H.length+2)/\tm.getD 73 uA=iv/\tm.getD 74 uA=I (ss.flatten.length:Nat)/\tm.getD 75 uA=I ((0:Nat):Int)/\∃ av ws mv,eV (H++[.cells [.nilSlice,.nilSlice] 93]) K (H.length+1) (H.length+2) iv av ws mv l (A2 (qS ss) (0)) (R1 (qS ss) ss.flatten.length))->∃ X K1,Z=some (.exit 4,(X,K1))/\(X.length=111/\X.getD 2 uA=.ptr H.length 0/\X.getD 3 uA=.ptr (H.length+1) 0/\X.getD 4 uA=.map (H.length+2)/\X.getD 73 uA=iv/\X.getD 74 uA=I (ss.flatten.length:Nat)/\X.getD 75 uA=I ((ss.flatten.length:Nat):Int)/\∃ av ws mv,eV (H++[.cells [.nilSlice,.nilSlice] 93]) K1 (H.length+1) (H.length+2) iv av ws mv l (A2 (qS ss) (ss.flatten.length)) (R1 (qS ss) ss.flatten.length)):=fun tm K Z hZ hI=>by subst hZ;exact Lb hl hfew (fun q hq=>⟨(ha q hq).cells,(ha q hq).one⟩) (fun x hx hk=>by obtain ⟨xs,h1,h2⟩:=Ji.1 hx;exact hev xs h1 x h2 (.inr hk)) _ 0 tm K rfl (aV _) hI
 obtain ⟨Y,K2,he,hYl,y2,y3,y4,y73,y74,y75,av2,ws2,mv2,hP2⟩:=hwa _ _ _ hY ⟨by simp only [ls,hXl],Aj5 (by simp only [hXl,x2,x3,x4,gB,and_self,sevalprocAttr]) ⟨by simp only [hXl,gB,sevalprocAttr]; try rfl,av,ws,mv,hP⟩⟩;subst he;rw [show A2 (qS ss) ss.flatten.length=aft (qS ss) from by rw [<-hNq]; exact WQ _] at hP2;have hp2:ak K2 (H.length+1) 0 2=some [iv,av2]:=by unfold ak; rw [hP2.hp]; rfl
 have hq2:K2[H.length]? =some (.cells [.nilSlice,.nilSlice] 93):=hP2.sub H.length _ (by rw [al (aw _),d9]; rfl) (by simp);have hic:=hP2.oi.cells;have hac:=hP2.oa.cells;have hic1:=hic.1;have hic2:=hic.2;have hac1:=hac.1;have hac2:=hac.2;have hq2l:=aI hq2;have hwr:bj K2 H.length 0 [iv,av2]=some (K2.set H.length (.cells [iv,av2] 93)):=by have:=iF hq2 (k:=0) (xs:=[iv,av2]) (by simp) (by simp [hic2,hac2]) [];rw [af,af] at this;rw [this]; rfl
 have hrq:ak (K2.set H.length (.cells [iv,av2] 93)) H.length 0 2=some [iv,av2]:=by unfold ak; rw [List.getElem?_set_self hq2l]; rfl
 simp -implicitDefEqProofs only [c42,f42,aP,hYl,y2,y3,hp2,EX,Ux,↓hic1,↓hac1,hwr,acp,hrq,↓zzC,zzE,sevalprocAttr];have hkp:∀ c,c≠H.length->(K2.set H.length (.cells [iv,av2] 93))[c]? =K2[c]?:=fun c hc=>List.getElem?_set_ne (Ne.symm hc);have hS0:(H++[bm.cells [.nilSlice,.nilSlice] 93])[H.length]? =some (.cells [.nilSlice,.nilSlice] 93):=by rw [al (aw _),d9]; rfl
 have hne:∀ a i,cF (plF iv av2 ws2 mv2 l (aft (qS ss)) (R1 (qS ss) ss.flatten.length) a i).1≠some H.length:=fun a i e=>(hP2.ow.own a i _ e).1.ne hS0 (by simp) rfl;have hsub:Sub H (K2.set H.length (.cells [iv,av2] 93)):=((an.app H [bm.cells [.nilSlice,.nilSlice] 93]).sub.trans hP2.sub).m3 (tJ (aw _)) _;have hb3:Sub (H++[.cells [.nilSlice,.nilSlice] 93]) K2:=hP2.sub;have hargs:∀ q∈l,SlS 32 1 (K2.set H.length (.cells [iv,av2] 93)) q.2 (q.1.args.map dH):=fun q hq=>(ha q hq).sub hsub;refine ⟨iv,av2,_,rfl,hsub,by rw [List.length_set]; omega,?_,?_,hic,hac,?_⟩
 · obtain ⟨f1,f2,f3,f4⟩:=IA hs hfew;have oi:=hP2.oi.lQ (K':=K2.set H.length (.cells [iv,av2] 93)) fun i hi=>hkp i fun e=>hne 0 0 (by rw [<-e]; exact hi);exact ⟨⟨l,hl,oi.own.mJ mV (by decide) (fu l),hargs⟩,f1,f2,f3,f4⟩
 · have oa:=hP2.oa.lQ (K':=K2.set H.length (.cells [iv,av2] 93)) fun i hi=>hkp i fun e=>hne 1 0 (by rw [<-e]; exact hi);refine ⟨ws2,hP2.lw,?_,fun i hi=>?_⟩
   · refine Own.mJ (elem:=30) (b:=0) YQ (by decide) (rows:=ws2.map fun w=>[w]) ?_ (fun r hr=>by obtain ⟨w,_,rfl⟩:=bI.1 hr; rfl);rw [show (ws2.map fun w=>[w]).flatten=ws2 from by have:=qb (fun w:AV=>w) ws2;simpa using this];exact oa.own
   · have ow:=(hP2.ow2 i).lQ (K':=K2.set H.length (.cells [iv,av2] 93)) fun j hj=>hkp j fun e=>hne 2 i (by rw [<-e]; exact hj);have hw:ws2.getD i uA=ws2.getD i .nilSlice:=by
       have:i < ws2.length:=by rw [hP2.lw]; exact hi
       rw [d6 this,d6 this]
     rw [hw];exact ow.own.ints
 · have ho:=hP2.oi;have hfl:=d5 (fu l);rw [ao,hll] at hfl;rcases ho with ⟨e1,e2⟩ | ⟨b,n,e1,e2,e3⟩
   · left;rw [e2,List.length_nil] at hfl;exact ⟨e1,by omega⟩
   · right;refine ⟨b,?_⟩;rw [e1];have:n=ss.flatten.length:=by omega
     rw [this]
end Go.Dv
