/- Part 30 of the walks (own work). -/
import Derived.Test.YtilpjnckfkjkbaaGreatDoorZ29
set_option maxRecDepth 100000
set_option maxHeartbeats 4000000
set_option linter.unusedSimpArgs false
set_option linter.unusedVariables false
namespace Go.Dv
open Go.Proofs
attribute [local congr] bind_congr_first cb_congr condA_congr gd_congr br_congr
open Qu (off item? isRecB recs nxt aft aftTo)
theorem pl_item {S0 G0:AH} (hG:Sub G0 S0) {ss:List (List Itm)} {vs:AV} {p mb q:Nat} {w:AV} {i:Nat} (hx:ItmsR G0 (strAt ss i) w) (hfew:ss.flatten.length<=1000) (hev:∀ x∈strAt ss i,x.kind=3->0<=x.ev) {j:Nat} (hj:j < (strAt ss i).length) {tm:List AV} {K:AH} (hI:tm.length=111/\tm.getD 2 uA=.ptr q 0/\tm.getD 3 uA=.ptr p 0/\tm.getD 4 uA=.map mb/\tm.getD 14 uA=vs/\tm.getD 15 uA=I ss.length/\tm.getD 16 uA=I ((i:Nat):Int)/\tm.getD 20 uA=w/\tm.getD 21 uA=I (strAt ss i).length/\tm.getD 22 uA=I ((j:Nat):Int)/\(∃ iv av ws mv l,PlnR S0 K p mb iv av ws mv l (A1 (qS ss) (off (qS ss) i+j)) (R1 (qS ss) (off (qS ss) i+j))/\l.map (·.1)=ss.flatten.take (off (qS ss) i+j)/\∀ q∈l,SlS 32 1 G0 q.2 (q.1.args.map row1))) :
   ∃ tm' K',EvC Tryz.prog C0 W0 pl42 l42_0 (tm,K)=EvC Tryz.prog C0 W0 pl42 l42_0 (tm',K')/\tm'.length=111/\tm'.getD 2 uA=.ptr q 0/\tm'.getD 3 uA=.ptr p 0/\tm'.getD 4 uA=.map mb/\tm'.getD 14 uA=vs/\tm'.getD 15 uA=I ss.length/\tm'.getD 16 uA=I ((i:Nat):Int)/\tm'.getD 20 uA=w/\tm'.getD 21 uA=I (strAt ss i).length/\tm'.getD 22 uA=I (((j+1):Nat):Int)/\(∃ iv av ws mv l,PlnR S0 K' p mb iv av ws mv l (A1 (qS ss) (off (qS ss) i+(j+1))) (R1 (qS ss) (off (qS ss) i+(j+1)))/\l.map (·.1)=ss.flatten.take (off (qS ss) i+(j+1))/\∀ q∈l,SlS 32 1 G0 q.2 (q.1.args.map row1)):=by
 obtain ⟨hlen,h2,h3,h4,h14,h15,h16,h20,h21,h22,iv,av,ws,mv,l,hP,hl,ha⟩:=hI
 have hlt:ltB (j:Int) ((strAt ss i).length:Nat)=true:=ltB_t (by omega)
 have hxn:=hx.n
 have hw:=inc_i (j:=j) (by omega)
 obtain ⟨i0,k0,va,hix,hrd,hsa⟩:=hx.atS (hG.trans hP.sub) hj
 have hit:=item_qS hj
 have htk:=take_flat hj
 have hfl:=Qu.flat_at (qS ss) i j _ hit
 have hcf:off (qS ss) i+j < ss.flatten.length:=by
   have:=lt_of_get hfl
   rwa [qS_flat,List.length_map] at this
 have hev':=hev _ (itmAt_mem hj)
 have hac:=hsa.cells
 have hao:=hsa.one
 have hll:l.length=off (qS ss) i+j:=by
   have:=congrArg List.length hl
   rw [List.length_map,List.length_take] at this; omega
 have hr0:∀ L,rdCells (K++L) p 0 1=some [iv]:=fun L=>hP.rp L 0 rfl
 have hli:∀ G,lenA Tryz.prog 31 G iv=some (I ((off (qS ss) i+j:Nat):Int)):=fun G=>by
   have:=(hP.oi.own.slsG ix31T (by decide) (xrow_len l)).len G
   rwa [List.length_map,hll] at this
 generalize itmAt (strAt ss i) j=x at *
 simp only [rowX] at hrd
 rw [el42_0]
 rw [<-List.append_nil K]
 simp -implicitDefEqProofs only [b42_0,Tryz.f42,aP,hlen,h3,h20,h21,h22,hlt,hix,hrd,z34w,st34,↓hac,↓hao,show ∀ o,put none K o=some (K.length,K++[o]) from fun _=>rfl,hr0,hli,fa93_0,r5,↓evLd,nck,↓cbT,↓cbF,↓evDn,evUp,eu,reduceCtorEq,reduceIte,Nat.reduceLT,Nat.reduceEqDiff,Nat.reduceAdd,Nat.reduceLeDiff]
 generalize hR:EvC Tryz.prog C0 W0 pl42 (Code.region 10 _ _) _=Z10
 obtain ⟨t,K1,iv1,av1,e1,tl,tlow,P1⟩:=reg42_10 (hP.pad (.cells (rowX x va) 34)) hR (by simp only [ls,hlen]) (by simp only [hlen,h3,gB,sevalprocAttr]) (c:=K.length) (x:=x) (va:=va) (by simp only [hlen,gB,sevalprocAttr]) (padS_self hP.ow.sl) hac hao (by omega) (by rw [A1_len]; omega)
 subst e1
 have b2:t.getD 2 uA=.ptr q 0:=(tlow 2 (by decide)).trans (by simp only [hlen,h2,gB,sevalprocAttr])
 have b3:t.getD 3 uA=.ptr p 0:=(tlow 3 (by decide)).trans (by simp only [hlen,h3,gB,sevalprocAttr])
 have b4:t.getD 4 uA=.map mb:=(tlow 4 (by decide)).trans (by simp only [hlen,h4,gB,sevalprocAttr])
 have b14:t.getD 14 uA=vs:=(tlow 14 (by decide)).trans (by simp only [hlen,h14,gB,sevalprocAttr])
 have b15:t.getD 15 uA=I ss.length:=(tlow 15 (by decide)).trans (by simp only [hlen,h15,gB,sevalprocAttr])
 have b16:t.getD 16 uA=I ((i:Nat):Int):=(tlow 16 (by decide)).trans (by simp only [hlen,h16,gB,sevalprocAttr])
 have b20:t.getD 20 uA=w:=(tlow 20 (by decide)).trans (by simp only [hlen,h20,gB,sevalprocAttr])
 have b21:t.getD 21 uA=I (strAt ss i).length:=(tlow 21 (by decide)).trans (by simp only [hlen,h21,gB,sevalprocAttr])
 have b7:t.getD 7 uA=I ((j:Nat):Int):=(tlow 7 (by decide)).trans (by simp only [hlen,gB,sevalprocAttr])
 have b8:t.getD 8 uA=.ptr K.length 0:=(tlow 8 (by decide)).trans (by simp only [hlen,gB,sevalprocAttr])
 have b9:t.getD 9 uA=I ((off (qS ss) i+j:Nat):Int):=(tlow 9 (by decide)).trans (by simp only [hlen,gB,sevalprocAttr])
 have b22:t.getD 22 uA=I ((j:Nat):Int):=(tlow 22 (by decide)).trans (by simp only [hlen,h22,gB,sevalprocAttr])
 have hsc:(padS S0 K.length (.cells (rowX x va) 34))[K.length]? =some (.cells (rowX x va) 34):=padS_self hP.ow.sl
 have hk0:∀ G,Sub (padS S0 K.length (.cells (rowX x va) 34)) G->rdCells G K.length 0 1=some [I x.kind]:=fun G hG=>hG.rd (by unfold rdCells; rw [hsc]; rfl)
 have hk1:=hk0 K1 P1.sub
 have hback:Sub S0 (padS S0 K.length (.cells (rowX x va) 34)):=padS_sub.sub
 have hbl:S0.length<=(padS S0 K.length (.cells (rowX x va) 34)).length:=padS_sub.len
 have hlF:(l++[(x,va)]).map (·.1)=ss.flatten.take (off (qS ss) i+(j+1)):=by
   rw [List.map_append,hl,<-Nat.add_assoc,htk]; rfl
 have haF:∀ q∈l++[(x,va)],SlS 32 1 G0 q.2 (q.1.args.map row1):=fun q hq=>by
   rcases List.mem_append.1 hq with c | c
   · exact ha q c
   · rw [List.mem_singleton] at c; subst c; exact hsa
 have hRn:x.kind≠3->R1 (qS ss) (off (qS ss) i+j)=R1 (qS ss) (off (qS ss) i+(j+1)):=fun hk=>funext fun e=>by
   rw [<-Nat.add_assoc,R1_step hit,if_neg fun c=>hk c.1]
 have hRy:x.kind=3->(fun e=>if e=x.ev.toNat then R1 (qS ss) (off (qS ss) i+j) x.ev.toNat++[off (qS ss) i+j] else R1 (qS ss) (off (qS ss) i+j) e)=R1 (qS ss) (off (qS ss) i+(j+1)):=fun hk=>funext fun e=>by
   have:=hev' hk
   rw [<-Nat.add_assoc,R1_step hit]
   by_cases c:e=x.ev.toNat
   · subst c
     rw [if_pos rfl,if_pos ⟨hk,by show x.ev=_; omega⟩]
   · rw [if_neg c,if_neg fun d=>c (by have:x.ev=(e:Int):=d.2; omega)]
 cases j with
 | zero =>
   have hgt:ltB 0 ((0:Nat):Int)=false:=rfl
   have hA0:A1 (qS ss) (off (qS ss) i+0)++[[]]=A1 (qS ss) (off (qS ss) i+(0+1)):=(A1_step0 hit).symm
   rw [hA0] at P1
   cases hk:eqB x.kind 3 with
   | false =>
     have hkn:x.kind≠3:=fun c=>by rw [c] at hk; cases hk
     simp -implicitDefEqProofs only [b42_0,Tryz.f42,aP,tl,b2,b3,b4,b7,b8,b9,b14,b15,b16,b20,b21,b22,hk,hk1,hgt,hw,r5,↓evLd,nck,↓cbT,↓cbF,↓evDn,evUp,eu,reduceCtorEq,reduceIte,Nat.reduceLT,Nat.reduceEqDiff,Nat.reduceAdd,Nat.reduceLeDiff]
     rw [hRn hkn] at P1
     refine ⟨_,_,rfl,by simp only [ls,tl],Aj9 (by simp only [tl,b2,b3,b4,b14,b15,b16,b20,b21,gB,and_self,sevalprocAttr]) ⟨_,_,_,_,_,P1.less hback hbl,hlF,haF⟩⟩
   | true =>
     have hky:x.kind=3:=(eqB_iff _ _).1 hk
     simp -implicitDefEqProofs only [b42_0,Tryz.f42,aP,tl,b2,b3,b4,b7,b8,b9,b14,b15,b16,b20,b21,b22,hk,hk1,hgt,hw,r5,↓evLd,nck,↓cbT,↓cbF,↓evDn,evUp,eu,reduceCtorEq,reduceIte,Nat.reduceLT,Nat.reduceEqDiff,Nat.reduceAdd,Nat.reduceLeDiff]
     generalize hR:EvC Tryz.prog C0 W0 pl42 (Code.region 14 _ _) _=Z14
     obtain ⟨u,K3,mv3,e3,ul,ulow,P3⟩:=reg42_14 P1 hR (by simp only [ls,tl]) (by simp only [tl,b4,gB,sevalprocAttr]) (c:=K.length) (x:=x) (va:=va) (by simp only [tl,b8,gB,sevalprocAttr]) hsc (e:=x.ev.toNat) (j:=off (qS ss) i+0) (by have:=hev' hky; omega) (by simp only [tl,b9,gB,sevalprocAttr]) (Nat.le_trans (R1_le _ _ _) (by omega))
     subst e3
     have u2:u.getD 2 uA=.ptr q 0:=(ulow 2 (by decide)).trans (by simp only [tl,b2,gB,sevalprocAttr])
     have u3:u.getD 3 uA=.ptr p 0:=(ulow 3 (by decide)).trans (by simp only [tl,b3,gB,sevalprocAttr])
     have u4:u.getD 4 uA=.map mb:=(ulow 4 (by decide)).trans (by simp only [tl,b4,gB,sevalprocAttr])
     have u14:u.getD 14 uA=vs:=(ulow 14 (by decide)).trans (by simp only [tl,b14,gB,sevalprocAttr])
     have u15:u.getD 15 uA=I ss.length:=(ulow 15 (by decide)).trans (by simp only [tl,b15,gB,sevalprocAttr])
     have u16:u.getD 16 uA=I ((i:Nat):Int):=(ulow 16 (by decide)).trans (by simp only [tl,b16,gB,sevalprocAttr])
     have u20:u.getD 20 uA=w:=(ulow 20 (by decide)).trans (by simp only [tl,b20,gB,sevalprocAttr])
     have u21:u.getD 21 uA=I (strAt ss i).length:=(ulow 21 (by decide)).trans (by simp only [tl,b21,gB,sevalprocAttr])
     have u22:u.getD 22 uA=I ((0:Nat):Int):=(ulow 22 (by decide)).trans (by simp only [tl,b22,gB,sevalprocAttr])
     simp -implicitDefEqProofs only [b42_0,Tryz.f42,aP,ul,u2,u3,u4,u14,u15,u16,u20,u21,u22,hw,r5,↓evLd,nck,↓cbT,↓cbF,↓evDn,evUp,eu,reduceCtorEq,reduceIte,Nat.reduceLT,Nat.reduceEqDiff,Nat.reduceAdd,Nat.reduceLeDiff]
     rw [hRy hky] at P3
     refine ⟨_,_,rfl,by simp only [ls,ul],Aj9 (by simp only [ul,u2,u3,u4,u14,u15,u16,u20,u21,gB,and_self,sevalprocAttr]) ⟨_,_,_,_,_,P3.less hback hbl,hlF,haF⟩⟩
 | succ j =>
   have hgt:ltB 0 ((j+1:Nat):Int)=true:=ltB_t (by omega)
   simp -implicitDefEqProofs only [b42_0,Tryz.f42,aP,tl,b2,b3,b4,b7,b8,b9,b14,b15,b16,b20,b21,b22,hgt,r5,↓evLd,nck,↓cbT,↓cbF,↓evDn,evUp,eu,reduceCtorEq,reduceIte,Nat.reduceLT,Nat.reduceEqDiff,Nat.reduceAdd,Nat.reduceLeDiff]
   generalize hR:EvC Tryz.prog C0 W0 pl42 (Code.region 12 _ _) _=Z12
   obtain ⟨v,K2,ws2,e2,vl,vlow,P2⟩:=reg42_12 P1 hR (by simp only [ls,tl]) (by simp only [tl,b3,gB,sevalprocAttr]) (n:=off (qS ss) i+j) (by simp only [tl,b9,gB,sevalprocAttr]; try rfl) (by rw [List.length_append,A1_len,List.length_singleton]; omega) (by rw [List.length_append,A1_len,List.length_singleton]; omega) (by rw [<-Nat.add_assoc,A1_last]; simp)
   subst e2
   rw [<-A1_stepS hit] at P2
   have hk2:=hk0 K2 P2.sub
   have v2:v.getD 2 uA=.ptr q 0:=(vlow 2 (by decide)).trans (by simp only [tl,b2,gB,sevalprocAttr])
   have v3:v.getD 3 uA=.ptr p 0:=(vlow 3 (by decide)).trans (by simp only [tl,b3,gB,sevalprocAttr])
   have v4:v.getD 4 uA=.map mb:=(vlow 4 (by decide)).trans (by simp only [tl,b4,gB,sevalprocAttr])
   have v14:v.getD 14 uA=vs:=(vlow 14 (by decide)).trans (by simp only [tl,b14,gB,sevalprocAttr])
   have v15:v.getD 15 uA=I ss.length:=(vlow 15 (by decide)).trans (by simp only [tl,b15,gB,sevalprocAttr])
   have v16:v.getD 16 uA=I ((i:Nat):Int):=(vlow 16 (by decide)).trans (by simp only [tl,b16,gB,sevalprocAttr])
   have v20:v.getD 20 uA=w:=(vlow 20 (by decide)).trans (by simp only [tl,b20,gB,sevalprocAttr])
   have v21:v.getD 21 uA=I (strAt ss i).length:=(vlow 21 (by decide)).trans (by simp only [tl,b21,gB,sevalprocAttr])
   have v7:v.getD 7 uA=I ((j+1:Nat):Int):=(vlow 7 (by decide)).trans (by simp only [tl,b7,gB,sevalprocAttr])
   have v8:v.getD 8 uA=.ptr K.length 0:=(vlow 8 (by decide)).trans (by simp only [tl,b8,gB,sevalprocAttr])
   have v9:v.getD 9 uA=I ((off (qS ss) i+(j+1):Nat):Int):=(vlow 9 (by decide)).trans (by simp only [tl,b9,gB,sevalprocAttr])
   have v22:v.getD 22 uA=I ((j+1:Nat):Int):=(vlow 22 (by decide)).trans (by simp only [tl,b22,gB,sevalprocAttr])
   cases hk:eqB x.kind 3 with
   | false =>
     have hkn:x.kind≠3:=fun c=>by rw [c] at hk; cases hk
     simp -implicitDefEqProofs only [b42_0,Tryz.f42,aP,vl,v2,v3,v4,v7,v8,v9,v14,v15,v16,v20,v21,v22,hk,hk2,hw,r5,↓evLd,nck,↓cbT,↓cbF,↓evDn,evUp,eu,reduceCtorEq,reduceIte,Nat.reduceLT,Nat.reduceEqDiff,Nat.reduceAdd,Nat.reduceLeDiff]
     rw [hRn hkn] at P2
     refine ⟨_,_,rfl,by simp only [ls,vl],Aj9 (by simp only [vl,v2,v3,v4,v14,v15,v16,v20,v21,gB,and_self,sevalprocAttr]) ⟨_,_,_,_,_,P2.less hback hbl,hlF,haF⟩⟩
   | true =>
     have hky:x.kind=3:=(eqB_iff _ _).1 hk
     simp -implicitDefEqProofs only [b42_0,Tryz.f42,aP,vl,v2,v3,v4,v7,v8,v9,v14,v15,v16,v20,v21,v22,hk,hk2,hw,r5,↓evLd,nck,↓cbT,↓cbF,↓evDn,evUp,eu,reduceCtorEq,reduceIte,Nat.reduceLT,Nat.reduceEqDiff,Nat.reduceAdd,Nat.reduceLeDiff]
     generalize hR:EvC Tryz.prog C0 W0 pl42 (Code.region 14 _ _) _=Z14
     obtain ⟨u,K3,mv3,e3,ul,ulow,P3⟩:=reg42_14 P2 hR (by simp only [ls,vl]) (by simp only [vl,v4,gB,sevalprocAttr]) (c:=K.length) (x:=x) (va:=va) (by simp only [vl,v8,gB,sevalprocAttr]) hsc (e:=x.ev.toNat) (j:=off (qS ss) i+(j+1)) (by have:=hev' hky; omega) (by simp only [vl,v9,gB,sevalprocAttr]) (Nat.le_trans (R1_le _ _ _) (by omega))
     subst e3
     have u2:u.getD 2 uA=.ptr q 0:=(ulow 2 (by decide)).trans (by simp only [vl,v2,gB,sevalprocAttr])
     have u3:u.getD 3 uA=.ptr p 0:=(ulow 3 (by decide)).trans (by simp only [vl,v3,gB,sevalprocAttr])
     have u4:u.getD 4 uA=.map mb:=(ulow 4 (by decide)).trans (by simp only [vl,v4,gB,sevalprocAttr])
     have u14:u.getD 14 uA=vs:=(ulow 14 (by decide)).trans (by simp only [vl,v14,gB,sevalprocAttr])
     have u15:u.getD 15 uA=I ss.length:=(ulow 15 (by decide)).trans (by simp only [vl,v15,gB,sevalprocAttr])
     have u16:u.getD 16 uA=I ((i:Nat):Int):=(ulow 16 (by decide)).trans (by simp only [vl,v16,gB,sevalprocAttr])
     have u20:u.getD 20 uA=w:=(ulow 20 (by decide)).trans (by simp only [vl,v20,gB,sevalprocAttr])
     have u21:u.getD 21 uA=I (strAt ss i).length:=(ulow 21 (by decide)).trans (by simp only [vl,v21,gB,sevalprocAttr])
     have u22:u.getD 22 uA=I ((j+1:Nat):Int):=(ulow 22 (by decide)).trans (by simp only [vl,v22,gB,sevalprocAttr])
     simp -implicitDefEqProofs only [b42_0,Tryz.f42,aP,ul,u2,u3,u4,u14,u15,u16,u20,u21,u22,hw,r5,↓evLd,nck,↓cbT,↓cbF,↓evDn,evUp,eu,reduceCtorEq,reduceIte,Nat.reduceLT,Nat.reduceEqDiff,Nat.reduceAdd,Nat.reduceLeDiff]
     rw [hRy hky] at P3
     refine ⟨_,_,rfl,by simp only [ls,ul],Aj9 (by simp only [ul,u2,u3,u4,u14,u15,u16,u20,u21,gB,and_self,sevalprocAttr]) ⟨_,_,_,_,_,P3.less hback hbl,hlF,haF⟩⟩
end Go.Dv
namespace Go.Dv
open Go.Proofs
attribute [local congr] bind_congr_first cb_congr condA_congr gd_congr br_congr
open Qu (off item? isRecB recs nxt aft aftTo)
theorem pl_in {S0 G0:AH} (hG:Sub G0 S0) {ss:List (List Itm)} {vs:AV} {p mb q:Nat} {w:AV} {i:Nat} (hx:ItmsR G0 (strAt ss i) w) (hfew:ss.flatten.length<=1000) (hev:∀ x∈strAt ss i,x.kind=3->0<=x.ev):∀ (d j:Nat) (tm:List AV) (K:AH),(strAt ss i).length - j=d->j<=(strAt ss i).length->(tm.length=111/\tm.getD 2 uA=.ptr q 0/\tm.getD 3 uA=.ptr p 0/\tm.getD 4 uA=.map mb/\tm.getD 14 uA=vs/\tm.getD 15 uA=I ss.length/\tm.getD 16 uA=I ((i:Nat):Int)/\tm.getD 20 uA=w/\tm.getD 21 uA=I (strAt ss i).length/\tm.getD 22 uA=I ((j:Nat):Int)/\(∃ iv av ws mv l,PlnR S0 K p mb iv av ws mv l (A1 (qS ss) (off (qS ss) i+j)) (R1 (qS ss) (off (qS ss) i+j))/\l.map (·.1)=ss.flatten.take (off (qS ss) i+j)/\∀ q∈l,SlS 32 1 G0 q.2 (q.1.args.map row1))) ->
   ∃ X K1,EvC Tryz.prog C0 W0 pl42 l42_0 (tm,K)=some (.exit 2,(X,K1))/\(X.length=111/\X.getD 2 uA=.ptr q 0/\X.getD 3 uA=.ptr p 0/\X.getD 4 uA=.map mb/\X.getD 14 uA=vs/\X.getD 15 uA=I ss.length/\X.getD 16 uA=I ((i:Nat):Int)/\X.getD 20 uA=w/\X.getD 21 uA=I (strAt ss i).length/\X.getD 22 uA=I (((strAt ss i).length:Nat):Int)/\(∃ iv av ws mv l,PlnR S0 K1 p mb iv av ws mv l (A1 (qS ss) (off (qS ss) i+(strAt ss i).length)) (R1 (qS ss) (off (qS ss) i+(strAt ss i).length))/\l.map (·.1)=ss.flatten.take (off (qS ss) i+(strAt ss i).length)/\∀ q∈l,SlS 32 1 G0 q.2 (q.1.args.map row1))):=by
 intro d
 induction d with
 | zero =>
   intro j tm K hd hj hI
   have hjl:j=(strAt ss i).length:=by omega
   subst hjl
   obtain ⟨hlen,h2,h3,h4,h14,h15,h16,h20,h21,h22,hP⟩:=hI
   have hlt:ltB (((strAt ss i).length:Nat):Int) ((strAt ss i).length:Nat)=false:=ltB_f (by omega)
   rw [el42_0]
   simp -implicitDefEqProofs only [b42_0,Tryz.f42,aP,hlen,h3,h20,h21,h22,hlt,↓cbT,↓cbF,↓evDn,evUp,eu,sevalprocAttr]
   exact ⟨_,K,rfl,by simp only [ls,hlen],Aj9 (by simp only [hlen,h2,h3,h4,h14,h15,h16,h20,h21,h22,gB,and_self,sevalprocAttr]) hP⟩
 | succ d ih =>
   intro j tm K hd hj hI
   obtain ⟨tm',K',he,hI'⟩:=pl_item hG hx hfew hev (by omega) hI
   obtain ⟨X,K1,h1,h2⟩:=ih (j+1) tm' K' (by omega) (by omega) hI'
   exact ⟨X,K1,he.trans h1,h2⟩
theorem pl_out {S0 G0:AH} (hG:Sub G0 S0) {ss:List (List Itm)} {vs:AV} {p mb q:Nat} (hs:StrsR G0 ss vs) (hfew:ss.flatten.length<=1000) (hev:∀ l∈ss,∀ x∈l,x.kind=3->0<=x.ev):∀ (d i:Nat) (tm:List AV) (K:AH),ss.length - i=d->i<=ss.length->(tm.length=111/\tm.getD 2 uA=.ptr q 0/\tm.getD 3 uA=.ptr p 0/\tm.getD 4 uA=.map mb/\tm.getD 14 uA=vs/\tm.getD 15 uA=I ss.length/\tm.getD 16 uA=I ((i:Nat):Int)/\(∃ iv av ws mv l,PlnR S0 K p mb iv av ws mv l (A1 (qS ss) (off (qS ss) (i))) (R1 (qS ss) (off (qS ss) (i)))/\l.map (·.1)=ss.flatten.take (off (qS ss) (i))/\∀ q∈l,SlS 32 1 G0 q.2 (q.1.args.map row1))) ->
   ∃ X K1,EvC Tryz.prog C0 W0 pl42 l42_1 (tm,K)=some (.exit 0,(X,K1))/\(X.length=111/\X.getD 2 uA=.ptr q 0/\X.getD 3 uA=.ptr p 0/\X.getD 4 uA=.map mb/\X.getD 14 uA=vs/\X.getD 15 uA=I ss.length/\X.getD 16 uA=I ((ss.length:Nat):Int)/\(∃ iv av ws mv l,PlnR S0 K1 p mb iv av ws mv l (A1 (qS ss) (off (qS ss) (ss.length))) (R1 (qS ss) (off (qS ss) (ss.length)))/\l.map (·.1)=ss.flatten.take (off (qS ss) (ss.length))/\∀ q∈l,SlS 32 1 G0 q.2 (q.1.args.map row1))):=by
 intro d
 induction d with
 | zero =>
   intro i tm K hd hi hI
   have hil:i=ss.length:=by omega
   subst hil
   obtain ⟨hlen,h2,h3,h4,h14,h15,h16,hP⟩:=hI
   have hlt:ltB ((ss.length:Nat):Int) (ss.length:Nat)=false:=ltB_f (by omega)
   rw [el42_1]
   simp -implicitDefEqProofs only [b42_1,Tryz.f42,aP,hlen,h3,h14,h15,h16,hlt,↓cbT,↓cbF,↓evDn,evUp,eu,sevalprocAttr]
   exact ⟨_,K,rfl,by simp only [ls,hlen],Aj6 (by simp only [hlen,h2,h3,h4,h14,h15,h16,gB,and_self,sevalprocAttr]) hP⟩
 | succ d ih =>
   intro i tm K hd hi hI
   have hil:i < ss.length:=by omega
   obtain ⟨hlen,h2,h3,h4,h14,h15,h16,iv,av,ws,mv,l,hP,hl,ha⟩:=hI
   have hlt:ltB (i:Int) (ss.length:Nat)=true:=ltB_t (by omega)
   have hsn:=hs.n
   have hw:=inc_i (j:=i) (by omega)
   obtain ⟨i0,k0,w,hix,hrd,hx⟩:=hs.atS (hG.trans hP.sub) hil
   have hln:=hx.len
   have hrd0:=hrd []
   rw [List.append_nil] at hrd0
   rw [el42_1]
   simp -implicitDefEqProofs only [b42_1,Tryz.f42,aP,hlen,h3,h14,h15,h16,hlt,hix,hrd0,hln,r5,↓evLd,nck,↓cbT,↓cbF,↓evDn,evUp,eu,sevalprocAttr]
   generalize hX:EvC Tryz.prog C0 W0 pl42 (Code.loop _) _=Z
   have hin:∀ (tm:List AV) (K:AH) (Z:Option (AExit × St)),EvC Tryz.prog C0 W0 pl42 l42_0 (tm,K)=Z->(tm.length=111/\tm.getD 2 uA=.ptr q 0/\tm.getD 3 uA=.ptr p 0/\tm.getD 4 uA=.map mb/\tm.getD 14 uA=vs/\tm.getD 15 uA=I ss.length/\tm.getD 16 uA=I ((i:Nat):Int)/\tm.getD 20 uA=w/\tm.getD 21 uA=I (strAt ss i).length/\tm.getD 22 uA=I ((0:Nat):Int)/\(∃ iv av ws mv l,PlnR S0 K p mb iv av ws mv l (A1 (qS ss) (off (qS ss) i+0)) (R1 (qS ss) (off (qS ss) i+0))/\l.map (·.1)=ss.flatten.take (off (qS ss) i+0)/\∀ q∈l,SlS 32 1 G0 q.2 (q.1.args.map row1)))->∃ X K1,Z=some (.exit 2,(X,K1))/\(X.length=111/\X.getD 2 uA=.ptr q 0/\X.getD 3 uA=.ptr p 0/\X.getD 4 uA=.map mb/\X.getD 14 uA=vs/\X.getD 15 uA=I ss.length/\X.getD 16 uA=I ((i:Nat):Int)/\X.getD 20 uA=w/\X.getD 21 uA=I (strAt ss i).length/\X.getD 22 uA=I (((strAt ss i).length:Nat):Int)/\(∃ iv av ws mv l,PlnR S0 K1 p mb iv av ws mv l (A1 (qS ss) (off (qS ss) i+(strAt ss i).length)) (R1 (qS ss) (off (qS ss) i+(strAt ss i).length))/\l.map (·.1)=ss.flatten.take (off (qS ss) i+(strAt ss i).length)/\∀ q∈l,SlS 32 1 G0 q.2 (q.1.args.map row1))):=fun tm K Z hZ hI=>by
     subst hZ
     exact pl_in hG hx hfew (hev _ (strAt_mem hil)) _ 0 tm K rfl (Nat.zero_le _) hI
   obtain ⟨X,K1,he,hXl,x2,x3,x4,x14,x15,x16,x20,x21,x22,hP1⟩:=hin _ _ _ hX ⟨by simp only [ls,hlen],by simp only [hlen,h2,gB,sevalprocAttr]; try rfl,by simp only [hlen,h3,gB,sevalprocAttr]; try rfl,by simp only [hlen,h4,gB,sevalprocAttr]; try rfl,by simp only [hlen,h14,gB,sevalprocAttr]; try rfl,by simp only [hlen,h15,gB,sevalprocAttr]; try rfl,by simp only [hlen,h16,gB,sevalprocAttr]; try rfl,by simp only [hlen,gB,sevalprocAttr]; try rfl,by simp only [hlen,gB,sevalprocAttr]; try rfl,by simp only [hlen,gB,sevalprocAttr]; try rfl,iv,av,ws,mv,l,hP,hl,ha⟩
   subst he
   have hoff:off (qS ss) i+(strAt ss i).length=off (qS ss) (i+1):=by
     rw [Qu.off_succ (by rw [qS_len]; exact hil),qS_getD,List.length_map]
   rw [hoff] at hP1
   simp -implicitDefEqProofs only [b42_1,Tryz.f42,aP,hXl,x2,x3,x4,x14,x15,x16,x20,x21,x22,hw,r5,↓evLd,nck,↓cbT,↓cbF,↓evDn,evUp,eu,sevalprocAttr]
   generalize hY:EvC Tryz.prog C0 W0 pl42 _ _=Z
   have hnx:∀ (tm:List AV) (K:AH) (Z:Option (AExit × St)),EvC Tryz.prog C0 W0 pl42 l42_1 (tm,K)=Z->(tm.length=111/\tm.getD 2 uA=.ptr q 0/\tm.getD 3 uA=.ptr p 0/\tm.getD 4 uA=.map mb/\tm.getD 14 uA=vs/\tm.getD 15 uA=I ss.length/\tm.getD 16 uA=I (((i+1):Nat):Int)/\(∃ iv av ws mv l,PlnR S0 K p mb iv av ws mv l (A1 (qS ss) (off (qS ss) ((i+1)))) (R1 (qS ss) (off (qS ss) ((i+1))))/\l.map (·.1)=ss.flatten.take (off (qS ss) ((i+1)))/\∀ q∈l,SlS 32 1 G0 q.2 (q.1.args.map row1)))->∃ X K1,Z=some (.exit 0,(X,K1))/\(X.length=111/\X.getD 2 uA=.ptr q 0/\X.getD 3 uA=.ptr p 0/\X.getD 4 uA=.map mb/\X.getD 14 uA=vs/\X.getD 15 uA=I ss.length/\X.getD 16 uA=I ((ss.length:Nat):Int)/\(∃ iv av ws mv l,PlnR S0 K1 p mb iv av ws mv l (A1 (qS ss) (off (qS ss) (ss.length))) (R1 (qS ss) (off (qS ss) (ss.length)))/\l.map (·.1)=ss.flatten.take (off (qS ss) (ss.length))/\∀ q∈l,SlS 32 1 G0 q.2 (q.1.args.map row1))):=fun tm K Z hZ hI=>by
     subst hZ
     exact ih (i+1) tm K (by omega) (by omega) hI
   exact hnx _ _ _ hY ⟨by simp only [ls,hXl],Aj6 (by simp only [hXl,x2,x3,x4,x14,x15,x16,gB,and_self,sevalprocAttr]) hP1⟩
end Go.Dv
namespace Go.Dv
open Go.Proofs
attribute [local congr] bind_congr_first cb_congr condA_congr gd_congr br_congr
open Qu (off item? isRecB recs nxt aft aftTo)
theorem pl_wait {S0:AH} {ss:List (List Itm)} {p mb q:Nat} {iv:AV} {l:List (Itm × AV)} (hl:l.map (·.1)=ss.flatten) (hfew:ss.flatten.length<=1000) (hargs:∀ q∈l,q.2.cells=[q.2]/\q.2.one=true) (hev:∀ x∈ss.flatten,x.kind=4->0<=x.ev) {j:Nat} (hj:j < ss.flatten.length) {tm:List AV} {K:AH} (hI:tm.length=111/\tm.getD 2 uA=.ptr q 0/\tm.getD 3 uA=.ptr p 0/\tm.getD 4 uA=.map mb/\tm.getD 73 uA=iv/\tm.getD 74 uA=I (ss.flatten.length:Nat)/\tm.getD 75 uA=I ((j:Nat):Int)/\∃ av ws mv,PlnR S0 K p mb iv av ws mv l (A2 (qS ss) (j)) (R1 (qS ss) ss.flatten.length)) :
   ∃ tm' K',EvC Tryz.prog C0 W0 pl42 l42_2 (tm,K)=EvC Tryz.prog C0 W0 pl42 l42_2 (tm',K')/\tm'.length=111/\tm'.getD 2 uA=.ptr q 0/\tm'.getD 3 uA=.ptr p 0/\tm'.getD 4 uA=.map mb/\tm'.getD 73 uA=iv/\tm'.getD 74 uA=I (ss.flatten.length:Nat)/\tm'.getD 75 uA=I (((j+1):Nat):Int)/\∃ av ws mv,PlnR S0 K' p mb iv av ws mv l (A2 (qS ss) ((j+1))) (R1 (qS ss) ss.flatten.length):=by
 obtain ⟨hlen,h2,h3,h4,h73,h74,h75,av,ws,mv,hP⟩:=hI
 have hlt:ltB (j:Int) (ss.flatten.length:Nat)=true:=ltB_t (by omega)
 have hw:=inc_i (j:=j) (by omega)
 have hNq:(qS ss).flatten.length=ss.flatten.length:=by rw [qS_flat,List.length_map]
 have hjl:j < l.length:=by rw [<-List.length_map (f:=(·.1)),hl]; exact hj
 have hpl:l[j]∈l:=List.getElem_mem hjl
 obtain ⟨hac,hao⟩:=hargs _ hpl
 have hfl:(qS ss).flatten[j]? =some (qi (l[j]).1):=by
   rw [qS_flat,<-hl,List.getElem?_map,List.getElem?_map,List.getElem?_eq_getElem hjl]; rfl
 have hsl:=Own.slsG ix31T (by decide) hP.oi.own (xrow_len l)
 obtain ⟨i0,k0,hix,hrd⟩:=hsl.ix j (xrow l[j]) (by rw [List.getElem?_map,List.getElem?_eq_getElem hjl]; rfl)
 have hrd:=fun L=>(Agree.app K L).sub.rd hrd
 have hevx:(l[j]).1.kind=4->0<=(l[j]).1.ev:=hev _ (by rw [<-hl]; exact List.mem_map_of_mem hpl)
 have hlkk:=fun e L=>hP.hm.get e L
 have hlnn:∀ (e:Nat) (G:AH),lenA Tryz.prog 30 G (mv e)=some (I ((R1 (qS ss) ss.flatten.length e).length:Nat)):=fun e G=>by
   have:=((hP.om e).own.ints (l:=R1 (qS ss) ss.flatten.length e)).len G
   rwa [show (ints (R1 (qS ss) ss.flatten.length e)).length=(R1 (qS ss) ss.flatten.length e).length from by simp [ints]] at this
 generalize l[j]=px at *
 obtain ⟨x,va⟩:=px
 simp only [xrow] at hrd
 rw [el42_2]
 rw [<-List.append_nil K]
 have hput:∀ o,put none K o=some (K.length,K++[o]):=fun _=>rfl
 cases hk:eqB x.kind 4 with
 | false =>
   have hkn:x.kind≠4:=(eqB_iff0 _ _).1 hk
   rw [show A2 (qS ss) (j+1)=A2 (qS ss) j from A2_miss hfl fun c=>hkn c.1]
   simp only [rowX] at hrd
   simp -implicitDefEqProofs only [b42_2,Tryz.f42,aP,hlen,h2,h3,h4,h73,h74,h75,hlt,hw,hix,hrd,z34w,st34,↓hac,↓hao,hput,hk,r5,↓evLd,nck,↓cbT,↓cbF,↓evDn,evUp,eu,sevalprocAttr]
   exact ⟨_,_,rfl,by simp only [ls,hlen],Aj6 (by simp only [hlen,h2,h3,h4,h73,h74,gB,and_self,sevalprocAttr]) ⟨av,ws,mv,hP.grow _⟩⟩
 | true =>
   have hky:x.kind=4:=(eqB_iff _ _).1 hk
   obtain ⟨e,he⟩:∃ e:Nat,x.ev=(e:Int):=⟨x.ev.toNat,by have:=hevx hky; simp only at this; omega⟩
   have hlk:=hlkk e
   have hln:=hlnn e
   cases hq:eqB ((R1 (qS ss) ss.flatten.length e).length:Nat) 1 with
   | false =>
     have hqn:=(eqB_iff0 _ _).1 hq
     rw [show A2 (qS ss) (j+1)=A2 (qS ss) j from A2_miss hfl fun c=>hqn (by
       have:=c.2
       rw [show (qi x).event=(e:Int) from he,<-R1_recs,hNq] at this
       rw [this]; rfl)]
     simp only [rowX,he] at hrd
     simp -implicitDefEqProofs only [b42_2,Tryz.f42,aP,hlen,h2,h3,h4,h73,h74,h75,hlt,hw,hix,hrd,z34w,st34,↓hac,↓hao,hput,hk,hlk,hln,hq,r5,↓evLd,nck,↓cbT,↓cbF,↓evDn,evUp,eu,sevalprocAttr]
     exact ⟨_,_,rfl,by simp only [ls,hlen],Aj6 (by simp only [hlen,h2,h3,h4,h73,h74,gB,and_self,sevalprocAttr]) ⟨av,ws,mv,hP.grow _⟩⟩
   | true =>
     have hq1:(R1 (qS ss) ss.flatten.length e).length=1:=by have:=(eqB_iff _ _).1 hq; omega
     obtain ⟨n,hn⟩:=List.length_eq_one_iff.1 hq1
     obtain ⟨hnN,hA⟩:=A2_hit hfl (show (qi x).kind=4 from hky) (n:=n) (by
       rw [show (qi x).event=(e:Int) from he,<-R1_recs,hNq]; exact hn)
     rw [hA]
     have hrow:=(hP.om e).own.ints (l:=R1 (qS ss) ss.flatten.length e)
     rw [hn] at hrow
     obtain ⟨i1,k1,hix1,hrd1⟩:=ints_at hrow (Agree.refl K) (j:=0) (by simp)
     have hix1':∀ kk,indexAddrA Tryz.prog 30 (mv e) (.int kk 0)=some (.ptr i1 k1):=hix1
     have hrd1':∀ L,rdCells (K++L) i1 k1 1=some [I (n:Int)]:=hrd1
     simp only [rowX,he] at hrd
     simp -implicitDefEqProofs only [b42_2,Tryz.f42,aP,hlen,h2,h3,h4,h73,h74,h75,hlt,hw,hix,hrd,z34w,st34,↓hac,↓hao,hput,hk,hlk,hln,hq,hix1',hrd1',r5,↓evLd,nck,↓cbT,↓cbF,↓evDn,evUp,eu,sevalprocAttr]
     generalize hR:EvC Tryz.prog C0 W0 pl42 (Code.region 22 _ _) _=Z22
     obtain ⟨t,K1,ws1,e1,tl,tlow,P1⟩:=reg42_22 (hP.pad _) hR (by simp only [ls,hlen]) (by simp only [hlen,h3,gB,sevalprocAttr]) (j:=j) (n:=n) (by simp only [hlen,gB,sevalprocAttr]) (by simp only [hlen,gB,sevalprocAttr]) (by rw [A2_len]; exact hnN) (by rw [A2_getD _ _ hnN]; exact Nat.le_trans (aftTo_le _ _ _) (by omega))
     subst e1
     have t2:t.getD 2 uA=.ptr q 0:=(tlow 2 (by decide)).trans (by simp only [hlen,h2,gB,sevalprocAttr])
     have t3:t.getD 3 uA=.ptr p 0:=(tlow 3 (by decide)).trans (by simp only [hlen,h3,gB,sevalprocAttr])
     have t4:t.getD 4 uA=.map mb:=(tlow 4 (by decide)).trans (by simp only [hlen,h4,gB,sevalprocAttr])
     have t73:t.getD 73 uA=iv:=(tlow 73 (by decide)).trans (by simp only [hlen,h73,gB,sevalprocAttr])
     have t74:t.getD 74 uA=I (ss.flatten.length:Nat):=(tlow 74 (by decide)).trans (by simp only [hlen,h74,gB,sevalprocAttr])
     have t75:t.getD 75 uA=I ((j:Nat):Int):=(tlow 75 (by decide)).trans (by simp only [hlen,h75,gB,sevalprocAttr])
     simp -implicitDefEqProofs only [b42_2,Tryz.f42,aP,tl,t2,t3,t4,t73,t74,t75,hw,r5,↓evLd,nck,↓cbT,↓cbF,↓evDn,evUp,eu,sevalprocAttr]
     exact ⟨_,_,rfl,by simp only [ls,tl],Aj6 (by simp only [tl,t2,t3,t4,t73,t74,gB,and_self,sevalprocAttr]) ⟨av,ws1,mv,P1.less padS_sub.sub padS_sub.len⟩⟩
theorem pl_waits {S0:AH} {ss:List (List Itm)} {p mb q:Nat} {iv:AV} {l:List (Itm × AV)} (hl:l.map (·.1)=ss.flatten) (hfew:ss.flatten.length<=1000) (hargs:∀ q∈l,q.2.cells=[q.2]/\q.2.one=true) (hev:∀ x∈ss.flatten,x.kind=4->0<=x.ev):∀ (d j:Nat) (tm:List AV) (K:AH),ss.flatten.length - j=d->j<=ss.flatten.length->(tm.length=111/\tm.getD 2 uA=.ptr q 0/\tm.getD 3 uA=.ptr p 0/\tm.getD 4 uA=.map mb/\tm.getD 73 uA=iv/\tm.getD 74 uA=I (ss.flatten.length:Nat)/\tm.getD 75 uA=I ((j:Nat):Int)/\∃ av ws mv,PlnR S0 K p mb iv av ws mv l (A2 (qS ss) (j)) (R1 (qS ss) ss.flatten.length)) ->
   ∃ X K1,EvC Tryz.prog C0 W0 pl42 l42_2 (tm,K)=some (.exit 4,(X,K1))/\(X.length=111/\X.getD 2 uA=.ptr q 0/\X.getD 3 uA=.ptr p 0/\X.getD 4 uA=.map mb/\X.getD 73 uA=iv/\X.getD 74 uA=I (ss.flatten.length:Nat)/\X.getD 75 uA=I ((ss.flatten.length:Nat):Int)/\∃ av ws mv,PlnR S0 K1 p mb iv av ws mv l (A2 (qS ss) (ss.flatten.length)) (R1 (qS ss) ss.flatten.length)):=by
 intro d
 induction d with
 | zero =>
   intro j tm K hd hj hI
   have hjl:j=ss.flatten.length:=by omega
   subst hjl
   obtain ⟨hlen,h2,h3,h4,h73,h74,h75,hP⟩:=hI
   have hlt:ltB ((ss.flatten.length:Nat):Int) (ss.flatten.length:Nat)=false:=ltB_f (by omega)
   rw [el42_2]
   simp -implicitDefEqProofs only [b42_2,Tryz.f42,aP,hlen,h2,h3,h4,h73,h74,h75,hlt,↓cbT,↓cbF,↓evDn,evUp,eu,sevalprocAttr]
   exact ⟨_,K,rfl,by simp only [ls,hlen],Aj6 (by simp only [hlen,h2,h3,h4,h73,h74,h75,gB,and_self,sevalprocAttr]) hP⟩
 | succ d ih =>
   intro j tm K hd hj hI
   obtain ⟨tm',K',he,hI'⟩:=pl_wait hl hfew hargs hev (by omega) hI
   obtain ⟨X,K1,h1,h2⟩:=ih (j+1) tm' K' (by omega) (by omega) hI'
   exact ⟨X,K1,he.trans h1,h2⟩
end Go.Dv
namespace Go.Dv
open Go.Proofs
attribute [local congr] bind_congr_first cb_congr condA_congr gd_congr br_congr
open Qu (off item? isRecB recs nxt aft aftTo)
theorem z93:zeroA Tryz.prog 93=some (.agg [.nilSlice,.nilSlice]):=by kernel_rfl
theorem ld93 (H:AH) (i k:Nat):ldA Tryz.prog 93 H i k=(rdCells H i k 2).map .agg:=by kernel_rfl
theorem st93 (H:AH) (i k:Nat) (x:AV):stA Tryz.prog 93 H i k x=if x.cells.length=2 then wrCells H i k x.cells else none:=by kernel_rfl
theorem flat_itms {H:AH} {ss:List (List Itm)} {vs:AV} (hs:StrsR H ss vs) (hfew:ss.flatten.length<=1000):ss.flatten.length < 2 ^ 50/\(∀ x∈ss.flatten,x.args.length < 2 ^ 50)/\(∀ x∈ss.flatten,∀ a∈x.args,i32R a)/\∀ x∈ss.flatten,i32R x.word:=by
 obtain ⟨⟨l,e,_,hl⟩,_⟩:=hs
 have key:∀ x∈ss.flatten,∃ xs v,ItmsR H xs v/\x∈xs:=fun x hx=>by
   obtain ⟨xs,h1,h2⟩:=List.mem_flatten.1 hx
   rw [<-e] at h1
   obtain ⟨p,hp,rfl⟩:=List.mem_map.1 h1
   exact ⟨_,_,hl p hp,h2⟩
 refine ⟨by omega,fun x hx=>?_,fun x hx=>?_,fun x hx=>?_⟩
 all_goals obtain ⟨xs,v,h1,h2⟩:=key x hx
 · exact h1.na x h2
 · exact h1.im x h2
 · exact h1.iw x h2
theorem pl_init (H:AH):PlnR (H++[.cells [.nilSlice,.nilSlice] 93]) (H++[.cells [.nilSlice,.nilSlice] 93,.cells [.nilSlice,.nilSlice] 93,.map [] 0]) (H.length+1) (H.length+2) .nilSlice .nilSlice [] (fun _=>.nilSlice) [] [] (fun _=>[]) where
 sub:=(Agree.sub (by
   have:=Agree.app (H++[AObj.cells [.nilSlice,.nilSlice] 93]) [.cells [.nilSlice,.nilSlice] 93,.map [] 0]
   rwa [List.append_assoc] at this))
 gp:=gone_ge (by simp)
 gm:=gone_ge (by simp)
 pm:=by omega
 hp:=by rw [List.getElem?_append_right (by omega),Nat.add_sub_cancel_left]; rfl
 hm:=⟨[],List.nodup_nil,by rw [List.getElem?_append_right (by omega),Nat.add_sub_cancel_left]; rfl,fun _ _=>rfl⟩
 lw:=rfl
 ow:={
   sl:=by simp
   xl:=fun x hx=>by
     simp only [List.mem_cons,List.not_mem_nil,or_false] at hx
     rw [List.length_append]
     rcases hx with rfl | rfl <;> simp
   ex:=fun a i=>by
     left
     match a,i with
     | 0,0=>exact ⟨rfl,rfl⟩
     | 1,0=>exact ⟨rfl,rfl⟩
     | 2,i=>exact ⟨rfl,rfl⟩
     | 3,e=>exact ⟨rfl,rfl⟩
     | 0,i+1=>exact ⟨rfl,rfl⟩
     | 1,i+1=>exact ⟨rfl,rfl⟩
     | a+4,i=>exact ⟨rfl,rfl⟩
   dis:=fun a i c j _ b hb=>by
     have:blkO (plF .nilSlice .nilSlice [] (fun _=>.nilSlice) [] [] (fun _=>[]) a i).1=none:=by
       match a,i with
       | 0,0=>rfl
       | 1,0=>rfl
       | 2,i=>rfl
       | 3,e=>rfl
       | 0,i+1=>rfl
       | 1,i+1=>rfl
       | a+4,i=>rfl
     rw [this] at hb; cases hb
   own:=fun a i b hb=>by
     have:blkO (plF .nilSlice .nilSlice [] (fun _=>.nilSlice) [] [] (fun _=>[]) a i).1=none:=by
       match a,i with
       | 0,0=>rfl
       | 1,0=>rfl
       | 2,i=>rfl
       | 3,e=>rfl
       | 0,i+1=>rfl
       | 1,i+1=>rfl
       | a+4,i=>rfl
     rw [this] at hb; cases hb }
theorem off_all (ss:List (List Itm)):off (qS ss) ss.length=ss.flatten.length:=by
 have:=Qu.flat_len (qS ss)
 rw [qS_flat,List.length_map,qS_len] at this
 exact this.symm
theorem ev42 {H:AH} {ss:List (List Itm)} {vs:AV} (hs:StrsR H ss vs) (hfew:ss.flatten.length<=1000) (hev:∀ l∈ss,∀ x∈l,x.kind=3∨x.kind=4->0<=x.ev) :
   ∃ iv av K,Ev Tryz.prog C0 W0 42 [vs] H=some (.agg [iv,av],K)/\Sub H K/\H.length<=K.length/\ItmsR K ss.flatten iv/\AftR K (aft (qS ss)) av/\(iv.cells=[iv]/\iv.one=true)/\(av.cells=[av]/\av.one=true)/\((iv=.nilSlice/\ss.flatten.length=0)∨∃ b,iv=.slice b 0 9 ss.flatten.length ss.flatten.length false):=by
 obtain ⟨tm,ht,g0,g1⟩:=tm1 vs 111 (by decide)
 rw [fe42,ht]
 have hln:=hs.len
 have hG:Sub H (H++[.cells [.nilSlice,.nilSlice] 93]):=(Agree.app H _).sub
 have hput:∀ o,put none H o=some (H.length,H++[o]):=fun _=>rfl
 simp -implicitDefEqProofs only [c42,Tryz.f42,aP,g0,g1,hln,z93,hput,↓aop_makeMap,r5,↓evLd,nck,↓cbT,↓cbF,↓evDn,evUp,eu,sevalprocAttr]
 generalize hX:EvC Tryz.prog C0 W0 pl42 _ _=Z
 have hout:∀ (tm:List AV) (K:AH) (Z:Option (AExit × St)),EvC Tryz.prog C0 W0 pl42 l42_1 (tm,K)=Z->(tm.length=111/\tm.getD 2 uA=.ptr H.length 0/\tm.getD 3 uA=.ptr (H.length+1) 0/\tm.getD 4 uA=.map (H.length+2)/\tm.getD 14 uA=vs/\tm.getD 15 uA=I ss.length/\tm.getD 16 uA=I ((0:Nat):Int)/\(∃ iv av ws mv l,PlnR (H++[.cells [.nilSlice,.nilSlice] 93]) K (H.length+1) (H.length+2) iv av ws mv l (A1 (qS ss) (off (qS ss) (0))) (R1 (qS ss) (off (qS ss) (0)))/\l.map (·.1)=ss.flatten.take (off (qS ss) (0))/\∀ q∈l,SlS 32 1 H q.2 (q.1.args.map row1)))->∃ X K1,Z=some (.exit 0,(X,K1))/\(X.length=111/\X.getD 2 uA=.ptr H.length 0/\X.getD 3 uA=.ptr (H.length+1) 0/\X.getD 4 uA=.map (H.length+2)/\X.getD 14 uA=vs/\X.getD 15 uA=I ss.length/\X.getD 16 uA=I ((ss.length:Nat):Int)/\(∃ iv av ws mv l,PlnR (H++[.cells [.nilSlice,.nilSlice] 93]) K1 (H.length+1) (H.length+2) iv av ws mv l (A1 (qS ss) (off (qS ss) (ss.length))) (R1 (qS ss) (off (qS ss) (ss.length)))/\l.map (·.1)=ss.flatten.take (off (qS ss) (ss.length))/\∀ q∈l,SlS 32 1 H q.2 (q.1.args.map row1))):=fun tm K Z hZ hI=>by
   subst hZ
   exact pl_out hG hs hfew (fun l hl x hx hk=>hev l hl x hx (.inl hk)) _ 0 tm K rfl (Nat.zero_le _) hI
 obtain ⟨X,K1,he,hXl,x2,x3,x4,x14,x15,x16,iv,av,ws,mv,l,hP,hl,ha⟩:=hout _ _ _ hX ⟨by simp only [ls,g0],Aj5 (by simp only [g0,g1,gB,and_self,sevalprocAttr]) ⟨by simp only [g0,gB,sevalprocAttr]; try rfl,.nilSlice,.nilSlice,[],fun _=>.nilSlice,[],pl_init H,rfl,fun q hq=>by cases hq⟩⟩
 subst he
 rw [off_all] at hP hl
 rw [List.take_length] at hl
 have hNq:(qS ss).flatten.length=ss.flatten.length:=by rw [qS_flat,List.length_map]
 have hll:l.length=ss.flatten.length:=by rw [<-hl,List.length_map]
 rw [show A1 (qS ss) ss.flatten.length=A2 (qS ss) 0 from by rw [<-hNq]; exact A1_end _] at hP
 have hr0:=hP.rp [] 0 rfl
 rw [List.append_nil] at hr0
 have hli:∀ G,lenA Tryz.prog 31 G iv=some (I ((ss.flatten.length:Nat):Int)):=fun G=>by
   have:=(hP.oi.own.slsG ix31T (by decide) (xrow_len l)).len G
   rwa [List.length_map,hll] at this
 simp -implicitDefEqProofs only [c42,Tryz.f42,aP,hXl,x2,x3,x4,hr0,hli,fa93_0,r5,↓evLd,nck,↓cbT,↓cbF,↓evDn,evUp,eu,sevalprocAttr]
 generalize hY:EvC Tryz.prog C0 W0 pl42 _ _=Z
 have hwa:∀ (tm:List AV) (K:AH) (Z:Option (AExit × St)),EvC Tryz.prog C0 W0 pl42 l42_2 (tm,K)=Z->(tm.length=111/\tm.getD 2 uA=.ptr H.length 0/\tm.getD 3 uA=.ptr (H.length+1) 0/\tm.getD 4 uA=.map (H.length+2)/\tm.getD 73 uA=iv/\tm.getD 74 uA=I (ss.flatten.length:Nat)/\tm.getD 75 uA=I ((0:Nat):Int)/\∃ av ws mv,PlnR (H++[.cells [.nilSlice,.nilSlice] 93]) K (H.length+1) (H.length+2) iv av ws mv l (A2 (qS ss) (0)) (R1 (qS ss) ss.flatten.length))->∃ X K1,Z=some (.exit 4,(X,K1))/\(X.length=111/\X.getD 2 uA=.ptr H.length 0/\X.getD 3 uA=.ptr (H.length+1) 0/\X.getD 4 uA=.map (H.length+2)/\X.getD 73 uA=iv/\X.getD 74 uA=I (ss.flatten.length:Nat)/\X.getD 75 uA=I ((ss.flatten.length:Nat):Int)/\∃ av ws mv,PlnR (H++[.cells [.nilSlice,.nilSlice] 93]) K1 (H.length+1) (H.length+2) iv av ws mv l (A2 (qS ss) (ss.flatten.length)) (R1 (qS ss) ss.flatten.length)):=fun tm K Z hZ hI=>by
   subst hZ
   exact pl_waits hl hfew (fun q hq=>⟨(ha q hq).cells,(ha q hq).one⟩) (fun x hx hk=>by
     obtain ⟨xs,h1,h2⟩:=List.mem_flatten.1 hx
     exact hev xs h1 x h2 (.inr hk)) _ 0 tm K rfl (Nat.zero_le _) hI
 obtain ⟨Y,K2,he,hYl,y2,y3,y4,y73,y74,y75,av2,ws2,mv2,hP2⟩:=hwa _ _ _ hY ⟨by simp only [ls,hXl],Aj5 (by simp only [hXl,x2,x3,x4,gB,and_self,sevalprocAttr]) ⟨by simp only [hXl,gB,sevalprocAttr]; try rfl,av,ws,mv,hP⟩⟩
 subst he
 rw [show A2 (qS ss) ss.flatten.length=aft (qS ss) from by rw [<-hNq]; exact A2_end _] at hP2
 have hp2:rdCells K2 (H.length+1) 0 2=some [iv,av2]:=by
   unfold rdCells; rw [hP2.hp]; rfl
 have hq2:K2[H.length]? =some (.cells [.nilSlice,.nilSlice] 93):=hP2.sub H.length _ (by rw [List.getElem?_append_right (Nat.le_refl _),Nat.sub_self]; rfl) (by simp)
 have hic:=hP2.oi.cells
 have hac:=hP2.oa.cells
 have hic1:=hic.1
 have hic2:=hic.2
 have hac1:=hac.1
 have hac2:=hac.2
 have hq2l:=lt_of_get hq2
 have hwr:wrCells K2 H.length 0 [iv,av2]=some (K2.set H.length (.cells [iv,av2] 93)):=by
   have:=wr_objs hq2 (k:=0) (xs:=[iv,av2]) (by simp) (by simp [hic2,hac2]) []
   rw [List.append_nil,List.append_nil] at this
   rw [this]; rfl
 have hrq:rdCells (K2.set H.length (.cells [iv,av2] 93)) H.length 0 2=some [iv,av2]:=by
   unfold rdCells; rw [List.getElem?_set_self hq2l]; rfl
 simp -implicitDefEqProofs only [c42,Tryz.f42,aP,hYl,y2,y3,hp2,ld93,st93,↓hic1,↓hac1,hwr,fr42,hrq,r5,↓evLd,nck,↓cbT,↓cbF,↓evDn,evUp,eu,sevalprocAttr]
 have hkp:∀ c,c≠H.length->(K2.set H.length (.cells [iv,av2] 93))[c]? =K2[c]?:=fun c hc=>List.getElem?_set_ne (Ne.symm hc)
 have hS0:(H++[AObj.cells [.nilSlice,.nilSlice] 93])[H.length]? =some (.cells [.nilSlice,.nilSlice] 93):=by rw [List.getElem?_append_right (Nat.le_refl _),Nat.sub_self]; rfl
 have hne:∀ a i,blkO (plF iv av2 ws2 mv2 l (aft (qS ss)) (R1 (qS ss) ss.flatten.length) a i).1≠some H.length:=fun a i e=>(hP2.ow.own a i _ e).1.ne hS0 (by simp) rfl
 have hsub:Sub H (K2.set H.length (.cells [iv,av2] 93)):=((Agree.app H [AObj.cells [.nilSlice,.nilSlice] 93]).sub.trans hP2.sub).setR (gone_ge (Nat.le_refl _)) _
 have hb3:Sub (H++[.cells [.nilSlice,.nilSlice] 93]) K2:=hP2.sub
 have hargs:∀ q∈l,SlS 32 1 (K2.set H.length (.cells [iv,av2] 93)) q.2 (q.1.args.map row1):=fun q hq=>(ha q hq).sub hsub
 refine ⟨iv,av2,_,rfl,hsub,by rw [List.length_set]; omega,?_,?_,hic,hac,?_⟩
 · obtain ⟨f1,f2,f3,f4⟩:=flat_itms hs hfew
   have oi:=hP2.oi.keep (K':=K2.set H.length (.cells [iv,av2] 93)) fun i hi=>hkp i fun e=>hne 0 0 (by rw [<-e]; exact hi)
   exact ⟨⟨l,hl,oi.own.slsG ix31T (by decide) (xrow_len l),hargs⟩,f1,f2,f3,f4⟩
 · have oa:=hP2.oa.keep (K':=K2.set H.length (.cells [iv,av2] 93)) fun i hi=>hkp i fun e=>hne 1 0 (by rw [<-e]; exact hi)
   refine ⟨ws2,hP2.lw,?_,fun i hi=>?_⟩
   · refine Own.slsG (elem:=30) (b:=0) ix91T (by decide) (rows:=ws2.map fun w=>[w]) ?_ (fun r hr=>by obtain ⟨w,_,rfl⟩:=List.mem_map.1 hr; rfl)
     rw [show (ws2.map fun w=>[w]).flatten=ws2 from by
       have:=flat1 (fun w:AV=>w) ws2
       simpa using this]
     exact oa.own
   · have ow:=(hP2.ow2 i).keep (K':=K2.set H.length (.cells [iv,av2] 93)) fun j hj=>hkp j fun e=>hne 2 i (by rw [<-e]; exact hj)
     have hw:ws2.getD i uA=ws2.getD i .nilSlice:=by
       have:i < ws2.length:=by rw [hP2.lw]; exact hi
       rw [getD_at this,getD_at this]
     rw [hw]
     exact ow.own.ints
 · have ho:=hP2.oi
   have hfl:=flat_len (xrow_len l)
   rw [List.length_map,hll] at hfl
   rcases ho with ⟨e1,e2⟩ | ⟨b,n,e1,e2,e3⟩
   · left
     rw [e2,List.length_nil] at hfl
     exact ⟨e1,by omega⟩
   · right
     refine ⟨b,?_⟩
     rw [e1]
     have:n=ss.flatten.length:=by omega
     rw [this]
end Go.Dv
