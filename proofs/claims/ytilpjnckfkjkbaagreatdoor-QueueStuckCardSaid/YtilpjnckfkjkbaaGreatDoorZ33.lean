/- Part 33 of the walks (own work). -/
import Derived.Test.YtilpjnckfkjkbaaGreatDoorZ32
set_option maxRecDepth 100000
set_option maxHeartbeats 4000000
set_option linter.unusedSimpArgs false
set_option linter.unusedVariables false
namespace Go.Dv
open Go.Proofs
attribute [local congr] bind_congr_first cb_congr condA_congr gd_congr br_congr
def shortC (cs:List Cod):Bool:=allF (fun j=>!ltB 80 ((codAt cs j).insns.length:Int)) cs.length 0
def rgtP (cs:List Cod) (m:List (List Int)) (ss:List (List Itm)) (f:Con):Bool:=!ltB 4 (cs.length:Int) && shortC cs && eqB (checkP cs m ss f) 0
theorem rgt_cod {G:AH} {cs:List Cod} {vc vm vs:AV} {f:Con} {q:Nat} (hc:CodsR G cs vc) (hq:G[q]? =some (.cells [vc,vm,vs,I f.w,.bool f.free,I f.cores,I f.slots,I f.room,I f.pol,I f.lat] 29)) (hN:cs.length < 2 ^ 60):∀ (d j:Nat) (tm:List AV) (K:AH),cs.length - j=d->j<=cs.length->Agree G K->tm.length=33->tm.getD 1 uA=.ptr q 0->tm.getD 3 uA=I ((j:Nat):Int) ->
   ∃ X Y K1 K2,EvC Tryz.prog C0 W0 plN l8_0 (tm,K)=br (allF (fun j=>!ltB 80 ((codAt cs j).insns.length:Int)) (cs.length) (j)) (some (.exit 0,(X,K1))) (some (.ret,(Y,K2)))/\(X.length=33/\Agree G K1/\X.getD 1 uA=.ptr q 0)/\Y.length=33/\Y.getD 2 uA=.bool false:=by
 intro d
 induction d with
 | zero =>
   intro j tm K hd hj hA hlen h1 h3
   have hjl:j=cs.length:=by omega
   subst hjl
   have hlt:ltB (((cs.length:Nat)):Int) (cs.length:Nat)=false:=ltB_f (by omega)
   have hq0:∀ L,rdCells (K++L) q 0 1=some [vc]:=fun L=>by unfold rdCells; rw [(hA.appR L).get hq]; rfl
   have hq0':rdCells K q 0 1=some [vc]:=by unfold rdCells; rw [hA.get hq]; rfl
   have hlc:=hc.len
   rw [allF_end (Nat.le_refl _),el8_0]
   simp -implicitDefEqProofs only [b8_0,Tryz.f8,aP,hlen,h1,h3,hlt,hlc,hq0',fa29_0,r5,↓evLd,nck,↓cbT,↓cbF,↓evDn,evUp,eu,sevalprocAttr]
   exact ⟨_,tm.set 2 (.bool false),_,K,rfl,⟨by first | exact hlen | simp only [List.length_set,hlen],hA,by first | exact h1 | simp only [hlen,h1,gB,sevalprocAttr]⟩,by simp only [ls,hlen],by simp only [hlen,gs_self,Nat.reduceLT]⟩
 | succ d ih =>
   intro j tm K hd hj hA hlen h1 h3
   have hjN:j < cs.length:=by omega
   have hlt:ltB (j:Int) (cs.length:Nat)=true:=ltB_t (by omega)
   have hw:=inc_i (j:=j) (by omega)
   have hq0:∀ L,rdCells (K++L) q 0 1=some [vc]:=fun L=>by unfold rdCells; rw [(hA.appR L).get hq]; rfl
   have hq0':rdCells K q 0 1=some [vc]:=by unfold rdCells; rw [hA.get hq]; rfl
   have hlc:=hc.len
   obtain ⟨i,k,vp,vz,vi,hix,hrd,hcd⟩:=hc.at hA hjN
   have hr4:∀ L,rdCells (K++L) i (k+4) 1=some [vi]:=fun L=>rd_cell (hrd L) (j:=4) rfl
   have hli:=hcd.li
   rw [allF_step hjN,el8_0]
   rw [<-List.append_nil K]
   cases hp:(!ltB 80 ((codAt cs j).insns.length:Int)) with
   | true =>
     simp only [Bool.true_and]
     rw [Bool.not_eq_true'] at hp
     simp -implicitDefEqProofs only [b8_0,Tryz.f8,aP,hlen,h1,h3,hlt,hw,hlc,hq0,hix,hr4,hli,hp,fa29_0,r5,↓evLd,nck,↓cbT,↓cbF,↓evDn,evUp,eu,sevalprocAttr]
     exact ih (j+1) _ _ (by omega) (by omega) (by first | exact hA | exact hA.appR _ | exact (hA.appR _).appR _) (by simp only [ls,hlen]) (by simp only [hlen,h1,gB,sevalprocAttr]) (by simp only [hlen,h3,gB,sevalprocAttr])
   | false =>
     simp only [Bool.false_and]
     rw [Bool.not_eq_false'] at hp
     simp -implicitDefEqProofs only [b8_0,Tryz.f8,aP,hlen,h1,h3,hlt,hw,hlc,hq0,hix,hr4,hli,hp,fa29_0,r5,↓evLd,nck,↓cbT,↓cbF,↓evDn,evUp,eu,sevalprocAttr]
     exact ⟨tm,_,K,_,rfl,⟨hlen,hA,h1⟩,by simp only [ls,hlen],by simp only [hlen,gB,sevalprocAttr]⟩
theorem rgt_cod' {G:AH} {cs:List Cod} {vc vm vs:AV} {f:Con} {q:Nat} {tm:List AV} {K:AH} {Z:Option (AExit × St)} (hX:EvC Tryz.prog C0 W0 plN l8_0 (tm,K)=Z) (hc:CodsR G cs vc) (hq:G[q]? =some (.cells [vc,vm,vs,I f.w,.bool f.free,I f.cores,I f.slots,I f.room,I f.pol,I f.lat] 29)) (hN:cs.length < 2 ^ 60) (hA:Agree G K) (hlen:tm.length=33) (h1:tm.getD 1 uA=.ptr q 0) (h3:tm.getD 3 uA=I ((0:Nat):Int)) :
   ∃ X Y K1 K2,Z=br (allF (fun j=>!ltB 80 ((codAt cs j).insns.length:Int)) (cs.length) (0)) (some (.exit 0,(X,K1))) (some (.ret,(Y,K2)))/\(X.length=33/\Agree G K1/\X.getD 1 uA=.ptr q 0)/\Y.length=33/\Y.getD 2 uA=.bool false:=by
 subst hX
 exact rgt_cod hc hq hN (cs.length) 0 tm K (by omega) (by omega) hA hlen h1 h3
theorem ev8 {H:AH} {cs:List Cod} {m:List (List Int)} {ss:List (List Itm)} {vc vm vs:AV} (hc:CodsR H cs vc) (hm:MemR H m vm) (hs:StrsR H ss vs) (f:Con):Ev Tryz.prog C0 W0 8 [.agg [vc,vm,vs,I f.w,.bool f.free,I f.cores,I f.slots,I f.room,I f.pol,I f.lat]] H=some (.bool (rgtP cs m ss f),H):=by
 obtain ⟨tm,ht,g0,g1⟩:=tm1 (.agg [vc,vm,vs,I f.w,.bool f.free,I f.cores,I f.slots,I f.room,I f.pol,I f.lat]) 33 (by decide)
 rw [fe8,ht]
 rw [<-List.append_nil (ro H)]
 have hA0:=Agree.app (ro H) [AObj.cells [vc,vm,vs,I f.w,.bool f.free,I f.cores,I f.slots,I f.room,I f.pol,I f.lat] 29]
 have hc0:=hc.ro.agree hA0
 have hm0:=hm.ro.agree hA0
 have hs0:=hs.ro.agree hA0
 have hq:(ro H++[AObj.cells [vc,vm,vs,I f.w,.bool f.free,I f.cores,I f.slots,I f.room,I f.pol,I f.lat] 29])[(ro H).length]? =some (.cells [vc,vm,vs,I f.w,.bool f.free,I f.cores,I f.slots,I f.room,I f.pol,I f.lat] 29):=by rw [List.getElem?_append_right (Nat.le_refl _),Nat.sub_self]; rfl
 have hlc:=hc.len
 unfold rgtP
 cases h4:ltB 4 (cs.length:Int) with
 | true=>simp -implicitDefEqProofs only [c8,Tryz.f8,aP,g0,g1,hlc,h4,fa29_0,r5,↓evLd,nck,↓cbT,↓cbF,↓evDn,evUp,eu,sevalprocAttr]
 | false =>
   simp -implicitDefEqProofs only [c8,Tryz.f8,aP,g0,g1,hlc,h4,fa29_0,r5,↓evLd,nck,↓cbT,↓cbF,↓evDn,evUp,eu,sevalprocAttr]
   generalize hX:EvC Tryz.prog C0 W0 _ (Code.loop _) _=Z
   obtain ⟨X,Y,K1,L1,he1,xs,y0,y1⟩:=rgt_cod' (f:=f) (vm:=vm) (vs:=vs) (q:=(ro H).length) hX hc0 hq (Nat.lt_trans hc.n (by decide)) (Agree.refl _) (by simp only [ls,g0]) (by simp only [g0,gB,sevalprocAttr]) (by simp only [g0,gB,sevalprocAttr]; try rfl)
   subst he1
   unfold shortC
   cases c1:allF (fun j=>!ltB 80 ((codAt cs j).insns.length:Int)) cs.length 0 with
   | false=>simp -implicitDefEqProofs only [y0,y1,c1,↓cbT,↓cbF,↓evDn,evUp,eu,sevalprocAttr]
   | true =>
     obtain ⟨i0,iA,i1⟩:=xs
     have p0:rdCells K1 (ro H).length 0 1=some [vc]:=by unfold rdCells; rw [iA.get hq]; rfl
     have p1:rdCells K1 (ro H).length 1 1=some [vm]:=by unfold rdCells; rw [iA.get hq]; rfl
     have p2:rdCells K1 (ro H).length 2 1=some [vs]:=by unfold rdCells; rw [iA.get hq]; rfl
     have p3:rdCells K1 (ro H).length 3 7=some (rowF f):=by unfold rdCells; rw [iA.get hq]; rfl
     have h16:=ev16 (hc0.agree iA) (hm0.agree iA) (hs0.agree iA) f
     simp only [rowF] at h16 p3
     simp -implicitDefEqProofs only [i0,i1,c1,p0,p1,p2,p3,fa29_0,fa29_1,fa29_2,fa29_3,ld27',↓fc16,h16,r5,↓evLd,nck,↓cbT,↓cbF,↓evDn,evUp,eu,sevalprocAttr]
def flR (l:List (Itm × AV)):List (List AV):=l.map fun p=>rowX p.1 p.2
theorem flR_len (l:List (Itm × AV)):∀ r∈flR l,r.length=9:=fun r hr=>by
 obtain ⟨p,_,rfl⟩:=List.mem_map.1 hr
 rfl
end Go.Dv
namespace Go.Dv
open Go.Proofs
attribute [local congr] bind_congr_first cb_congr condA_congr gd_congr br_congr
open Qu (bef)
end Go.Dv
namespace Go.Dv
open Go.Proofs
attribute [local congr] bind_congr_first cb_congr condA_congr gd_congr br_congr
end Go.Dv
namespace Go.Dv
open Go.Proofs
attribute [local congr] bind_congr_first cb_congr condA_congr gd_congr br_congr
open Qu (bef places)
end Go.Dv
namespace Go.Dv
open Go.Proofs
attribute [local congr] bind_congr_first cb_congr condA_congr gd_congr br_congr
end Go.Dv
namespace Go.Dv
open Go.Proofs
attribute [local congr] bind_congr_first cb_congr condA_congr gd_congr br_congr
theorem rowX_one {x:Itm} {va:AV} (h:va.one=true):(rowX x va).all AV.one=true:=by
 unfold rowX
 simp only [List.all_cons,List.all_nil,Bool.and_true,h]
 rfl
theorem own_blkq {b:Nat} {H:AH} {es:Nat} {elem:TypeId} {v:AV} {xs:List AV} (h:Own b H es elem v xs) {c:Nat} (hc:blkO v=some c):b<=c/\c < H.length:=by
 cases h with
 | nil=>cases hc
 | «at» i k len cap ex cs xs hb hi hl hcs hx=>cases hc; exact ⟨hb,lt_of_get hi⟩
theorem own_frame {b:Nat} {H H':AH} {es:Nat} {elem:TypeId} {v:AV} {xs:List AV} (h:Own b H es elem v xs) (hf:∀ c,blkO v=some c->H'[c]? =H[c]?):Own b H' es elem v xs:=
 h.other fun i k e len cap ex hv=>hf i (by rw [hv]; rfl)
def mutE (H:AH) (ws:List AV) (E:List Nat):List Nat:=mutD H ws++E
theorem mutE_mem {H:AH} {ws:List AV} {E:List Nat} {d:Nat}:d∈mutE H ws E↔d=H.length+10∨d=H.length+8∨(∃ w∈ws,blkO w=some d)∨d∈E:=by
 unfold mutE
 rw [List.mem_append,mutD_mem]
 constructor
 · rintro ((h | h | h) | h)
   · exact .inl h
   · exact .inr (.inl h)
   · exact .inr (.inr (.inl h))
   · exact .inr (.inr (.inr h))
 · rintro (h | h | h | h)
   · exact .inl (.inl h)
   · exact .inl (.inr (.inl h))
   · exact .inl (.inr (.inr h))
   · exact .inr h
theorem new_RE {H K4 K5 K6:AH} {l0:List (Cod × AV × AV × AV)} {l:List (List Int × AV)} {ss:List (List Itm)} {vc:AV} {f:Con} {N c:Nat} {ws:List AV} {E:List Nat} (hE:∀ d∈E,d < H.length)
   (F:NewFacts H K4 (l0.map orow) l ss.length vc f N c ws) (hv:∀ p∈l,p.2=.nilSlice->p.1=[])
   (hC5:AgX K4 K5 c) (hC:CodInv (c::mutE H ws E) K5 c l0 l0.length)
   (hS:StrInv (mutE H ws E) K5 K6 (H.length+10) (cloneV 5 (l0.map orow).length vc (H.length+12)) (.slice N 0 1 l.length l.length true) (.slice (H.length+8) 0 1 ss.length ss.length true) f ss ss.length)
   (G:Good (l0.map (·.1)) (l.map (·.1)) ss f) (hcn:l0.length < 2 ^ 50) (hsn:ss.length < 2 ^ 50) (him:∀ p∈l,∀ x∈p.1,i32R x) :
   ∃ S vs,QueR S K6 (H.length+10) (H.length+8) ws (cloneV 5 (l0.map orow).length vc (H.length+12)) (.slice N 0 1 l.length l.length true) vs f (l0.map (·.1)) ss (List.replicate ss.length 0) (l.map (·.1)) rc0/\Agree H K6/\(∀ b∈E,Gone S b)/\(∀ w∈ws,∀ b,blkO w=some b->H.length<=b):=by
 obtain ⟨hX6,vq,hKq,prq,hprq,hoq,hitq⟩:=hS
 obtain ⟨pr,hpr,hcod,hKc⟩:=hC.ex
 rw [List.take_length] at hprq
 rw [List.take_length] at hpr
 rw [List.drop_length,List.map_nil,List.append_nil] at hKc
 have eN:=F.eN
 have hlen:=F.len
 have hws:=F.ws_
 have hwl:ws.length=l.length:=by rw [hws,memW_len]
 obtain ⟨HH,hHH,hK4⟩:=F.hh
 have g54:∀ b,b < K4.length->b≠c->K5[b]? =K4[b]?:=hC5.2
 have g65:∀ b,b < K5.length->b≠H.length+10->K6[b]? =K5[b]?:=hX6.2
 have g64:∀ b,b < K4.length->b≠c->b≠H.length+10->K6[b]? =K4[b]?:=fun b h1 h2 h3=>(g65 b (Nat.lt_of_lt_of_le h1 hC5.1) h3).trans (g54 b h1 h2)
 have hNl:N < K4.length:=by omega
 have hcN:=F.cl
 have hc0:=F.c0
 have hH4:H.length<=K4.length:=F.ag.len
 have hAH:Agree H K6:=fun i hi=>(g64 i (by omega) (by omega) (by omega)).trans (F.ag i hi)
 have hwi:∀ i b,i < ws.length->blkO (ws.getD i uA)=some b->N+1+(memW N (l.take i)).2.length<=b/\b < N+1+(memW N (l.take (i+1))).2.length:=fun i b hi hb=>ws_blk hHH hv (by omega) (by rw [<-hws]; exact hb)
 have htop:∀ i,(memW N (l.take i)).2.length<=(memW N l).2.length:=fun i=>by
   rcases Nat.lt_or_ge i l.length with h | h
   · have:=memW_mono N l (i:=i) (j:=l.length) (Nat.le_of_lt h)
     rwa [List.take_length] at this
   · rw [List.take_of_length_le h]; exact Nat.le_refl _
 have hwb:∀ w∈ws,∀ b,blkO w=some b->N+1<=b/\b < K4.length:=fun w hw b hb=>by
   obtain ⟨i,hi,e⟩:=List.mem_iff_getElem.1 hw
   have:=hwi i b hi (by rw [getD_at hi,e]; exact hb)
   have:=htop (i+1)
   omega
 have hDm:∀ d∈mutE H ws E,d < K4.length/\d≠N/\d≠c:=fun d hd=>by
   have h1:=F.cq
   have h2:=F.ca
   rcases mutE_mem.1 hd with h | h | ⟨w,hw,h⟩ | h
   · subst h; exact ⟨by omega,by omega,h1⟩
   · subst h; exact ⟨by omega,by omega,h2⟩
   · have:=hwb w hw d h
     exact ⟨this.2,by omega,by omega⟩
   · have:=hE d h
     exact ⟨by omega,by omega,by omega⟩
 have hqD:H.length+10∈mutE H ws E:=mutE_mem.2 (.inl rfl)
 have hSg:∀ b,b∉mutE H ws E->(killD (mutE H ws E) K6)[b]? =K6[b]?:=fun b h=>killD_get _ _ b h
 have hne:∀ b o,b∉mutE H ws E->K6[b]? =some o->(killD (mutE H ws E) K6)[b]? =some o:=fun b o h ho=>(hSg b h).trans ho
 have hSN:(killD (mutE H ws E) K6)[N]? =some (.cells ws 32):=hne N _ (fun h=>(hDm N h).2.1 rfl) ((g64 N hNl (by omega) (by omega)).trans F.kN)
 have hsubC:Sub (killD (c::mutE H ws E) K5) (killD (mutE H ws E) K6):=fun b o hb ho=>by
   have hbD:b∉c::mutE H ws E:=fun h=>(killD_gone _ K5 b h).ne hb ho rfl
   rw [killD_get _ _ b hbD] at hb
   have h1:b∉mutE H ws E:=fun h=>hbD (List.mem_cons_of_mem _ h)
   exact hne b o h1 ((g65 b (lt_of_get hb) (fun e=>h1 (by rw [e]; exact hqD))).trans hb)
 refine ⟨killD (mutE H ws E) K6,vq,?_,hAH,fun b hb=>killD_gone _ _ _ (mutE_mem.2 (.inr (.inr (.inr hb)))),fun w hw b hb=>by have:=hwb w hw b hb; omega⟩
 refine { sub:=killD_sub _ _,gq:=killD_gone _ _ _ hqD,ga:=killD_gone _ _ _ (mutE_mem.2 (.inr (.inl rfl))),gw:=fun w hw b hb=>killD_gone _ _ _ (mutE_mem.2 (.inr (.inr (.inl ⟨w,hw,hb⟩)))),qa:=by omega,qw:=fun w hw=>⟨fun e=>by have:=hwb w hw _ e; omega,fun e=>by have:=hwb w hw _ e; omega⟩,ww:=?ww,kq:=by rw [List.length_replicate]; exact hKq,ka:=?ka,c:=?c,s:=?s,sm:=?sm,lw:=by rw [hwl,List.length_map],own:=?own,la:=List.length_replicate,le:=fun i _=>?le,lr:=rfl,ev:=G.ev,few:=G.few,fs:=G.n4,nm:=G.nm,nb:=G.nb,im:=?im }
 case ww =>
   intro i j b hi hj hbi hbj
   have h1:=hwi i b hi hbi
   have h2:=hwi j b hj hbj
   rcases Nat.lt_trichotomy i j with h | h | h
   · have:=memW_mono N l (i:=i+1) (j:=j) h; omega
   · exact h
   · have:=memW_mono N l (i:=j+1) (j:=i) h; omega
 case ka =>
   rw [g64 _ (by omega) F.ca (by omega),F.ka]
   rw [List.map_replicate]; rfl
 case le =>
   rw [gde,List.getElem?_replicate]
   split <;> exact Nat.zero_le _
 case im =>
   intro b hb
   obtain ⟨p,hp,rfl⟩:=List.mem_map.1 hb
   exact him p hp
 case own =>
   intro i hi
   rw [List.length_map] at hi
   obtain ⟨h,_⟩:=memW_own hHH l hv l.length (Nat.le_refl _) i hi
   rw [List.take_length,<-hK4,<-hws] at h
   have hb:bufOf (l.map (·.1)) i=(l.getD i ([],uA)).1:=by
     unfold bufOf
     rw [getD_at (by rw [List.length_map]; exact hi),getD_at hi,List.getElem_map]
   rw [hb]
   refine (h.other fun b k e len cap ex hv'=>?_).up (Nat.zero_le _)
   have hiw:i < ws.length:=by omega
   have:=hwb (ws.getD i uA) (getD_mem' hiw uA) b (by rw [hv']; rfl)
   exact g64 b this.2 (by omega) (by omega)
 case sm =>
   have h:=sls_of (T:=24) (es:=1) ix24T (H:=killD (mutE H ws E) K6) (i:=N) (k:=0) (c:=l.length) (e:=true) (rows:=ws.map fun w=>[w]) (by
     intro r hr
     obtain ⟨w,_,rfl⟩:=List.mem_map.1 hr
     rfl) (by unfold okC; rw [hSN]) (by
     unfold rdCells
     rw [hSN]
     simp only [List.length_map]
     rw [if_pos (by omega),List.drop_zero,List.take_of_length_le (by omega),flat1,List.map_id'' (fun _=>rfl)])
   rwa [List.length_map,hwl] at h
 case s =>
   have hoS:Own K5.length (killD (mutE H ws E) K6) 1 31 vq (prq.map (·.2)):=hoq.other fun b k e len cap ex hv'=>by
     have hb:=own_blk hoq (i:=b) (by rw [hv']; rfl)
     exact hSg b fun h=>by have:=(hDm b h).1; have:=hC5.1; omega
   refine ⟨⟨prq,hprq,?_,fun p hp=>(hitq p hp).sub fun b o hb ho=>?_⟩,hsn⟩
   · have hfl:(prq.map fun p=>[p.2]).flatten=prq.map (·.2):=flat1 _ _
     exact Own.slsG ix25T (by decide) (by rw [hfl]; exact hoS) (by
       intro r hr
       obtain ⟨p,_,rfl⟩:=List.mem_map.1 hr
       rfl)
   · have hbD:b∉mutE H ws E:=fun h=>(killD_gone _ (killV vq K6) b h).ne hb ho rfl
     rw [killD_get _ _ b hbD] at hb
     exact hne b o hbD ((killV_sub vq K6) b o hb ho)
 case c =>
   refine ⟨⟨pr,hpr,?_,fun p hp=>(hcod p hp).sub hsubC⟩,by rw [List.length_map]; exact hcn⟩
   have hprl:pr.length=l0.length:=by
     have:=congrArg List.length hpr
     rwa [List.length_map,List.length_map] at this
   by_cases h0:l0=[]
   · subst h0
     have:pr=[]:=List.length_eq_zero_iff.1 hprl
     subst this
     obtain ⟨hcH,h | ⟨h,h12,hk⟩⟩:=F.ce rfl
     · rw [h]; exact sls_nil ix22T _
     · rw [h]
       have h1:(killD (mutE H ws E) K6)[H.length+12]? =some (.cells [] 66):=by
         refine hne _ _ (fun hd=>?_) ((g64 _ (by omega) (by omega) (by omega)).trans hk)
         rcases mutE_mem.1 hd with h | h | ⟨w,hw,h⟩ | h
         · omega
         · omega
         · have:=hwb w hw _ h; omega
         · have:=hE _ h; omega
       exact sls_of (rows:=[]) ix22T (by simp) (by unfold okC; rw [h1]) (by
         unfold rdCells
         rw [h1]; rfl)
   · have hr0:l0.map orow≠[]:=fun e=>h0 (by simpa using e)
     obtain ⟨hcv,_⟩:=F.kc hr0
     have hvn:vc≠.nilSlice:=fun e=>by
       have eN':=F.eN
       rw [e] at eN'
       have:(cloneL 66 AV.nilSlice (l0.map orow).flatten).length=0:=rfl
       omega
     have hn0:(l0.map orow).length≠0:=fun e=>hr0 (List.length_eq_zero_iff.1 e)
     have hcvv:cloneV 5 (l0.map orow).length vc (H.length+12)=.slice (H.length+13) 0 5 (l0.map orow).length (l0.map orow).length false:=by
       have:cloneV 5 (l0.map orow).length vc (H.length+12)=if (l0.map orow).length=0 then .slice (H.length+12) 0 5 0 0 true else .slice (H.length+12+1) 0 5 (l0.map orow).length (l0.map orow).length false:=by
         cases vc <;> first | rfl | exact absurd rfl hvn
       rw [this,if_neg hn0]
     rw [hcvv]
     have hSc:(killD (mutE H ws E) K6)[c]? =some (.cells (pr.map orow).flatten 66):=hne c _ (fun h=>(hDm c h).2.2 rfl) ((g65 c (by have:=hC5.1; omega) (Ne.symm F.cq)).trans (hKc h0))
     rw [<-hcv]
     have h:=sls_of (T:=22) (es:=5) ix22T (H:=killD (mutE H ws E) K6) (i:=c) (k:=0) (c:=(l0.map orow).length) (e:=false) (rows:=pr.map orow) (orow_len pr) (by unfold okC; rw [hSc]) (by
       unfold rdCells
       rw [hSc]
       simp only
       rw [if_pos (by rw [flat_len (orow_len pr)]; omega),List.drop_zero,List.take_of_length_le (by rw [flat_len (orow_len pr)]; exact Nat.le_refl _)])
     rw [List.length_map,hprl] at h
     rw [List.length_map]
     rw [List.length_map] at h
     exact h
theorem ev10E {H:AH} {cs:List Cod} {m:List (List Int)} {ss:List (List Itm)} {vc vm vs:AV} (hc:CodsR H cs vc) (hm:MemR H m vm) (hs:StrsR H ss vs) (f:Con) (hk:checkP cs m ss f=0) {E:List Nat} (hE:∀ d∈E,d < H.length):∃ K S q a ws vc' vm' vs',Ev Tryz.prog C0 W0 10 [vc,vm,vs,.agg (rowF f)] H=some (.tuple [.ptr q 0,I 0],K)/\Agree H K/\H.length<=q/\QueR S K q a ws vc' vm' vs' f cs ss (List.replicate ss.length 0) m rc0/\(∀ b∈E,Gone S b)/\H.length<=a/\(∀ w∈ws,∀ b,blkO w=some b->H.length<=b):=by
 obtain ⟨⟨l0,hl0,hs0,hcod⟩,hcn⟩:=hc
 have hc:CodsR H cs vc:=⟨⟨l0,hl0,hs0,hcod⟩,hcn⟩
 obtain ⟨⟨l,hl,hsl,hpl⟩,hmn,hmb,him⟩:=hm
 have hm:MemR H m vm:=⟨⟨l,hl,hsl,hpl⟩,hmn,hmb,him⟩
 have hsn:=hs.n
 have hxb:∀ xs∈ss,xs.length < 2 ^ 50:=fun xs hx=>by
   obtain ⟨⟨l2,e2,_,h2⟩,_⟩:=hs
   rw [<-e2] at hx
   obtain ⟨p,hp,rfl⟩:=List.mem_map.1 hx
   exact (h2 p hp).n
 have G:=good_of hxb hk
 obtain ⟨tm,ht,g0,g1,g2,g3,g4⟩:=tm4 vc vm vs (.agg (rowF f)) 100 (by decide)
 rw [fe10,ht]
 have h26:=ev26 (hc.agree (Agree.app H [.cells [I f.w,.bool f.free,I f.cores,I f.slots,I f.room,I f.pol,I f.lat] 27])) (hm.agree (Agree.app H [.cells [I f.w,.bool f.free,I f.cores,I f.slots,I f.room,I f.pol,I f.lat] 27])) (hs.agree (Agree.app H [.cells [I f.w,.bool f.free,I f.cores,I f.slots,I f.room,I f.pol,I f.lat] 27])) f
 simp only [rowF] at h26
 rw [hk] at h26
 have e0:eqB 0 0=true:=rfl
 have hlc:=hc.len
 have hls:=hs.len
 simp -implicitDefEqProofs only [c10,Tryz.f10,aP,g0,g1,g2,g3,g4,rowF,↓fc26,h26,e0,r5,↓evLd,nck,show ∀ o,put none H o=some (H.length,H++[o]) from fun _=>rfl,↓cbT,↓cbF,↓evDn,evUp,eu,sevalprocAttr]
 have hll:l.length=m.length:=by rw [<-hl,List.length_map]
 have h27:=fun L=>ev27 hs0 (orow_len l0) (by rw [List.length_map]; exact grow_le b66 (by have:=G.nc; rw [<-hl0,List.length_map] at this; omega)) L
 have h28:=fun L=>ev28 hsl hpl (by have:=G.nm; omega) (fun p hp=>Nat.le_trans (G.nb p.1 (by rw [<-hl]; exact List.mem_map_of_mem hp)) (by decide)) L
 generalize hR:EvC Tryz.prog C0 W0 _ (Code.region _ _ _) _=R
 obtain ⟨t,he,tl,t2,t11⟩:=reg10_4' (rows:=l0.map orow) (l:=l) (n:=ss.length) f h27 h28 hls G.n4 hR (by simp only [ls,g0]) (by simp only [g0,g1,gB,sevalprocAttr]) (by simp only [g0,g2,gB,sevalprocAttr]) (by simp only [g0,g3,gB,sevalprocAttr]) (by simp only [g0,gB,sevalprocAttr])
 subst he
 obtain ⟨N,c,ws,F⟩:=newK_facts (H:=H) (l:=l) (n:=ss.length) (f:=f) (orow_len l0) (fun e=>nil_of hs0 e)
 generalize newK H (l0.map orow) l ss.length vc f=K4 at *
 have hqr:rdCells K4 (H.length+10) 0 1=some [cloneV 5 (l0.map orow).length vc (H.length+12)]:=by
   unfold rdCells
   rw [F.kq]
   simp only
   rw [if_pos (by rw [rowQ_len _ _ _ _ _ rfl]; decide)]; rfl
 have hcl0:=cloneV_len (n:=(l0.map orow).length) (v:=vc) (b:=H.length+12) (fun e=>by rw [show l0.map orow=[] from nil_of hs0 e]; rfl)
 have h00:(l0.map orow).length=l0.length:=List.length_map ..
 have hcl:∀ G,lenA Tryz.prog 22 G (cloneV 5 (l0.map orow).length vc (H.length+12))=some (I l0.length):=fun G=>(hcl0 G).trans (by rw [h00])
 simp -implicitDefEqProofs only [tl,t2,t11,hqr,hcl,r5,↓evLd,nck,show ∀ o,put none H o=some (H.length,H++[o]) from fun _=>rfl,↓cbT,↓cbF,↓evDn,evUp,eu,sevalprocAttr]
 have hNl:N < K4.length:=by have:=F.len; omega
 have hDl:∀ d∈mutE H ws E,d < K4.length:=fun d hd=>by
   have h1:=F.eN
   rcases mutE_mem.1 hd with h | h | ⟨w,hw,h⟩ | h
   · omega
   · omega
   · obtain ⟨HH,hHH,hK4⟩:=F.hh
     obtain ⟨i,hi,e⟩:=List.mem_iff_getElem.1 hw
     have hwl:ws.length=l.length:=by rw [F.ws_,memW_len]
     have h2:=ws_blk hHH (l:=l) (fun p hp e=>by have:=nil_of (hpl p hp) e; simpa using this) (i:=i) (b:=d) (by omega) (by rw [<-F.ws_,getD_at hi,e]; exact h)
     have h3:=F.len
     have h4:(memW N (l.take (i+1))).2.length<=(memW N l).2.length:=by
       have:=memW_mono N l (i:=i+1) (j:=l.length) (by omega)
       rwa [List.take_length] at this
     omega
   · have:=hE d h; have:=F.ag.len; omega
 generalize hX:EvC Tryz.prog C0 W0 _ (Code.loop _) _=Z
 obtain ⟨X,K5,he5,x0,x2,x11,x40,x41,x42,hX5,hC5⟩:=new_cod' (H:=H) (K4:=K4) (l0:=l0) (vs:=vs) (cv:=cloneV 5 (l0.map orow).length vc (H.length+12)) (q:=H.length+10) (c:=c) (D:=c::mutE H ws E) hX F.ag F.c0 (by have:=F.cl; omega) hcod (fun p hp=>by have:=G.cod p.1 (by rw [<-hl0]; exact List.mem_map_of_mem hp); omega) hqr F.cq (List.mem_cons_self ..) (fun d hd=>by
     rcases List.mem_cons.1 hd with h | h
     · rw [h]; have:=F.cl; omega
     · exact hDl d h) (fun j hj kk=>by
     have hr0:l0.map orow≠[]:=fun e=>by
       have:l0=[]:=by simpa using e
       rw [this] at hj; simp at hj
     obtain ⟨hcv,_⟩:=F.kc hr0
     have hvn:vc≠.nilSlice:=fun e=>by
       have:=nil_of hs0 e
       exact hr0 this
     have hn0:(l0.map orow).length≠0:=fun e=>hr0 (List.length_eq_zero_iff.1 e)
     have:cloneV 5 (l0.map orow).length vc (H.length+12)=if (l0.map orow).length=0 then .slice (H.length+12) 0 5 0 0 true else .slice (H.length+12+1) 0 5 (l0.map orow).length (l0.map orow).length false:=by
       cases vc <;> first | rfl | exact absurd rfl hvn
     rw [this,if_neg hn0,ia22,if_pos ⟨by omega,by rw [h00]; omega,rfl⟩,hcv,Int.toNat_natCast,Nat.zero_add]) (by have:=G.nc; rw [<-hl0,List.length_map] at this; omega) ⟨by simp only [ls,tl],Aj4 (by simp only [tl,t2,t11,gB,and_self,sevalprocAttr]) ⟨by simp only [tl,gB,sevalprocAttr]; try rfl,AgX.refl _ _,⟨[],rfl,by simp,fun h=>by
     obtain ⟨_,hk⟩:=F.kc (fun e=>h (by simpa using e))
     rw [hk]; rfl⟩⟩⟩
 subst he5
 simp -implicitDefEqProofs only [x0,x2,x11,hls,r5,↓evLd,nck,show ∀ o,put none H o=some (H.length,H++[o]) from fun _=>rfl,↓cbT,↓cbF,↓evDn,evUp,eu,sevalprocAttr]
 have hH5:Agree H K5:=fun i hi=>(hX5.2 i (Nat.lt_of_lt_of_le hi F.ag.len) (by have:=F.c0; omega)).trans (F.ag i hi)
 have hq5:K5[H.length+10]? =_:=(hX5.2 _ (by have:=F.eN; omega) F.cq).trans F.kq
 generalize hX:EvC Tryz.prog C0 W0 _ (Code.loop _) _=Z
 obtain ⟨X6,K6,he6,y0,y11,y67,y68,y69,hS6⟩:=new_str' (H:=H) (K5:=K5) (ss:=ss) (vs:=vs) (cv:=cloneV 5 (l0.map orow).length vc (H.length+12)) (mv:=.slice N 0 1 l.length l.length true) (av:=.slice (H.length+8) 0 1 ss.length ss.length true) (f:=f) (q:=H.length+10) (D:=mutE H ws E) hX hH5 (Nat.le_add_right _ _) (by have:=F.eN; have:=hX5.1; omega) hs G.n4 (fun xs hx=>⟨Nat.le_trans (G.len xs hx) (by decide),fun x hxx=>Nat.le_trans (G.args xs hx x hxx) (by decide)⟩) (mutE_mem.2 (.inl rfl)) (fun d hd=>Nat.lt_of_lt_of_le (hDl d hd) hX5.1) (by have:=G.n4; omega) ⟨by simp only [ls,x0],Aj3 (by simp only [x0,x11,gB,and_self,sevalprocAttr]) ⟨by simp only [x0,gB,sevalprocAttr]; try rfl,⟨AgX.refl _ _,.nilSlice,hq5,[],rfl,.nil,by simp⟩⟩⟩
 subst he6
 obtain ⟨S,vs',hQ,hA,hAS,hwE⟩:=new_RE hE F (fun p hp e=>by have:=nil_of (hpl p hp) e; simpa using this) hX5 hC5 hS6 (by rw [hl0,hl]; exact G) (by rw [<-hl0,List.length_map] at hcn; exact hcn) hsn (fun p hp x hx=>him p.1 (by rw [<-hl]; exact List.mem_map_of_mem hp) x hx)
 rw [hl0,hl] at hQ
 refine ⟨K6,S,_,_,_,_,_,vs',?_,hA,Nat.le_add_right _ _,hQ,hAS,Nat.le_add_right _ _,hwE⟩
 simp -implicitDefEqProofs only [y0,y11,r5,↓evLd,nck,show ∀ o,put none H o=some (H.length,H++[o]) from fun _=>rfl,↓cbT,↓cbF,↓evDn,evUp,eu,sevalprocAttr]
end Go.Dv
namespace Go.Dv
open Go.Proofs
def ownD (q a:Nat) (ws:List AV):List Nat:=q::a::ws.filterMap blkO
theorem ownD_mem {q a:Nat} {ws:List AV} {d:Nat}:d∈ownD q a ws↔d=q∨d=a∨∃ w∈ws,blkO w=some d:=by
 unfold ownD
 rw [List.mem_cons,List.mem_cons,List.mem_filterMap]
theorem own_get {b:Nat} {H:AH} {es:Nat} {elem:TypeId} {v:AV} {xs:List AV} (h:Own b H es elem v xs) {c:Nat} (hc:blkO v=some c):∃ cs,H[c]? =some (.cells cs elem):=by
 cases h with
 | nil=>cases hc
 | «at» i k len cap ex cs xs hb hi hl hcs hx=>cases hc; exact ⟨cs,hi⟩
section
variable {S K:AH} {q a:Nat} {ws:List AV} {vc vm vs:AV} {f:Con} {cs:List Cod} {ss:List (List Itm)} {ad:List Nat} {m:List (List Int)} {rc:List Bool}
theorem QueR.goneD (h:QueR S K q a ws vc vm vs f cs ss ad m rc) {b:Nat} (hb:b∈ownD q a ws):Gone S b:=by
 rcases ownD_mem.1 hb with rfl | rfl | ⟨w,hw,e⟩
 · exact h.gq
 · exact h.ga
 · exact h.gw w hw b e
theorem QueR.getD (h:QueR S K q a ws vc vm vs f cs ss ad m rc) {b:Nat} (hb:b∈ownD q a ws):∃ cs e,K[b]? =some (.cells cs e):=by
 rcases ownD_mem.1 hb with rfl | rfl | ⟨w,hw,e⟩
 · exact ⟨_,_,h.kq⟩
 · exact ⟨_,_,h.ka⟩
 · obtain ⟨i,hi,e2⟩:=List.mem_iff_getElem.1 hw
   have:=h.own i (by rw [<-h.lw]; exact hi)
   rw [getD_at hi,e2] at this
   obtain ⟨cs,h3⟩:=own_get this e
   exact ⟨cs,_,h3⟩
theorem QueR.wide (h:QueR S K q a ws vc vm vs f cs ss ad m rc):QueR (killD (ownD q a ws) K) K q a ws vc vm vs f cs ss ad m rc:=by
 have hS:Sub S (killD (ownD q a ws) K):=fun b o hb ho=>by
   have hn:b∉ownD q a ws:=fun hd=>(h.goneD hd).ne hb ho rfl
   rw [killD_get _ _ b hn]
   exact h.sub b o hb ho
 exact { h with
   sub:=killD_sub _ _
   gq:=killD_gone _ _ _ (ownD_mem.2 (.inl rfl))
   ga:=killD_gone _ _ _ (ownD_mem.2 (.inr (.inl rfl)))
   gw:=fun w hw b hb=>killD_gone _ _ _ (ownD_mem.2 (.inr (.inr ⟨w,hw,hb⟩)))
   c:=h.c.sub hS
   s:=h.s.sub hS
   sm:=h.sm.sub hS }
theorem QueR.carry (h:QueR S K q a ws vc vm vs f cs ss ad m rc) {K':AH} (hS:Sub S K') (ho:∀ b∈ownD q a ws,K'[b]? =K[b]?):QueR S K' q a ws vc vm vs f cs ss ad m rc:=
 { h with
   sub:=hS
   kq:=(ho q (ownD_mem.2 (.inl rfl))).trans h.kq
   ka:=(ho a (ownD_mem.2 (.inr (.inl rfl)))).trans h.ka
   own:=fun i hi=>own_frame (h.own i hi) fun c hc=>ho c (ownD_mem.2 (.inr (.inr ⟨_,getD_mem' (by rw [h.lw]; exact hi) uA,hc⟩))) }
theorem QueR.narrow {S' K':AH} {ad':List Nat} {m':List (List Int)} {rc':List Bool} (h0:QueR S K q a ws vc vm vs f cs ss ad m rc) (h:QueR S' K' q a ws vc vm vs f cs ss ad' m' rc') (hS:Sub S K'):QueR S K' q a ws vc vm vs f cs ss ad' m' rc':=
 { h with sub:=hS,gq:=h0.gq,ga:=h0.ga,gw:=h0.gw,c:=h0.c,s:=h0.s,sm:=h0.sm }
end
end Go.Dv
namespace Go.Dv
open Go.Proofs
attribute [local congr] bind_congr_first cb_congr condA_congr gd_congr br_congr
theorem ib_rem (k:IntKind) (a b:Int) (h:b≠0):intBinA .rem k a b=some (.int k (a.tmod b)):=by
 show (if b=0 then none else some (AV.int k (a.tmod b)))=_
 rw [if_neg h]
theorem tmod_at (t:Int) {n:Nat} (h0:0 < n) (hn:n < 2 ^ 40):IntKind.i64.wrap (t.tmod (n:Int)+(n:Int))=t.tmod (n:Int)+(n:Int)/\∃ k:Nat,k < n/\(t.tmod (n:Int)+(n:Int)).tmod (n:Int)=(k:Int):=by
 have h1:t.tmod (n:Int) < n:=Int.tmod_lt_of_pos t (by omega)
 have h2:-(n:Int) < t.tmod (n:Int):=by
   have h3:(t.tmod (n:Int)).natAbs < n:=by
     rw [Int.natAbs_tmod]
     have:((n:Int)).natAbs=n:=rfl
     rw [this]
     exact Nat.mod_lt _ h0
   omega
 refine ⟨IntWalk.i64_in _ (by omega),((t.tmod (n:Int)+(n:Int)).tmod (n:Int)).toNat,?_,?_⟩
 · have h3:(t.tmod (n:Int)+(n:Int)).tmod (n:Int) < n:=Int.tmod_lt_of_pos _ (by omega)
   have h4:0<=(t.tmod (n:Int)+(n:Int)).tmod (n:Int):=Int.tmod_nonneg _ (by omega)
   omega
 · have h4:0<=(t.tmod (n:Int)+(n:Int)).tmod (n:Int):=Int.tmod_nonneg _ (by omega)
   omega
def turnR (l:List Int):List (List AV):=l.map fun x=>[I x]
theorem ev35 {H:AH} {vt:AV} {tl:List Int} (ht:SlS 30 1 H vt (turnR tl)) (hl:tl.length < 2 ^ 60) (c:Nat) {n:Nat} (h0:0 < n) (hn:n < 2 ^ 40):∃ k:Nat,k < n/\Ev Tryz.prog C0 W0 35 [vt,I (c:Int),I (n:Int)] H=some (I (k:Int),H):=by
 have hln:∀ G,lenA Tryz.prog 30 G vt=some (I (tl.length:Nat)):=fun G=>by have:=ht.len G; unfold turnR at this; rwa [List.length_map] at this
 have hne:(n:Int)≠0:=by omega
 rcases Nat.lt_or_ge c tl.length with hc | hc
 · obtain ⟨i0,k0,hix,hrd⟩:=ht.ix c [I (tl[c]'hc)] (by unfold turnR; rw [List.getElem?_map,List.getElem?_eq_getElem hc]; rfl)
   have hrd:=ro_rd hrd
   have hle:leB (tl.length:Nat) (c:Int)=false:=(leB_iff0 _ _).2 (by omega)
   obtain ⟨hw,k,hk,e⟩:=tmod_at (tl[c]'hc) h0 hn
   refine ⟨k,hk,?_⟩
   rw [<-e]
   generalize tl[c]'hc=t at *
   have r1:=fun kk a=>ib_rem kk a (n:Int) hne
   obtain ⟨tm,ht,g0,g1,g2,g3⟩:=tm3 vt (I (c:Int)) (I (n:Int)) 21 (by decide)
   rw [fe35,ht]
   simp -implicitDefEqProofs only [c35,Tryz.f35,aP,g0,g1,g2,g3,hln,hle,hix,hrd,r1,hw,r5,↓evLd,nck,↓cbT,↓cbF,↓evDn,evUp,eu,sevalprocAttr]
 · have hle:leB (tl.length:Nat) (c:Int)=true:=(leB_iff _ _).2 (by omega)
   refine ⟨0,h0,?_⟩
   obtain ⟨tm,ht,g0,g1,g2,g3⟩:=tm3 vt (I (c:Int)) (I (n:Int)) 21 (by decide)
   rw [fe35,ht]
   simp -implicitDefEqProofs only [c35,Tryz.f35,aP,g0,g1,g2,g3,hln,hle,r5,↓evLd,nck,↓cbT,↓cbF,↓evDn,evUp,eu,sevalprocAttr]
theorem run11 {S:AH} {q a:Nat} {ws:List AV} {vc vm vs vt:AV} {f:Con} {cs:List Cod} {ss:List (List Itm)} {m0:List (List Int)} {tl:List Int} (ht:SlS 30 1 S vt (turnR tl)) (hl:tl.length < 2 ^ 60) (hfit:∀ l∈ss,∀ x∈l,FitM m0 x) (hal:∀ l∈ss,∀ x∈l,x.args.length<=1000):∀ (n c:Nat) (ad:List Nat) (m:List (List Int)) (rc:List Bool) (K:AH) (tm:List AV),(leftS ss ad ss.length).sum=n->c+n<=1000->QueR S K q a ws vc vm vs f cs ss ad m rc->SameLens m0 m->Trod ss m0 ad m rc->tm.length=24->tm.getD 0 uA=.ptr q 0->tm.getD 1 uA=vt->tm.getD 4 uA=I (c:Int) ->
   ∃ X K' ad' m' rc',EvC Tryz.prog C0 W0 plN l11_0 (tm,K)=some (.exit 0,(X,K'))/\K.length<=K'.length/\QueR S K' q a ws vc vm vs f cs ss ad' m' rc'/\Trod ss m0 ad' m' rc'/\readyS ss ad' rc' ss.length=[]:=by
 intro n
 induction n using Nat.strongRecOn with
 | ind n ih =>
   intro c ad m rc K tm hn hc h hsl hway hlen h0 h1 h4
   obtain ⟨v,K1,h33,hA1,ho⟩:=ev33 h.view
   have hln:=fun G=>ints_ln ho.ints G
   have hrl:=readyS_len ss ad rc ss.length
   have hfs:=h.fs
   rw [el11_0]
   by_cases hre:readyS ss ad rc ss.length=[]
   · have hlt:ltB 0 (((readyS ss ad rc ss.length).length:Nat):Int)=false:=by rw [hre]; rfl
     simp -implicitDefEqProofs only [b11_0,Tryz.f11,aP,hlen,h0,h1,h4,↓fc33,h33,hln,hlt,r5,↓evLd,nck,↓cbT,↓cbF,↓evDn,evUp,eu,sevalprocAttr]
     exact ⟨_,K1,ad,m,rc,rfl,hA1.len,h.grow hA1,hway,hre⟩
   · have hpos:0 < (readyS ss ad rc ss.length).length:=by
       rcases Nat.eq_zero_or_pos (readyS ss ad rc ss.length).length with e | e
       · exact absurd (List.length_eq_zero_iff.1 e) hre
       · exact e
     have hlt:ltB 0 (((readyS ss ad rc ss.length).length:Nat):Int)=true:=ltB_t (by omega)
     have hQ1:=h.grow hA1
     obtain ⟨v2,K2,h33b,hA2,ho2⟩:=ev33 hQ1.view
     have hQ2:=hQ1.grow hA2
     have hln2:=fun G=>ints_ln ho2.ints G
     obtain ⟨k,hk,h35⟩:=ev35 (ht.sub hQ2.sub) hl c hpos (by omega)
     obtain ⟨i0,k0,hix,hrd⟩:=ints_at ho2.ints (Agree.refl K2) hk
     have hrd:=hrd []
     rw [List.append_nil] at hrd
     have hmem:(readyS ss ad rc ss.length).getD k 0∈readyS ss ad rc ss.length:=getD_mem' hk 0
     obtain ⟨hs1,hok1⟩:=readyS_mem hmem
     have hkl:=okS_lt hok1
     have hxin:itmAt (strAt ss ((readyS ss ad rc ss.length).getD k 0)) (ad.getD ((readyS ss ad rc ss.length).getD k 0) 0)∈strAt ss ((readyS ss ad rc ss.length).getD k 0):=itmAt_mem hkl
     have hf:=(hfit _ (strAt_mem hs1) _ hxin).same hsl
     have hld:=left_doA h.la hs1 hkl ss.length (Nat.le_refl _)
     rw [if_pos hs1] at hld
     have hstep:=hway.step h.ev h.lr hmem
     have hsl':=hsl.doM hf
     generalize (readyS ss ad rc ss.length).getD k 0=s at *
     obtain ⟨vx,K3,h34,hQ3,hK3⟩:=ev34 hQ2 hmem hf hal
     have hw:=inc_i (j:=c) (by omega)
     simp -implicitDefEqProofs only [b11_0,Tryz.f11,aP,hlen,h0,h1,h4,↓fc33,h33,hln,hlt,h33b,hln2,↓fc35,h35,hix,hrd,↓fc34,h34,hw,r5,↓evLd,nck,↓cbT,↓cbF,↓evDn,evUp,eu,sevalprocAttr]
     generalize hX:EvC Tryz.prog C0 W0 _ _ _=Z
     have key:∀ (tm1:List AV),EvC Tryz.prog C0 W0 plN l11_0 (tm1,K3)=Z->tm1.length=24->tm1.getD 0 uA=.ptr q 0->tm1.getD 1 uA=vt->tm1.getD 4 uA=I ((c+1:Nat):Int)->∃ X K' ad' m' rc',Z=some (.exit 0,(X,K'))/\K.length<=K'.length/\QueR S K' q a ws vc vm vs f cs ss ad' m' rc'/\Trod ss m0 ad' m' rc'/\readyS ss ad' rc' ss.length=[]:=by
       intro tm1 hz a1 a2 a3 a4
       obtain ⟨X,K',ad',m',rc',b1,b2,b3⟩:=ih (leftS ss (doA ad s) ss.length).sum (by omega) (c+1) _ _ _ K3 tm1 rfl (by omega) hQ3 hsl' hstep a1 a2 a3 a4
       exact ⟨X,K',ad',m',rc',hz.symm.trans b1,Nat.le_trans (Nat.le_trans (Nat.le_trans hA1.len hA2.len) hK3) b2,b3⟩
     exact key _ hX (by simp only [ls,hlen]) (by simp only [hlen,h0,gB,sevalprocAttr]) (by simp only [hlen,h1,gB,sevalprocAttr]) (by simp only [hlen,gB,sevalprocAttr])
theorem run11' {S:AH} {q a:Nat} {ws:List AV} {vc vm vs vt:AV} {f:Con} {cs:List Cod} {ss:List (List Itm)} {m0:List (List Int)} {tl:List Int} (ht:SlS 30 1 S vt (turnR tl)) (hl:tl.length < 2 ^ 60) (hfit:∀ l∈ss,∀ x∈l,FitM m0 x) (hal:∀ l∈ss,∀ x∈l,x.args.length<=1000) {ad:List Nat} {m:List (List Int)} {rc:List Bool} {K:AH} {tm:List AV} {Z:Option (AExit × St)} (hX:EvC Tryz.prog C0 W0 plN l11_0 (tm,K)=Z) (hc:(leftS ss ad ss.length).sum<=1000) (h:QueR S K q a ws vc vm vs f cs ss ad m rc) (hs:SameLens m0 m) (hw:Trod ss m0 ad m rc) (hlen:tm.length=24) (h0:tm.getD 0 uA=.ptr q 0) (h1:tm.getD 1 uA=vt) (h4:tm.getD 4 uA=I ((0:Nat):Int)) :
   ∃ X K' ad' m' rc',Z=some (.exit 0,(X,K'))/\K.length<=K'.length/\QueR S K' q a ws vc vm vs f cs ss ad' m' rc'/\Trod ss m0 ad' m' rc'/\readyS ss ad' rc' ss.length=[]:=by
 subst hX
 exact run11 ht hl hfit hal _ 0 ad m rc K tm rfl (by omega) h hs hw hlen h0 h1 h4
theorem ev11 {S:AH} {q a:Nat} {ws:List AV} {vc vm vs vt:AV} {f:Con} {cs:List Cod} {ss:List (List Itm)} {m0:List (List Int)} {tl:List Int} (ht:SlS 30 1 S vt (turnR tl)) (hl:tl.length < 2 ^ 60) (hfit:∀ l∈ss,∀ x∈l,FitM m0 x) (hal:∀ l∈ss,∀ x∈l,x.args.length<=1000) {ad:List Nat} {m:List (List Int)} {rc:List Bool} {K:AH} (h:QueR S K q a ws vc vm vs f cs ss ad m rc) (hs:SameLens m0 m) (hw:Trod ss m0 ad m rc):∃ K' ad' m' rc',Ev Tryz.prog C0 W0 11 [.ptr q 0,vt] K=some (.tuple [],K')/\K.length<=K'.length/\QueR S K' q a ws vc vm vs f cs ss ad' m' rc'/\Trod ss m0 ad' m' rc'/\readyS ss ad' rc' ss.length=[]:=by
 obtain ⟨tm,hT,g0,g1,g2⟩:=tm2 (.ptr q 0) vt 24 (by decide)
 rw [fe11,hT]
 have hsum:=leftS_le ss ad
 have hfew:=h.few
 simp -implicitDefEqProofs only [c11,Tryz.f11,aP,g0,g1,g2,r5,↓evLd,nck,↓cbT,↓cbF,↓evDn,evUp,eu,sevalprocAttr]
 generalize hX:EvC Tryz.prog C0 W0 plN (Code.loop _) _=Z
 obtain ⟨X,K',ad',m',rc',he,r1⟩:=run11' ht hl hfit hal hX (by omega) h hs hw (by simp only [ls,g0]) (by simp only [g0,g1,gB,sevalprocAttr]) (by simp only [g0,g2,gB,sevalprocAttr]) (by simp only [g0,gB,sevalprocAttr]; try rfl)
 subst he
 refine ⟨K',ad',m',rc',?_,r1⟩
 simp -implicitDefEqProofs only [aP,r5,↓evLd,nck,↓cbT,↓cbF,↓evDn,evUp,eu,sevalprocAttr]
end Go.Dv
namespace Go.Dv
open Go.Proofs
theorem ix69k (b0 b1 b2 b3 b4 b5 b6 b7 b8 b9 b10 b11 b12 b13 b14 b15:Bool) (j:Nat) (hj:j < 16):pureRun Tryz.prog (do pure (Next.value (<-Instr.index 69 (.agg #[.bool b0,.bool b1,.bool b2,.bool b3,.bool b4,.bool b5,.bool b6,.bool b7,.bool b8,.bool b9,.bool b10,.bool b11,.bool b12,.bool b13,.bool b14,.bool b15]) (.int .i64 (j:Int)))))=some (.value (.bool ([b0,b1,b2,b3,b4,b5,b6,b7,b8,b9,b10,b11,b12,b13,b14,b15].getD j false))):=by
 have h:j=0∨j=1∨j=2∨j=3∨j=4∨j=5∨j=6∨j=7∨j=8∨j=9∨j=10∨j=11∨j=12∨j=13∨j=14∨j=15:=by omega
 rcases h with rfl | rfl | rfl | rfl | rfl | rfl | rfl | rfl | rfl | rfl | rfl | rfl | rfl | rfl | rfl | rfl <;> rfl
theorem ix69p {ev:Operand->Option AV} {x i:Operand} {rc:List Bool} (hl:rc.length=16) {j:Nat} (hj:j < 16) (hx:ev x=some (.agg (rc.map .bool))) (hi:ev i=some (I (j:Int))) (dst:Option Tmp) (ty:TypeId) (pos:String) (after:Array Edge) (g:Option (Nat × Bool)) :
   pureA Tryz.prog ev ⟨dst,.index 69 x i,ty,pos,after,g⟩=some (.val (.bool (rc.getD j false))):=by
 match rc,hl with
 | [b0,b1,b2,b3,b4,b5,b6,b7,b8,b9,b10,b11,b12,b13,b14,b15],_ =>
   have h1:pureRun Tryz.prog (execOp (rhoOf ev) ⟨dst,.index 69 x i,ty,pos,after,g⟩)=pureRun Tryz.prog (do pure (Next.value (<-Instr.index 69 (.agg #[.bool b0,.bool b1,.bool b2,.bool b3,.bool b4,.bool b5,.bool b6,.bool b7,.bool b8,.bool b9,.bool b10,.bool b11,.bool b12,.bool b13,.bool b14,.bool b15]) (.int .i64 (j:Int))))):=by
     simp [execOp,rhoOf,hx,hi,toV,toVs,bind,Sem.bind,pure]
   have h2:=ix69k b0 b1 b2 b3 b4 b5 b6 b7 b8 b9 b10 b11 b12 b13 b14 b15 j hj
   simp only [pureA,notSelect,Op.operands,hx,hi,toV,toVs,List.map_cons,List.map_nil,Option.map_some,h1,h2,Option.bind_some,Option.isSome_some,List.all_cons,List.all_nil,Bool.and_self,if_true]
   rfl
end Go.Dv
