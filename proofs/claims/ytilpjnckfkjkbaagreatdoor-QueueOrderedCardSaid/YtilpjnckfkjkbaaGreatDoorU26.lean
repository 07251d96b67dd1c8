/- Part 26 of the walks (own work). -/
import Derived.Test.YtilpjnckfkjkbaaGreatDoorU25
open Int renaming toNat_natCast→cN
open List renaming append_assoc→aD,append_nil→af,drop_length→Jl,drop_take→r9,drop_zero→ib,getElem?_set→cV,getElem?_set_ne→ay,getElem?_set_self→bG,length_eq_zero_iff→dO,length_map→ao,length_replicate→gT,length_set→aq,length_take→dR,map_set→TX,mem_cons→bW,mem_iff_getElem→lY,mem_map→bI,mem_map_of_mem→jM,mem_or_eq_of_mem_set→zD,replicate→au,take_append→wC,take_length→gg,take_of_length_le→bt,take_take→rL
open Nat renaming le_add_right→dI,le_refl→aw,le_trans→bh,lt_of_lt_of_le→bF,min_self→WT,mul_one→dM,zero_add→cZ,zero_le→aV
open Option renaming bind_some→ax
open Option.some renaming inj→aB
open Go.Proofs.Tryz renaming prog→aa
set_option maxRecDepth 100000
set_option maxHeartbeats 4000000
set_option linter.unusedSimpArgs false
set_option linter.unusedVariables false
open Go.Proofs.Tryz (f10 f34)
namespace Go.Dv
open Go.Proofs
attribute [local congr] aA bC aT bB bD
def lC (H:AH) (ws:List AV):List Nat:=(H.length+10)::(H.length+8)::ws.filterMap cF
theorem lB {H:AH} {ws:List AV} {d:Nat}:d∈lC H ws↔d=H.length+10∨d=H.length+8∨∃ w∈ws,cF w=some d:=by unfold lC;rw [bW,bW,List.mem_filterMap]
theorem Jp {N:Nat} {HH:AH} (hH:HH.length=N+1) {l:List (List Int × AV)} (hv:∀ p∈l,p.2=.nilSlice->p.1=[]) {i b:Nat} (hi:i < l.length) (hb:cF ((du N l).1.getD i uA)=some b) :
   N+1+(du N (l.take i)).2.length<=b/\b < N+1+(du N (l.take (i+1))).2.length:=by
 obtain ⟨_,h⟩:=ym hH l hv l.length (aw _) i hi;rw [gg] at h;generalize (du N l).1.getD i uA=w at hb h;cases w <;> simp only [cF] at hb <;> first | (cases hb; done) | skip
 cases hb;exact h _ _ _ _ _ _ rfl
theorem Ya {H K4 K5 K6:AH} {l0:List (Cod × AV × AV × AV)} {l:List (List Int × AV)} {ss:List (List Itm)} {vc:AV} {f:Con} {N c:Nat} {ws:List AV}
   (F:DW H K4 (l0.map jd) l ss.length vc f N c ws) (hv:∀ p∈l,p.2=.nilSlice->p.1=[])
   (hC5:AgX K4 K5 c) (hC:FC (c::lC H ws) K5 c l0 l0.length)
   (hS:Fz (lC H ws) K5 K6 (H.length+10) (bu 5 (l0.map jd).length vc (H.length+12)) (.slice N 0 1 l.length l.length true) (.slice (H.length+8) 0 1 ss.length ss.length true) f ss ss.length)
   (G:Good (l0.map (·.1)) (l.map (·.1)) ss f) (hcn:l0.length < 2 ^ 50) (hsn:ss.length < 2 ^ 50) (him:∀ p∈l,∀ x∈p.1,fk x) :
   ∃ S vs,fP S K6 (H.length+10) (H.length+8) ws (bu 5 (l0.map jd).length vc (H.length+12)) (.slice N 0 1 l.length l.length true) vs f (l0.map (·.1)) ss (au ss.length 0) (l.map (·.1)) rc0/\an H K6/\an H S:=by
 obtain ⟨hX6,vq,hKq,prq,hprq,hoq,hitq⟩:=hS
 obtain ⟨pr,hpr,hcod,hKc⟩:=hC.ex
 rw [gg] at hprq
 rw [gg] at hpr
 rw [Jl,List.map_nil,af] at hKc
 have eN:=F.eN
 have hlen:=F.len
 have hws:=F.ws_
 have hwl:ws.length=l.length:=by rw [hws,og]
 obtain ⟨HH,hHH,hK4⟩:=F.hh
 have g54:∀ b,b < K4.length->b≠c->K5[b]? =K4[b]?:=hC5.2
 have g65:∀ b,b < K5.length->b≠H.length+10->K6[b]? =K5[b]?:=hX6.2
 have g64:∀ b,b < K4.length->b≠c->b≠H.length+10->K6[b]? =K4[b]?:=fun b h1 h2 h3=>(g65 b (bF h1 hC5.1) h3).trans (g54 b h1 h2)
 have hNl:N < K4.length:=by omega
 have hcN:=F.cl
 have hc0:=F.c0
 have hH4:H.length<=K4.length:=F.ag.len
 have hAH:an H K6:=fun i hi=>(g64 i (by omega) (by omega) (by omega)).trans (F.ag i hi)
 have hwi:∀ i b,i < ws.length->cF (ws.getD i uA)=some b->N+1+(du N (l.take i)).2.length<=b/\b < N+1+(du N (l.take (i+1))).2.length:=fun i b hi hb=>Jp hHH hv (by omega) (by rw [<-hws]; exact hb)
 have htop:∀ i,(du N (l.take i)).2.length<=(du N l).2.length:=fun i=>by
   rcases Nat.lt_or_ge i l.length with h | h
   · have:=qL N l (i:=i) (j:=l.length) (Nat.le_of_lt h)
     rwa [gg] at this
   · rw [bt h]; exact aw _
 have hwb:∀ w∈ws,∀ b,cF w=some b->N+1<=b/\b < K4.length:=fun w hw b hb=>by
   obtain ⟨i,hi,e⟩:=lY.1 hw
   have:=hwi i b hi (by rw [d6 hi,e]; exact hb)
   have:=htop (i+1)
   omega
 have hDm:∀ d∈lC H ws,d < K4.length/\d≠N/\d≠c:=fun d hd=>by
   have h1:=F.cq
   have h2:=F.ca
   rcases lB.1 hd with h | h | ⟨w,hw,h⟩
   · subst h; exact ⟨by omega,by omega,h1⟩
   · subst h; exact ⟨by omega,by omega,h2⟩
   · have:=hwb w hw d h
     exact ⟨this.2,by omega,by omega⟩
 have hqD:H.length+10∈lC H ws:=lB.2 (.inl rfl)
 have hSg:∀ b,b∉lC H ws->(eA (lC H ws) K6)[b]? =K6[b]?:=fun b h=>kf _ _ b h
 have hne:∀ b o,b∉lC H ws->K6[b]? =some o->(eA (lC H ws) K6)[b]? =some o:=fun b o h ho=>(hSg b h).trans ho
 have hSN:(eA (lC H ws) K6)[N]? =some (.cells ws 32):=hne N _ (fun h=>(hDm N h).2.1 rfl) ((g64 N hNl (by omega) (by omega)).trans F.kN)
 have hsubC:Sub (eA (c::lC H ws) K5) (eA (lC H ws) K6):=fun b o hb ho=>by
   have hbD:b∉c::lC H ws:=fun h=>(iK _ K5 b h).ne hb ho rfl
   rw [kf _ _ b hbD] at hb
   have h1:b∉lC H ws:=fun h=>hbD (List.mem_cons_of_mem _ h)
   exact hne b o h1 ((g65 b (aI hb) (fun e=>h1 (by rw [e]; exact hqD))).trans hb)
 have hAS:an H (eA (lC H ws) K6):=fun i hi=>by
   rw [hSg i fun hd=>?_]
   · exact hAH i hi
   · rcases lB.1 hd with h | h | ⟨w,hw,h⟩
     · omega
     · omega
     · have:=hwb w hw _ h; omega
 refine ⟨eA (lC H ws) K6,vq,?_,hAH,hAS⟩
 refine { sub:=z8 _ _,gq:=iK _ _ _ hqD,ga:=iK _ _ _ (lB.2 (.inr (.inl rfl))),gw:=fun w hw b hb=>iK _ _ _ (lB.2 (.inr (.inr ⟨w,hw,hb⟩))),qa:=by omega,qw:=fun w hw=>⟨fun e=>by have:=hwb w hw _ e; omega,fun e=>by have:=hwb w hw _ e; omega⟩,ww:=?ww,kq:=by rw [gT]; exact hKq,ka:=?ka,c:=?c,s:=?s,sm:=?sm,lw:=by rw [hwl,ao],own:=?own,la:=gT,le:=fun i _=>?le,lr:=rfl,ev:=G.ev,few:=G.few,fs:=G.n4,nm:=G.nm,nb:=G.nb,im:=?im }
 case ww =>
   intro i j b hi hj hbi hbj
   have h1:=hwi i b hi hbi
   have h2:=hwi j b hj hbj
   rcases Nat.lt_trichotomy i j with h | h | h
   · have:=qL N l (i:=i+1) (j:=j) h; omega
   · exact h
   · have:=qL N l (i:=j+1) (j:=i) h; omega
 case ka =>
   rw [g64 _ (by omega) F.ca (by omega),F.ka]
   rw [List.map_replicate]; rfl
 case le =>
   rw [gde,List.getElem?_replicate]
   split <;> exact aV _
 case im =>
   intro b hb
   obtain ⟨p,hp,rfl⟩:=bI.1 hb
   exact him p hp
 case own =>
   intro i hi
   rw [ao] at hi
   obtain ⟨h,_⟩:=ym hHH l hv l.length (aw _) i hi
   rw [gg,<-hK4,<-hws] at h
   have hb:bV (l.map (·.1)) i=(l.getD i ([],uA)).1:=by
     unfold bV
     rw [d6 (by rw [ao]; exact hi),d6 hi,List.getElem_map]
   rw [hb]
   refine (h.other fun b k e len cap ex hv'=>?_).up (aV _)
   have hiw:i < ws.length:=by omega
   have:=hwb (ws.getD i uA) (eF hiw uA) b (by rw [hv']; rfl)
   exact g64 b this.2 (by omega) (by omega)
 case sm =>
   have h:=mI (T:=24) (es:=1) Gk (H:=eA (lC H ws) K6) (i:=N) (k:=0) (c:=l.length) (e:=true) (rows:=ws.map fun w=>[w]) (by
     intro r hr
     obtain ⟨w,_,rfl⟩:=bI.1 hr
     rfl) (by unfold okC; rw [hSN]) (by
     unfold ak
     rw [hSN]
     simp only [ao]
     rw [if_pos (by omega),ib,bt (by omega),qb,List.map_id'' (fun _=>rfl)])
   rwa [ao,hwl] at h
 case s =>
   have hoS:Own K5.length (eA (lC H ws) K6) 1 31 vq (prq.map (·.2)):=hoq.other fun b k e len cap ex hv'=>by
     have hb:=gX hoq (i:=b) (by rw [hv']; rfl)
     exact hSg b fun h=>by have:=(hDm b h).1; have:=hC5.1; omega
   refine ⟨⟨prq,hprq,?_,fun p hp=>(hitq p hp).sub fun b o hb ho=>?_⟩,hsn⟩
   · have hfl:(prq.map fun p=>[p.2]).flatten=prq.map (·.2):=qb _ _
     exact Own.mJ CI (by decide) (by rw [hfl]; exact hoS) (by
       intro r hr
       obtain ⟨p,_,rfl⟩:=bI.1 hr
       rfl)
   · have hbD:b∉lC H ws:=fun h=>(iK _ (bU vq K6) b h).ne hb ho rfl
     rw [kf _ _ b hbD] at hb
     exact hne b o hbD ((z6 vq K6) b o hb ho)
 case c =>
   refine ⟨⟨pr,hpr,?_,fun p hp=>(hcod p hp).sub hsubC⟩,by rw [ao]; exact hcn⟩
   have hprl:pr.length=l0.length:=by
     have:=congrArg List.length hpr
     rwa [ao,ao] at this
   by_cases h0:l0=[]
   · subst h0
     have:pr=[]:=dO.1 hprl
     subst this
     obtain ⟨hcH,h | ⟨h,h12,hk⟩⟩:=F.ce rfl
     · rw [h]; exact k5 Ac _
     · rw [h]
       have h1:(eA (lC H ws) K6)[H.length+12]? =some (.cells [] 66):=by
         refine hne _ _ (fun hd=>?_) ((g64 _ (by omega) (by omega) (by omega)).trans hk)
         rcases lB.1 hd with h | h | ⟨w,hw,h⟩
         · omega
         · omega
         · have:=hwb w hw _ h; omega
       exact mI (rows:=[]) Ac (by simp) (by unfold okC; rw [h1]) (by
         unfold ak
         rw [h1]; rfl)
   · have hr0:l0.map jd≠[]:=fun e=>h0 (by simpa using e)
     obtain ⟨hcv,_⟩:=F.kc hr0
     have hvn:vc≠.nilSlice:=fun e=>by
       have eN':=F.eN
       rw [e] at eN'
       have:(bq 66 AV.nilSlice (l0.map jd).flatten).length=0:=rfl
       omega
     have hn0:(l0.map jd).length≠0:=fun e=>hr0 (dO.1 e)
     have hcvv:bu 5 (l0.map jd).length vc (H.length+12)=.slice (H.length+13) 0 5 (l0.map jd).length (l0.map jd).length false:=by
       have:bu 5 (l0.map jd).length vc (H.length+12)=if (l0.map jd).length=0 then .slice (H.length+12) 0 5 0 0 true else .slice (H.length+12+1) 0 5 (l0.map jd).length (l0.map jd).length false:=by
         cases vc <;> first | rfl | exact absurd rfl hvn
       rw [this,if_neg hn0]
     rw [hcvv]
     have hSc:(eA (lC H ws) K6)[c]? =some (.cells (pr.map jd).flatten 66):=hne c _ (fun h=>(hDm c h).2.2 rfl) ((g65 c (by have:=hC5.1; omega) (Ne.symm F.cq)).trans (hKc h0))
     rw [<-hcv]
     have h:=mI (T:=22) (es:=5) Ac (H:=eA (lC H ws) K6) (i:=c) (k:=0) (c:=(l0.map jd).length) (e:=false) (rows:=pr.map jd) (n9 pr) (by unfold okC; rw [hSc]) (by
       unfold ak
       rw [hSc]
       simp only
       rw [if_pos (by rw [d5 (n9 pr)]; omega),ib,bt (by rw [d5 (n9 pr)]; exact aw _)])
     rw [ao,hprl] at h
     rw [ao]
     rw [ao] at h
     exact h
theorem ae0 {H:AH} {cs:List Cod} {m:List (List Int)} {ss:List (List Itm)} {vc vm vs:AV} (hc:dy H cs vc) (hm:eo H m vm) (hs:cT H ss vs) (f:Con) (hk:g8 cs m ss f=0):∃ K S q a ws vc' vm' vs',Ev aa C0 W0 10 [vc,vm,vs,.agg (fx f)] H=some (.tuple [.ptr q 0,I 0],K)/\an H K/\H.length<=q/\fP S K q a ws vc' vm' vs' f cs ss (au ss.length 0) m rc0/\an H S:=by
 obtain ⟨⟨l0,hl0,hs0,hcod⟩,hcn⟩:=hc;have hc:dy H cs vc:=⟨⟨l0,hl0,hs0,hcod⟩,hcn⟩;obtain ⟨⟨l,hl,hsl,hpl⟩,hmn,hmb,him⟩:=hm;have hm:eo H m vm:=⟨⟨l,hl,hsl,hpl⟩,hmn,hmb,him⟩;have hsn:=hs.n;have hxb:∀ xs∈ss,xs.length < 2 ^ 50:=fun xs hx=>by obtain ⟨⟨l2,e2,_,h2⟩,_⟩:=hs;rw [<-e2] at hx;obtain ⟨p,hp,rfl⟩:=bI.1 hx;exact (h2 p hp).n
 have G:=tI hxb hk;obtain ⟨tm,ht,g0,g1,g2,g3,g4⟩:=tm4 vc vm vs (.agg (fx f)) 100 (by decide);rw [adB,ht];have h26:=V3 (hc.aZ (an.app H [.cells [I f.w,.bool f.free,I f.cores,I f.slots,I f.room,I f.pol,I f.lat] 27])) (hm.aZ (an.app H [.cells [I f.w,.bool f.free,I f.cores,I f.slots,I f.room,I f.pol,I f.lat] 27])) (hs.aZ (an.app H [.cells [I f.w,.bool f.free,I f.cores,I f.slots,I f.room,I f.pol,I f.lat] 27])) f;simp only [fx] at h26;rw [hk] at h26;have e0:eqB 0 0=true:=rfl;have hlc:=hc.len;have hls:=hs.len;simp -implicitDefEqProofs only [c10,f10,aP,g0,g1,g2,g3,g4,fx,↓VV,h26,e0,show ∀ o,put none H o=some (H.length,H++[o]) from fun _=>rfl,↓zzC,zzE,sevalprocAttr];have hll:l.length=m.length:=by rw [<-hl,ao]
 have h27:=fun L=>aeQ hs0 (n9 l0) (by rw [ao]; exact gY b66 (by have:=G.nc; rw [<-hl0,ao] at this; omega)) L;have h28:=fun L=>aal hsl hpl (by have:=G.nm; omega) (fun p hp=>bh (G.nb p.1 (by rw [<-hl]; exact jM hp)) (by decide)) L;generalize hR:EvC aa C0 W0 _ (Code.region _ _ _) _=R;obtain ⟨t,he,tl,t2,t11⟩:=Kj (rows:=l0.map jd) (l:=l) (n:=ss.length) f h27 h28 hls G.n4 hR (by simp only [ls,g0]) (by simp only [g0,g1,gB,sevalprocAttr]) (by simp only [g0,g2,gB,sevalprocAttr]) (by simp only [g0,g3,gB,sevalprocAttr]) (by simp only [g0,gB,sevalprocAttr]);subst he;obtain ⟨N,c,ws,F⟩:=ET (H:=H) (l:=l) (n:=ss.length) (f:=f) (n9 l0) (fun e=>mQ hs0 e);generalize uQ H (l0.map jd) l ss.length vc f=K4 at *;have hqr:ak K4 (H.length+10) 0 1=some [bu 5 (l0.map jd).length vc (H.length+12)]:=by unfold ak;rw [F.kq];simp only;rw [if_pos (by rw [nW _ _ _ _ _ rfl]; decide)]; rfl
 have hcl0:=Fk (n:=(l0.map jd).length) (v:=vc) (b:=H.length+12) (fun e=>by rw [show l0.map jd=[] from mQ hs0 e]; rfl);have h00:(l0.map jd).length=l0.length:=ao ..;have hcl:∀ G,d4 aa 22 G (bu 5 (l0.map jd).length vc (H.length+12))=some (I l0.length):=fun G=>(hcl0 G).trans (by rw [h00]);simp -implicitDefEqProofs only [tl,t2,t11,hqr,hcl,show ∀ o,put none H o=some (H.length,H++[o]) from fun _=>rfl,↓zzC,zzE,sevalprocAttr];have hNl:N < K4.length:=by have:=F.len; omega
 have hDl:∀ d∈lC H ws,d < K4.length:=fun d hd=>by
   have h1:=F.eN;rcases lB.1 hd with h | h | ⟨w,hw,h⟩
   · omega
   · omega
   · obtain ⟨HH,hHH,hK4⟩:=F.hh;obtain ⟨i,hi,e⟩:=lY.1 hw;have hwl:ws.length=l.length:=by rw [F.ws_,og]
     have h2:=Jp hHH (l:=l) (fun p hp e=>by have:=mQ (hpl p hp) e; simpa using this) (i:=i) (b:=d) (by omega) (by rw [<-F.ws_,d6 hi,e]; exact h);have h3:=F.len;have h4:(du N (l.take (i+1))).2.length<=(du N l).2.length:=by have:=qL N l (i:=i+1) (j:=l.length) (by omega);rwa [gg] at this
     omega
 generalize hX:EvC aa C0 W0 _ (Code.loop _) _=Z;obtain ⟨X,K5,he5,x0,x2,x11,x40,x41,x42,hX5,hC5⟩:=QU (H:=H) (K4:=K4) (l0:=l0) (vs:=vs) (cv:=bu 5 (l0.map jd).length vc (H.length+12)) (q:=H.length+10) (c:=c) (D:=c::lC H ws) F.ag F.c0 (by have:=F.cl; omega) hcod (fun p hp=>by have:=G.cod p.1 (by rw [<-hl0]; exact jM hp); omega) hqr F.cq (List.mem_cons_self ..) (fun d hd=>by
     rcases bW.1 hd with h | h
     · rw [h]; have:=F.cl; omega
     · exact hDl d h) (fun j hj kk=>by
     have hr0:l0.map jd≠[]:=fun e=>by
       have:l0=[]:=by simpa using e
       rw [this] at hj; simp at hj
     obtain ⟨hcv,_⟩:=F.kc hr0;have hvn:vc≠.nilSlice:=fun e=>by have:=mQ hs0 e;exact hr0 this
     have hn0:(l0.map jd).length≠0:=fun e=>hr0 (dO.1 e);have:bu 5 (l0.map jd).length vc (H.length+12)=if (l0.map jd).length=0 then .slice (H.length+12) 0 5 0 0 true else .slice (H.length+12+1) 0 5 (l0.map jd).length (l0.map jd).length false:=by cases vc <;> first | rfl | exact absurd rfl hvn
     rw [this,if_neg hn0,YX,if_pos ⟨by omega,by rw [h00]; omega,rfl⟩,hcv,cN,cZ]) (by have:=G.nc; rw [<-hl0,ao] at this; omega) _ 0 _ _ _ hX rfl (aV _) ⟨by simp only [ls,tl],Aj4 (by simp only [tl,t2,t11,gB,and_self,sevalprocAttr]) ⟨by simp only [tl,gB,sevalprocAttr]; try rfl,AgX.refl _ _,⟨[],rfl,by simp,fun h=>by
     obtain ⟨_,hk⟩:=F.kc (fun e=>h (by simpa using e));rw [hk]; rfl⟩⟩⟩
 subst he5;simp -implicitDefEqProofs only [x0,x2,x11,hls,show ∀ o,put none H o=some (H.length,H++[o]) from fun _=>rfl,↓zzC,zzE,sevalprocAttr];have hH5:an H K5:=fun i hi=>(hX5.2 i (bF hi F.ag.len) (by have:=F.c0; omega)).trans (F.ag i hi);have hq5:K5[H.length+10]? =_:=(hX5.2 _ (by have:=F.eN; omega) F.cq).trans F.kq;generalize hX:EvC aa C0 W0 _ (Code.loop _) _=Z;obtain ⟨X6,K6,he6,y0,y11,y67,y68,y69,hS6⟩:=QS (H:=H) (K5:=K5) (ss:=ss) (vs:=vs) (cv:=bu 5 (l0.map jd).length vc (H.length+12)) (mv:=.slice N 0 1 l.length l.length true) (av:=.slice (H.length+8) 0 1 ss.length ss.length true) (f:=f) (q:=H.length+10) (D:=lC H ws) hH5 (dI _ _) (by have:=F.eN; have:=hX5.1; omega) hs G.n4 (fun xs hx=>⟨bh (G.len xs hx) (by decide),fun x hxx=>bh (G.args xs hx x hxx) (by decide)⟩) (lB.2 (.inl rfl)) (fun d hd=>bF (hDl d hd) hX5.1) (by have:=G.n4; omega) _ 0 _ _ _ hX rfl (aV _) ⟨by simp only [ls,x0],Aj3 (by simp only [x0,x11,gB,and_self,sevalprocAttr]) ⟨by simp only [x0,gB,sevalprocAttr]; try rfl,⟨AgX.refl _ _,.nilSlice,hq5,[],rfl,.nil,by simp⟩⟩⟩;subst he6;obtain ⟨S,vs',hQ,hA,hAS⟩:=Ya F (fun p hp e=>by have:=mQ (hpl p hp) e; simpa using this) hX5 hC5 hS6 (by rw [hl0,hl]; exact G) (by rw [<-hl0,ao] at hcn; exact hcn) hsn (fun p hp x hx=>him p.1 (by rw [<-hl]; exact jM hp) x hx);rw [hl0,hl] at hQ;refine ⟨K6,S,_,_,_,_,_,vs',?_,hA,dI _ _,hQ,hAS⟩;simp -implicitDefEqProofs only [y0,y11,show ∀ o,put none H o=some (H.length,H++[o]) from fun _=>rfl,↓zzC,zzE,sevalprocAttr]
theorem GA (ad:List Nat) (s:Nat):(doA ad s).length=ad.length:=by unfold doA; rw [aq]
theorem GB (ad:List Nat) (s t:Nat) (hs:s < ad.length):(doA ad s).getD t 0=if t=s then ad.getD s 0+1 else ad.getD t 0:=by
 unfold doA;rw [gde,cV];by_cases h:s=t
 · subst h; rw [if_pos rfl,if_pos hs,if_pos rfl]; rfl
 · rw [if_neg h,if_neg (Ne.symm h),<-gde]
theorem fP.abP {S K:AH} {q a:Nat} {ws:List AV} {vc vm vs:AV} {f:Con} {cs:List Cod} {ss:List (List Itm)} {ad:List Nat} {m:List (List Int)} {rc:List Bool} (h:fP S K q a ws vc vm vs f cs ss ad m rc) {s:Nat} (hs:s < ss.length) (hk:ad.getD s 0 < (aM ss s).length) :
   ∃ K',(∀ L,bj (K++L) a s [I (ad.getD s 0+1:Nat)]=some (K'++L))/\fP S K' q a ws vc vm vs f cs ss (doA ad s) m rc/\K'.length=K.length/\∀ b,b≠a->K'[b]? =K[b]?:=by
 have hsa:s < ad.length:=by rw [h.la]; exact hs
 have hw:=fun L=>iF h.ka (k:=s) (xs:=[I (ad.getD s 0+1:Nat)]) (by simp; omega) rfl L;have e:spl (ad.map fun (n:Nat)=>I (n:Int)) s [I (ad.getD s 0+1:Nat)]=(doA ad s).map fun (n:Nat)=>I (n:Int):=by show (ad.map fun (n:Nat)=>I (n:Int)).set s _=_;unfold doA;rw [TX]
 rw [e] at hw;have hal:=aI h.ka;refine ⟨_,hw,{ h with sub:=h.sub.m3 h.ga _,kq:=?_,ka:=?_,own:=fun i hi=>?_,la:=by rw [GA]; exact h.la,le:=fun i hi=>?_ },aq ..,fun b hb=>ay (Ne.symm hb)⟩
 · rw [ay (Ne.symm h.qa),GA]; exact h.kq
 · rw [bG hal]
 · refine (h.own i hi).other fun b k e l c x hv=>ay fun he=>?_;exact (h.qw _ (eF (by rw [h.lw]; exact hi) uA)).2 (by rw [hv,he]; rfl)
 · rw [GB _ _ _ hsa];split
   · rename_i e; subst e; exact hk
   · exact h.le i hi
theorem Ej (vc vm vs va:AV) (f:Con) {rc:List Bool} (hl:rc.length=16) (en:Int) {e:Nat} (he:e < 16):(lP vc vm vs va f rc en).set (11+e) (.bool true)=lP vc vm vs va f (rc.set e true) en:=by unfold lP fx;rw [List.set_append_left _ _ (by simp [hl]; omega),List.set_append_right _ _ (by simp)];simp only [List.length_append,List.length_cons,List.length_nil,Nat.reduceAdd,Nat.add_sub_cancel_left];rw [<-TX]
theorem fP.m3 {S K:AH} {q a:Nat} {ws:List AV} {vc vm vs:AV} {f:Con} {cs:List Cod} {ss:List (List Itm)} {ad:List Nat} {m:List (List Int)} {rc:List Bool} (h:fP S K q a ws vc vm vs f cs ss ad m rc) {e:Nat} (he:e < 16) :
   ∃ K',(∀ L,bj (K++L) q (11+e) [.bool true]=some (K'++L))/\fP S K' q a ws vc vm vs f cs ss ad m (rc.set e true)/\K'.length=K.length/\∀ b,b≠q->K'[b]? =K[b]?:=by
 have hw:=fun L=>iF h.kq (k:=11+e) (xs:=[.bool true]) (by rw [nW _ _ _ _ _ h.lr]; simp; omega) rfl L;have e1:spl (lP vc vm vs (.slice a 0 1 ad.length ad.length true) f rc 0) (11+e) [.bool true]=_:=Ej _ _ _ _ _ h.lr _ he;rw [e1] at hw;have hql:=aI h.kq;refine ⟨_,hw,{ h with sub:=h.sub.m3 h.gq _,kq:=?_,ka:=?_,own:=fun i hi=>?_,lr:=by rw [aq]; exact h.lr },aq ..,fun b hb=>ay (Ne.symm hb)⟩
 · rw [bG hql]
 · rw [ay h.qa]; exact h.ka
 · refine (h.own i hi).other fun b k e l c x hv=>ay fun he=>?_;exact (h.qw _ (eF (by rw [h.lw]; exact hi) uA)).1 (by rw [hv,he]; rfl)
theorem fP.UB {S K:AH} {q a:Nat} {ws:List AV} {vc vm vs:AV} {f:Con} {cs:List Cod} {ss:List (List Itm)} {ad:List Nat} {m:List (List Int)} {rc:List Bool} (h:fP S K q a ws vc vm vs f cs ss ad m rc) {r:Nat} (hr:lL S r) (hq:r≠q) (ha:r≠a) (hw:∀ w∈ws,cF w≠some r) (o:bm):fP S (K.set r o) q a ws vc vm vs f cs ss ad m rc:=
 { h with sub:=h.sub.m3 hr o,kq:=by rw [ay hq]; exact h.kq,ka:=by rw [ay ha]; exact h.ka,
          own:=fun i hi=>(h.own i hi).other fun b k e l c x hv=>ay fun he=>hw _ (eF (by rw [h.lw]; exact hi) uA) (by rw [hv,he]; rfl) }
theorem vB {m:List (List Int)} {d i:Nat} {b:List Int} (hd:d < m.length):bV (m.set d b) i=if i=d then b else bV m i:=by
 unfold bV;rw [gde,cV];by_cases h:d=i
 · subst h; rw [if_pos rfl,if_pos hd,if_pos rfl]; rfl
 · rw [if_neg h,if_neg (Ne.symm h),<-gde]
theorem vC {m:List (List Int)} {d:Nat} (hd:d < m.length):bV m d∈m:=by unfold bV; exact eF hd []
theorem Own.write {b:Nat} {K:AH} {w:AV} {xs new:List AV} {elem:TypeId} (h:Own b K 1 elem w xs) {j:Nat} (hj:j+new.length<=xs.length) (hn:new≠[]) (ho:new.all AV.one=true) :
   ∃ i k len cap ex K',w=.slice i k 1 len cap ex/\(∀ L,bj (K++L) i (k+j) new=some (K'++L))/\Own b K' 1 elem w (spl xs j new)/\K'.length=K.length/\∀ c,c≠i->K'[c]? =K[c]?:=by
 cases h with
 | nil=>exact absurd (by simp at hj; exact hj.2) hn
 | «at» i k len cap ex cs xs hb hi hl hc hrd =>
   have hxl:=pR hrd;rw [dM] at hxl hc;have hil:=aI hi;have hfit:k+j+new.length<=cs.length:=by omega
   refine ⟨i,k,len,cap,ex,_,rfl,fun L=>iF hi hfit ho L,.at i k len cap ex (spl cs (k+j) new) _ hb (by rw [bG hil]) hl (by rw [gr,dM]; exact hc) ?_,aq ..,fun c hc=>ay (Ne.symm hc)⟩;unfold ak at hrd ⊢;rw [hi] at hrd;rw [bG hil];simp only at hrd ⊢;rw [dM] at hrd ⊢;rw [if_pos (by omega)] at hrd;have hx:xs=(cs.drop k).take len:=(aB hrd).symm;rw [if_pos (by rw [gr]; omega),iG _ _ _ hfit,iG _ _ _ hj];congr 1;have hxd:xs.take j=(cs.drop k).take j:=by rw [hx,rL,Nat.min_eq_left (by omega)]
   have hxr:xs.drop (j+new.length)=(cs.drop (k+(j+new.length))).take (len - (j+new.length)):=by rw [hx,r9,List.drop_drop]
   rw [hxd,hxr];have hl1:((cs.drop k).take j).length=j:=by rw [dR,List.length_drop]; omega
   rw [aD,aD,List.drop_append_of_le_length (by rw [dR]; omega),r9,show k+j - k=j by omega,wC,hl1,rL,Nat.min_eq_right (by omega),wC,bt (l:=new) (by omega),show len - j - new.length=len - (j+new.length) by omega,show k+j+new.length=k+(j+new.length) by omega]
theorem fP.JK {S K:AH} {q a:Nat} {ws:List AV} {vc vm vs:AV} {f:Con} {cs:List Cod} {ss:List (List Itm)} {ad:List Nat} {m:List (List Int)} {rc:List Bool} (h:fP S K q a ws vc vm vs f cs ss ad m rc) {d:Nat} (hd:d < m.length) {K':AH} {i:Nat} (hi:cF (ws.getD d uA)=some i) (hK:∀ c,c≠i->K'[c]? =K[c]?) {b':List Int} (ho:Own 0 K' 1 21 (ws.getD d uA) (ju b')) (hl:b'.length=(bV m d).length) (hi32:∀ x∈b',fk x):fP S K' q a ws vc vm vs f cs ss ad (m.set d b') rc:=by
 have hdw:d < ws.length:=by rw [h.lw]; exact hd
 have hmw:=eF hdw uA;have hqi:i≠q:=fun e=>(h.qw _ hmw).1 (by rw [hi,e]);have hai:i≠a:=fun e=>(h.qw _ hmw).2 (by rw [hi,e]);have hgi:=h.gw _ hmw i hi;refine { h with sub:=fun j o hj hoo=>?_,kq:=by rw [hK _ (Ne.symm hqi)]; exact h.kq,ka:=by rw [hK _ (Ne.symm hai)]; exact h.ka,lw:=by rw [aq]; exact h.lw,own:=fun j hj=>?_,nm:=by rw [aq]; exact h.nm,nb:=fun b hb=>?_,im:=fun b hb=>?_ }
 · rw [hK j fun e=>(hgi.ne (by rw [<-e]; exact hj) hoo) rfl]; exact h.sub j o hj hoo
 · rw [aq] at hj;rw [vB hd];split
   · rename_i e; subst e; exact ho
   · rename_i e;refine (h.own j hj).other fun b k e1 l c x hv=>hK b fun hb=>e (h.ww j d i (by rw [h.lw]; exact hj) hdw (by rw [hv,hb]; rfl) hi)
 · rcases zD hb with h1 | h1
   · exact h.nb b h1
   · subst h1; rw [hl]; exact h.nb _ (vC hd)
 · rcases zD hb with h1 | h1
   · exact h.im b h1
   · subst h1; exact hi32
theorem Fp {P:Program} {C:Cfg P} {slot:Option Nat} {ev:Operand->Option AV} {H:AH} (o:Oper) (x y:Operand) (t u:TypeId):gk P C slot ev o ⟨.builtin .copy,#[x,y],#[t,u]⟩ H=(ev x).bind fun s=>(ev y).bind fun v=>(yT P t s v H).map fun p=>(.val p.1,p.2):=by
 unfold gk; simp only [evL]; cases ev x with
 | none=>rfl
 | some v=>cases ev y <;> rfl
theorem zw {P:Program} {fn:Func} {a b:Tmp} {t:TypeId} (h:fn.results.toList=[.cell a t,.tmp b]) (tm:List AV) (H:AH):lz P fn (tm,H)=match tm.getD a uA with
   | .ptr i k=>(ldA P t H i k).map fun v=>(.tuple [v,tm.getD b uA],H)
   | _=>none:=by
 unfold lz;rw [h];cases hg:tm.getD a uA with
 | ptr i k =>simp only [iO,hg];cases ldA P t H i k <;> rfl
 | _=>simp only [iO,hg] <;> rfl
theorem acr (tm:List AV) (H:AH):r34 (tm,H)=match tm.getD 4 uA with
   | .ptr i k=>(ldA aa 34 H i k).map fun v=>(.tuple [v,tm.getD 5 uA],H)
   | _=>none:=zw (by rfl) tm H
structure zk (m:List (List Int)) (x:Itm):Prop where
 k0:x.kind≠0
 k1:x.kind=1->0<=x.src/\x.src.toNat < m.length/\0<=x.dst/\x.dst.toNat < m.length/\(bV m x.src.toNat).length=(bV m x.dst.toNat).length
 k2:x.kind=2->0<=x.dst/\x.dst.toNat < m.length
 k3:x.kind=3->0<=x.ev/\x.ev < 16
 w:fk x.word
theorem fP.buf {S K:AH} {q a:Nat} {ws:List AV} {vc vm vs:AV} {f:Con} {cs:List Cod} {ss:List (List Itm)} {ad:List Nat} {m:List (List Int)} {rc:List Bool} (h:fP S K q a ws vc vm vs f cs ss ad m rc) {d:Nat} (hd:d < m.length):∃ i k,(∀ kk,aC aa 24 vm (.int kk (d:Int))=some (.ptr i k))/\∀ L,ak (K++L) i k 1=some [ws.getD d uA]:=by
 have hdw:d < ws.length:=by rw [h.lw]; exact hd
 obtain ⟨i,k,h1,h2⟩:=h.sm.ix d [ws.getD d uA] (by rw [List.getElem?_map,List.getElem?_eq_getElem hdw,d6 hdw]; rfl);exact ⟨i,k,h1,fun L=>(h.sub.bX L).rd h2⟩
theorem B2 {m:List (List Int)} {d:Nat} {b:List Int} (h:bV m d=b) (hd:d < m.length):m.set d b=m:=by
 refine List.ext_getElem (by simp) fun i h1 h2=>?_;rw [List.getElem_set];split
 · rename_i e; subst e;rw [<-h]; exact d6 hd _
 · rfl
theorem uG:∀ (xs new:List AV),new.length=xs.length->spl xs 0 new=new:=fun xs new h=>by
 rw [iG _ _ _ (by omega),List.take_zero,List.nil_append,cZ,h,Jl,af]
theorem L7 (l:List Int):(ju l).all AV.one=true:=by rw [List.all_eq_true];intro x hx;obtain ⟨n,_,rfl⟩:=bI.1 hx;rfl
theorem fP.copy {S K:AH} {q a:Nat} {ws:List AV} {vc vm vs:AV} {f:Con} {cs:List Cod} {ss:List (List Itm)} {ad:List Nat} {m:List (List Int)} {rc:List Bool} (h:fP S K q a ws vc vm vs f cs ss ad m rc) {s d:Nat} (hs:s < m.length) (hd:d < m.length) (hl:(bV m s).length=(bV m d).length) :
   ∃ Kb n,(∀ L,yT aa 32 (ws.getD d uA) (ws.getD s uA) (K++L)=some (I n,Kb++L))/\fP S Kb q a ws vc vm vs f cs ss ad (m.set d (bV m s)) rc/\Kb.length=K.length/\∀ b,(∀ w∈ws,cF w≠some b)->Kb[b]? =K[b]?:=by
 have hel:gh aa 32=some 21:=by kernel_rfl
 have hin:aa.info? 21=some ((aa.info? 21).getD default):=by kernel_rfl
 have hco:aa.cellsOf 21=1:=by kernel_rfl
 have hdw:d < ws.length:=by rw [h.lw]; exact hd
 have os:=h.own s hs;have od:=h.own d hd;have hls:=os.length;have hld:=od.length;rw [dM] at hls hld;have n1:(ju (bV m s)).length=(bV m s).length:=by unfold ju; simp
 have n2:(ju (bV m d)).length=(bV m d).length:=by unfold ju; simp
 have hsrc:∀ L,∃ g,pL (K++L) 1 (ws.getD s uA)=some (bL (ws.getD s uA),g)/\∀ n,n=bL (ws.getD s uA)->g n=some (ju (bV m s)):=fun L=>by
   generalize ws.getD s uA=w at os;generalize ju (bV m s)=xs at os;cases os with
   | nil=>exact ⟨_,rfl,fun n _=>rfl⟩
   | «at» i k len cap ex c2 xs2 hb hi hl2 hc hrd =>refine ⟨fun n=>if n<=len then ak (K++L) i k (n * 1) else none,by simp [pL,bL],fun n hn=>?_⟩;show (if n<=len then ak (K++L) i k (n * 1) else none)=_;rw [hn,cp,if_pos (aw _)];exact fJ (an.app K L) hrd
 by_cases h0:(bV m d).length=0
 · refine ⟨K,0,fun L=>?_,?_,rfl,fun _ _=>rfl⟩
   · obtain ⟨g,hg1,hg2⟩:=hsrc L;have hz:bL (ws.getD s uA)=0:=by omega
     have hz2:bL (ws.getD d uA)=0:=by omega
     rw [hz] at hg1 hg2;unfold yT;rw [hel,ax,hin,ax,hco,hg1,ax];have od':=od;generalize ju (bV m d)=xd at od';generalize ws.getD d uA=w at od' hz2;cases od' with
     | nil=>rfl
     | «at» i k len cap ex c2 xs2 hb hi hl2 hc hrd =>rw [cp] at hz2;subst hz2;simp only [if_true,WT];rw [hg2 0 rfl];rfl
   · have e1:bV m d=[]:=dO.1 h0;have e2:bV m s=[]:=dO.1 (by omega);rw [e2,B2 e1 hd]; exact h
 · obtain ⟨i,k,len,cap,ex,Kb,hw,hwr,ho',hlen,hK⟩:=od.write (j:=0) (new:=ju (bV m s)) (by omega) (fun e=>by rw [e] at n1; simp at n1; omega) (L7 _);rw [Nat.add_zero] at hwr;rw [uG _ _ (by omega)] at ho';have hbl:cF (ws.getD d uA)=some i:=by rw [hw]; rfl
   refine ⟨Kb,bL (ws.getD s uA),fun L=>?_,h.JK hd hbl hK ho' hl (h.im _ (vC hs)),hlen,fun b hb=>hK b fun e=>hb _ (eF hdw uA) (by rw [hbl,e])⟩;obtain ⟨g,hg1,hg2⟩:=hsrc L;have hz2:bL (ws.getD d uA)=len:=by rw [hw]; rfl
   have hz:bL (ws.getD s uA)=len:=by omega
   rw [hz] at hg1 hg2 ⊢;unfold yT;rw [hel,ax,hin,ax,hco,hg1,ax,hw];simp only [if_true];rw [show Nat.min len len=len from WT len,hg2 len rfl,ax,if_neg (by omega),hwr L];rfl
noncomputable def TV:Code:=aH [false] (f34.body.getD .skip)
noncomputable def TU:Code:=aH [true,false] (f34.body.getD .skip)
noncomputable def TT:Code:=aH [true,true,false] (f34.body.getD .skip)
noncomputable def TS:Code:=aH [true,true,true,false] (f34.body.getD .skip)
noncomputable def TR:Code:=aH [true,true,true,true,false] (f34.body.getD .skip)
noncomputable def TQ:Code:=aH [true,true,true,true,true,false] (f34.body.getD .skip)
noncomputable def pv:Code:=aH [true,true,true,true,true,true,false] (f34.body.getD .skip)
noncomputable def T34:Code:=aH [true,true,true,true,true,true,true] (f34.body.getD .skip)
theorem Wk:c34=.seq TV (.seq TU (.seq TT (.seq TS (.seq TR (.seq TQ (.seq pv T34)))))):=by kernel_rfl
theorem Rp {K:AH} {x:Itm} {va:AV} {r:Nat} (hac:va.cells=[va]) (hao:va.one=true) (hr:∀ L row,row.length=9->row.all AV.one=true->bj (K++L) r 0 row=some (K.set r (.cells row 34)++L))
   (h32:∀ L,Ev aa C0 W0 32 [va] (K++L)=some (bu 1 x.args.length va (K.length+L.length),K++(L++bq 21 va (ju x.args)))) {tm:List AV} (hlen:tm.length=163) (h4:tm.getD 4 uA=.ptr r 0) (h8:tm.getD 8 uA=.ptr (K.length+16) 0) :
   ∃ tm' L row,EvC aa C0 W0 m4 T34 (tm,K++[.fresh,.fresh,.fresh,.fresh,.fresh,.fresh,.fresh,.fresh,.fresh,.fresh,.fresh,.fresh,.fresh,.fresh,.fresh,.fresh,.cells (aJ x va) 34,.fresh])=some (.ret,(tm',K.set r (.cells row 34)++L))/\tm'.length=163/\tm'.getD 4 uA=.ptr r 0/\tm'.getD 5 uA=I 0/\row.length=9:=by
 have hwc:=fun b=>(eL 1 x.args.length va b).1;have hwo:=fun b=>(eL 1 x.args.length va b).2;have hr':=fun L=>hr L (aJ x (bu 1 x.args.length va (K.length+18))) rfl (by show (AV.one _ && (AV.one _ && (AV.one _ && (AV.one _ && (AV.one _ && (AV.one _ && (AV.one _ && (AV.one _ && (AV.one _ && true)))))))))=true;rw [hwo]; rfl);simp only [aJ] at hr';simp -implicitDefEqProofs only [T34,f34,aP,hlen,h4,h8,aJ,↓hac,↓hao,↓hwc,↓hwo,↓VU,h32,fX,ed,hr',↓zzC,zzE,sevalprocAttr];refine ⟨_,_,aJ x (bu 1 x.args.length va (K.length+18)),rfl,?_,?_,?_,rfl⟩
 · simp only [aq,hlen]
 · simp only [hlen,h4,gB,sevalprocAttr]
 · simp only [hlen,gB,sevalprocAttr]
theorem Wb {S K:AH} {q a:Nat} {ws:List AV} {vc vm vs:AV} {f:Con} {cs:List Cod} {ss:List (List Itm)} {ad:List Nat} {m:List (List Int)} {rc:List Bool} (h:fP S K q a ws vc vm vs f cs ss ad m rc) {x:Itm} {va:AV} (hac:va.cells=[va]) (hao:va.one=true) {tm:List AV} (hlen:tm.length=163) (h0:tm.getD 0 uA=.ptr q 0) (h8:tm.getD 8 uA=.ptr (K.length+16) 0) (hk:x.kind=3) (hf:0<=x.ev/\x.ev < 16):∃ tm' Kb,EvC aa C0 W0 m4 pv (tm,K++[.fresh,.fresh,.fresh,.fresh,.fresh,.fresh,.fresh,.fresh,.fresh,.fresh,.fresh,.fresh,.fresh,.fresh,.fresh,.fresh,.cells (aJ x va) 34,.fresh])=some (.normal,(tm',Kb++[.fresh,.fresh,.fresh,.fresh,.fresh,.fresh,.fresh,.fresh,.fresh,.fresh,.fresh,.fresh,.fresh,.fresh,.fresh,.fresh,.cells (aJ x va) 34,.fresh]))/\tm'.length=163/\tm'.getD 4 uA=tm.getD 4 uA/\tm'.getD 8 uA=.ptr (Kb.length+16) 0/\fP S Kb q a ws vc vm vs f cs ss ad m (rc.set x.ev.toNat true)/\Kb.length=K.length/\(∀ b,b≠q->(∀ w∈ws,cF w≠some b)->Kb[b]? =K[b]?):=by
 obtain ⟨kind,code,grid,block,src,dst,ev,args,word⟩:=x;simp only at hk hf ⊢;subst hk;have e0:eqB 3 0=false:=rfl;have e1:eqB 3 1=false:=rfl;have e2:eqB 3 2=false:=rfl;have e3:eqB 3 3=true:=rfl;obtain ⟨Kb,hwr,hQ,hlK,hK⟩:=h.m3 (e:=ev.toNat) (by omega);have hix:∀ kk,aC aa 69 (.ptr q 11) (.int kk ev)=some (.ptr q (11+ev.toNat)):=fun kk=>by rw [Q7,if_pos hf,dM]
 have st4:∀ (H:AH) (i k:Nat) (x:AV),stA aa 4 H i k x=if x.cells.length=1 then bj H i k x.cells else none:=fun H i k x=>by kernel_rfl
 simp -implicitDefEqProofs only [pv,f34,aP,hlen,h0,h8,aJ,e0,e1,e2,e3,↓kG KM,hix,st4,hwr,↓zzC,zzE,sevalprocAttr];exact ⟨_,Kb,rfl,by simp only [ls,hlen],Aj2 (by simp only [hlen,h8,hlK,gB,and_self,sevalprocAttr]) ⟨hQ,hlK,fun b h1 _=>hK b h1⟩⟩
theorem Ro {S K:AH} {q a:Nat} {ws:List AV} {vc vm vs:AV} {f:Con} {cs:List Cod} {ss:List (List Itm)} {ad:List Nat} {m:List (List Int)} {rc:List Bool} (h:fP S K q a ws vc vm vs f cs ss ad m rc) {x:Itm} {va:AV} (hac:va.cells=[va]) (hao:va.one=true) {tm:List AV} (hlen:tm.length=163) (h0:tm.getD 0 uA=.ptr q 0) (h8:tm.getD 8 uA=.ptr (K.length+16) 0) (hk:x.kind≠0/\x.kind≠1/\x.kind≠2/\x.kind≠3) (hf:True):∃ tm' Kb,EvC aa C0 W0 m4 pv (tm,K++[.fresh,.fresh,.fresh,.fresh,.fresh,.fresh,.fresh,.fresh,.fresh,.fresh,.fresh,.fresh,.fresh,.fresh,.fresh,.fresh,.cells (aJ x va) 34,.fresh])=some (.normal,(tm',Kb++[.fresh,.fresh,.fresh,.fresh,.fresh,.fresh,.fresh,.fresh,.fresh,.fresh,.fresh,.fresh,.fresh,.fresh,.fresh,.fresh,.cells (aJ x va) 34,.fresh]))/\tm'.length=163/\tm'.getD 4 uA=tm.getD 4 uA/\tm'.getD 8 uA=.ptr (Kb.length+16) 0/\fP S Kb q a ws vc vm vs f cs ss ad m rc/\Kb.length=K.length/\(∀ b,b≠q->(∀ w∈ws,cF w≠some b)->Kb[b]? =K[b]?):=by obtain ⟨kind,code,grid,block,src,dst,ev,args,word⟩:=x;simp only at hk hf ⊢;have e0:eqB kind 0=false:=fR hk.1;have e1:eqB kind 1=false:=fR hk.2.1;have e2:eqB kind 2=false:=fR hk.2.2.1;have e3:eqB kind 3=false:=fR hk.2.2.2;simp -implicitDefEqProofs only [pv,f34,aP,hlen,h0,h8,aJ,e0,e1,e2,e3,↓zzC,zzE,sevalprocAttr];exact ⟨_,K,rfl,by simp only [ls,hlen],Aj2 (by simp only [hlen,h8,gB,and_self,sevalprocAttr]) ⟨h,rfl,fun b _ _=>rfl⟩⟩
theorem Rr {S K:AH} {q a:Nat} {ws:List AV} {vc vm vs:AV} {f:Con} {cs:List Cod} {ss:List (List Itm)} {ad:List Nat} {m:List (List Int)} {rc:List Bool} (h:fP S K q a ws vc vm vs f cs ss ad m rc) {x:Itm} {va:AV} (hac:va.cells=[va]) (hao:va.one=true) {tm:List AV} (hlen:tm.length=163) (h0:tm.getD 0 uA=.ptr q 0) (h8:tm.getD 8 uA=.ptr (K.length+16) 0) (hk:x.kind=1) (hf:0<=x.src/\x.src.toNat < m.length/\0<=x.dst/\x.dst.toNat < m.length/\(bV m x.src.toNat).length=(bV m x.dst.toNat).length):∃ tm' Kb,EvC aa C0 W0 m4 pv (tm,K++[.fresh,.fresh,.fresh,.fresh,.fresh,.fresh,.fresh,.fresh,.fresh,.fresh,.fresh,.fresh,.fresh,.fresh,.fresh,.fresh,.cells (aJ x va) 34,.fresh])=some (.normal,(tm',Kb++[.fresh,.fresh,.fresh,.fresh,.fresh,.fresh,.fresh,.fresh,.fresh,.fresh,.fresh,.fresh,.fresh,.fresh,.fresh,.fresh,.cells (aJ x va) 34,.fresh]))/\tm'.length=163/\tm'.getD 4 uA=tm.getD 4 uA/\tm'.getD 8 uA=.ptr (Kb.length+16) 0/\fP S Kb q a ws vc vm vs f cs ss ad (m.set x.dst.toNat (bV m x.src.toNat)) rc/\Kb.length=K.length/\(∀ b,b≠q->(∀ w∈ws,cF w≠some b)->Kb[b]? =K[b]?):=by
 obtain ⟨kind,code,grid,block,src,dst,ev,args,word⟩:=x;simp only at hk hf ⊢;subst hk;have e0:eqB 1 0=false:=rfl;have e1:eqB 1 1=true:=rfl;have e2:eqB 1 2=false:=rfl;have e3:eqB 1 3=false:=rfl;obtain ⟨f1,f2,f3,f4,f5⟩:=hf;obtain ⟨s,rfl⟩:∃ s:Nat,src=s:=⟨src.toNat,by omega⟩;obtain ⟨d,rfl⟩:∃ d:Nat,dst=d:=⟨dst.toNat,by omega⟩;rw [cN] at f2 f4 f5;rw [cN] at f5;rw [cN,cN];obtain ⟨Kb,n,hcp,hQ,hlK,hK⟩:=h.copy f2 f4 f5;obtain ⟨i0,k0,hix0,hrd0⟩:=h.buf f2;obtain ⟨i1,k1,hix1,hrd1⟩:=h.buf f4;have hq1:∀ L,ak (K++L) q 1 1=some [vm]:=fun L=>by have:=h.view.cell (an.refl K) L 1 (x:=vm) rfl; rwa [cZ] at this
 simp -implicitDefEqProofs only [pv,f34,aP,hlen,h0,h8,aJ,e0,e1,e2,e3,↓kG KQ,hq1,hix0,hix1,hrd0,hrd1,↓Fp,hcp,↓zzC,zzE,sevalprocAttr];exact ⟨_,Kb,rfl,by simp only [ls,hlen],Aj2 (by simp only [hlen,h8,hlK,gB,and_self,sevalprocAttr]) ⟨hQ,hlK,fun b _ h2=>hK b h2⟩⟩
theorem IB {HK:Nat->AH} {n q b k0 c e:Nat} {ex:Bool} {vm:AV} {x:Itm} {va:AV} {p:Nat} {d:Nat} (hd:x.dst=d)
   (hq1:∀ j,j < n->ak (HK j) q 1 1=some [vm]) (hix:∀ j,j < n->∃ i k,(∀ kk,aC aa 24 vm (.int kk (d:Int))=some (.ptr i k))/\ak (HK j) i k 1=some [.slice b k0 1 n c ex])
   (hx5:∀ j,j < n->ak (HK j) p 5 1=some [I x.dst]) (hx8:∀ j,j < n->ak (HK j) p 8 1=some [.int .i32 x.word]) (hwr:∀ j,j < n->bj (HK j) b (k0+j) [.int .i32 x.word]=some (HK (j+1))) (hn:n < 2 ^ 60) :
   ∀ (dd j:Nat) (tm:List AV),n - j=dd->j<=n->tm.length=163->tm.getD 0 uA=.ptr q 0->tm.getD 8 uA=.ptr p 0->tm.getD 133 uA=I n->tm.getD 134 uA=I (j:Int) ->
   ∃ X,EvC aa C0 W0 m4 Gh (tm,HK j)=some (.exit 1,(X,HK n))/\X.length=163/\X.getD 8 uA=.ptr p 0/\X.getD 4 uA=tm.getD 4 uA:=by
 intro dd
 induction dd with
 | zero =>
   intro j tm hd2 hj hlen h0 h8 h133 h134
   have hjl:j=n:=by omega
   subst hjl
   have hlt:ltB (j:Int) (j:Nat)=false:=cw (by omega)
   rw [Nw]
   simp -implicitDefEqProofs only [GS,f34,aP,hlen,h0,h8,h133,h134,hlt,↓zzA,zzB,sevalprocAttr]
   exact ⟨_,rfl,by simp only [ls,hlen],by simp only [hlen,h8,gB,and_self,sevalprocAttr]⟩
 | succ dd ih =>
   intro j tm hd2 hj hlen h0 h8 h133 h134
   have hjn:j < n:=by omega
   have hlt:ltB (j:Int) (n:Nat)=true:=cu (by omega)
   have hw:=b6 (j:=j) (by omega)
   have a1:=hq1 j hjn
   obtain ⟨i,k,a2,a3⟩:=hix j hjn
   have a4:=hx5 j hjn
   have a5:=hx8 j hjn
   have a6:=hwr j hjn
   rw [hd] at a4
   have a7:∀ kk,aC aa 32 (.slice b k0 1 n c ex) (.int kk (j:Int))=some (.ptr b (k0+j)):=fun kk=>by
     rw [YU,if_pos ⟨by omega,by omega,rfl⟩,cN,dM]
   rw [Nw]
   simp -implicitDefEqProofs only [GS,f34,aP,hlen,h0,h8,h133,h134,hlt,hw,a1,a2,a3,a4,a5,a6,a7,fT,↓kG KN,↓zzC,zzE,sevalprocAttr]
   generalize hX:EvC aa C0 W0 _ _ _=Z
   have key:∀ (tm1:List AV),EvC aa C0 W0 m4 Gh (tm1,HK (j+1))=Z->tm1.length=163->tm1.getD 0 uA=.ptr q 0->tm1.getD 8 uA=.ptr p 0->tm1.getD 133 uA=I n->tm1.getD 134 uA=I ((j+1:Nat):Int)->tm1.getD 4 uA=tm.getD 4 uA->∃ X,Z=some (.exit 1,(X,HK n))/\X.length=163/\X.getD 8 uA=.ptr p 0/\X.getD 4 uA=tm.getD 4 uA:=by
     intro tm1 h hl1 h0 h8 h133 h134 h4
     obtain ⟨X,he,b1,b2,b3⟩:=ih (j+1) tm1 (by omega) (by omega) hl1 h0 h8 h133 h134
     exact ⟨X,h.symm.trans he,b1,b2,b3.trans h4⟩
   exact key _ hX (by simp only [ls,hlen]) (by simp only [hlen,h0,gB,sevalprocAttr]) (by simp only [hlen,h8,gB,sevalprocAttr]) (by simp only [hlen,h133,gB,sevalprocAttr]) (by simp only [hlen,h134,gB,sevalprocAttr]) (by simp only [hlen,gB,sevalprocAttr])
end Go.Dv
