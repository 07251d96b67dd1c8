/- Part 26 of the walks (own work). -/
import Derived.Test.YtilpjnckfkjkbaaGreatDoorT25
open Int renaming toNat_natCast→cw
open List renaming append_assoc→aG,append_nil→af,drop_length→Iw,drop_take→rX,drop_zero→gA,getElem?_set→cL,getElem?_set_ne→aB,getElem?_set_self→bH,length_eq_zero_iff→dA,length_map→ar,length_replicate→gP,length_set→aq,length_take→d4,map_set→SH,mem_cons→bO,mem_iff_getElem→lR,mem_map→bL,mem_map_of_mem→jD,mem_or_eq_of_mem_set→zm,replicate→ay,take_append→vX,take_length→gH,take_of_length_le→bq,take_take→rB
open Nat renaming le_add_right→du,le_refl→ax,le_trans→ba,lt_of_lt_of_le→bu,min_self→Vy,mul_one→dz,zero_add→c7,zero_le→cX
open Option renaming bind_some→aA
open Option.some renaming inj→aE
open Go.Proofs.Tryz renaming prog→aa
set_option maxRecDepth 100000
set_option maxHeartbeats 4000000
set_option linter.unusedSimpArgs false
set_option linter.unusedVariables false
namespace Go.Dv
open Go.Proofs
attribute [local congr] aF bC aY bB bD
def lh (H:AH) (ws:List AV):List Nat:=(H.length+10)::(H.length+8)::ws.filterMap cu
theorem lf {H:AH} {ws:List AV} {d:Nat}:d∈lh H ws↔d=H.length+10∨d=H.length+8∨∃ w∈ws,cu w=some d:=by
 unfold lh
 rw [bO,bO,List.mem_filterMap]
theorem Iz {N:Nat} {HH:AH} (hH:HH.length=N+1) {l:List (List Int × AV)} (hv:∀ p∈l,p.2=.nilSlice->p.1=[]) {i b:Nat} (hi:i < l.length) (hb:cu ((db N l).1.getD i uA)=some b) :
   N+1+(db N (l.take i)).2.length<=b/\b < N+1+(db N (l.take (i+1))).2.length:=by
 obtain ⟨_,h⟩:=xW hH l hv l.length (ax _) i hi
 rw [gH] at h
 generalize (db N l).1.getD i uA=w at hb h
 cases w <;> simp only [cu] at hb <;> first | (cases hb; done) | skip
 cases hb
 exact h _ _ _ _ _ _ rfl
theorem WJ {H K4 K5 K6:AH} {l0:List (Cod × AV × AV × AV)} {l:List (List Int × AV)} {ss:List (List Itm)} {vc:AV} {f:Con} {N c:Nat} {ws:List AV}
   (F:Dt H K4 (l0.map iS) l ss.length vc f N c ws) (hv:∀ p∈l,p.2=.nilSlice->p.1=[])
   (hC5:AgX K4 K5 c) (hC:E6 (c::lh H ws) K5 c l0 l0.length)
   (hS:E2 (lh H ws) K5 K6 (H.length+10) (bp 5 (l0.map iS).length vc (H.length+12)) (.slice N 0 1 l.length l.length true) (.slice (H.length+8) 0 1 ss.length ss.length true) f ss ss.length)
   (G:Good (l0.map (·.1)) (l.map (·.1)) ss f) (hcn:l0.length < 2 ^ 50) (hsn:ss.length < 2 ^ 50) (him:∀ p∈l,∀ x∈p.1,e9 x) :
   ∃ S vs,fF S K6 (H.length+10) (H.length+8) ws (bp 5 (l0.map iS).length vc (H.length+12)) (.slice N 0 1 l.length l.length true) vs f (l0.map (·.1)) ss (ay ss.length 0) (l.map (·.1)) rc0/\au H K6/\au H S:=by
 obtain ⟨hX6,vq,hKq,prq,hprq,hoq,hitq⟩:=hS
 obtain ⟨pr,hpr,hcod,hKc⟩:=hC.ex
 rw [gH] at hprq
 rw [gH] at hpr
 rw [Iw,List.map_nil,af] at hKc
 have eN:=F.eN
 have hlen:=F.len
 have hws:=F.ws_
 have hwl:ws.length=l.length:=by rw [hws,nU]
 obtain ⟨HH,hHH,hK4⟩:=F.hh
 have g54:∀ b,b < K4.length->b≠c->K5[b]? =K4[b]?:=hC5.2
 have g65:∀ b,b < K5.length->b≠H.length+10->K6[b]? =K5[b]?:=hX6.2
 have g64:∀ b,b < K4.length->b≠c->b≠H.length+10->K6[b]? =K4[b]?:=fun b h1 h2 h3=>(g65 b (bu h1 hC5.1) h3).trans (g54 b h1 h2)
 have hNl:N < K4.length:=by omega
 have hcN:=F.cl
 have hc0:=F.c0
 have hH4:H.length<=K4.length:=F.ag.len
 have hAH:au H K6:=fun i hi=>(g64 i (by omega) (by omega) (by omega)).trans (F.ag i hi)
 have hwi:∀ i b,i < ws.length->cu (ws.getD i uA)=some b->N+1+(db N (l.take i)).2.length<=b/\b < N+1+(db N (l.take (i+1))).2.length:=fun i b hi hb=>Iz hHH hv (by omega) (by rw [<-hws]; exact hb)
 have htop:∀ i,(db N (l.take i)).2.length<=(db N l).2.length:=fun i=>by
   rcases Nat.lt_or_ge i l.length with h | h
   · have:=qF N l (i:=i) (j:=l.length) (Nat.le_of_lt h)
     rwa [gH] at this
   · rw [bq h]; exact ax _
 have hwb:∀ w∈ws,∀ b,cu w=some b->N+1<=b/\b < K4.length:=fun w hw b hb=>by
   obtain ⟨i,hi,e⟩:=lR.1 hw
   have:=hwi i b hi (by rw [dU hi,e]; exact hb)
   have:=htop (i+1)
   omega
 have hDm:∀ d∈lh H ws,d < K4.length/\d≠N/\d≠c:=fun d hd=>by
   have h1:=F.cq
   have h2:=F.ca
   rcases lf.1 hd with h | h | ⟨w,hw,h⟩
   · subst h; exact ⟨by omega,by omega,h1⟩
   · subst h; exact ⟨by omega,by omega,h2⟩
   · have:=hwb w hw d h
     exact ⟨this.2,by omega,by omega⟩
 have hqD:H.length+10∈lh H ws:=lf.2 (.inl rfl)
 have hSg:∀ b,b∉lh H ws->(d8 (lh H ws) K6)[b]? =K6[b]?:=fun b h=>jV _ _ b h
 have hne:∀ b o,b∉lh H ws->K6[b]? =some o->(d8 (lh H ws) K6)[b]? =some o:=fun b o h ho=>(hSg b h).trans ho
 have hSN:(d8 (lh H ws) K6)[N]? =some (.cells ws 32):=hne N _ (fun h=>(hDm N h).2.1 rfl) ((g64 N hNl (by omega) (by omega)).trans F.kN)
 have hsubC:Sub (d8 (c::lh H ws) K5) (d8 (lh H ws) K6):=fun b o hb ho=>by
   have hbD:b∉c::lh H ws:=fun h=>(iC _ K5 b h).ne hb ho rfl
   rw [jV _ _ b hbD] at hb
   have h1:b∉lh H ws:=fun h=>hbD (List.mem_cons_of_mem _ h)
   exact hne b o h1 ((g65 b (aJ hb) (fun e=>h1 (by rw [e]; exact hqD))).trans hb)
 have hAS:au H (d8 (lh H ws) K6):=fun i hi=>by
   rw [hSg i fun hd=>?_]
   · exact hAH i hi
   · rcases lf.1 hd with h | h | ⟨w,hw,h⟩
     · omega
     · omega
     · have:=hwb w hw _ h; omega
 refine ⟨d8 (lh H ws) K6,vq,?_,hAH,hAS⟩
 refine { sub:=zR _ _,gq:=iC _ _ _ hqD,ga:=iC _ _ _ (lf.2 (.inr (.inl rfl))),gw:=fun w hw b hb=>iC _ _ _ (lf.2 (.inr (.inr ⟨w,hw,hb⟩))),qa:=by omega,qw:=fun w hw=>⟨fun e=>by have:=hwb w hw _ e; omega,fun e=>by have:=hwb w hw _ e; omega⟩,ww:=?ww,kq:=by rw [gP]; exact hKq,ka:=?ka,c:=?c,s:=?s,sm:=?sm,lw:=by rw [hwl,ar],own:=?own,la:=gP,le:=fun i _=>?le,lr:=rfl,ev:=G.ev,few:=G.few,fs:=G.n4,nm:=G.nm,nb:=G.nb,im:=?im }
 case ww =>
   intro i j b hi hj hbi hbj
   have h1:=hwi i b hi hbi
   have h2:=hwi j b hj hbj
   rcases Nat.lt_trichotomy i j with h | h | h
   · have:=qF N l (i:=i+1) (j:=j) h; omega
   · exact h
   · have:=qF N l (i:=j+1) (j:=i) h; omega
 case ka =>
   rw [g64 _ (by omega) F.ca (by omega),F.ka]
   rw [List.map_replicate]; rfl
 case le =>
   rw [gde,List.getElem?_replicate]
   split <;> exact cX _
 case im =>
   intro b hb
   obtain ⟨p,hp,rfl⟩:=bL.1 hb
   exact him p hp
 case own =>
   intro i hi
   rw [ar] at hi
   obtain ⟨h,_⟩:=xW hHH l hv l.length (ax _) i hi
   rw [gH,<-hK4,<-hws] at h
   have hb:bN (l.map (·.1)) i=(l.getD i ([],uA)).1:=by
     unfold bN
     rw [dU (by rw [ar]; exact hi),dU hi,List.getElem_map]
   rw [hb]
   refine (h.other fun b k e len cap ex hv'=>?_).up (cX _)
   have hiw:i < ws.length:=by omega
   have:=hwb (ws.getD i uA) (eQ hiw uA) b (by rw [hv']; rfl)
   exact g64 b this.2 (by omega) (by omega)
 case sm =>
   have h:=nA (T:=24) (es:=1) FO (H:=d8 (lh H ws) K6) (i:=N) (k:=0) (c:=l.length) (e:=true) (rows:=ws.map fun w=>[w]) (by
     intro r hr
     obtain ⟨w,_,rfl⟩:=bL.1 hr
     rfl) (by unfold okC; rw [hSN]) (by
     unfold ak
     rw [hSN]
     simp only [ar]
     rw [if_pos (by omega),gA,bq (by omega),rP,List.map_id'' (fun _=>rfl)])
   rwa [ar,hwl] at h
 case s =>
   have hoS:Own K5.length (d8 (lh H ws) K6) 1 31 vq (prq.map (·.2)):=hoq.other fun b k e len cap ex hv'=>by
     have hb:=gT hoq (i:=b) (by rw [hv']; rfl)
     exact hSg b fun h=>by have:=(hDm b h).1; have:=hC5.1; omega
   refine ⟨⟨prq,hprq,?_,fun p hp=>(hitq p hp).sub fun b o hb ho=>?_⟩,hsn⟩
   · have hfl:(prq.map fun p=>[p.2]).flatten=prq.map (·.2):=rP _ _
     exact Own.nB FN (by decide) (by rw [hfl]; exact hoS) (by
       intro r hr
       obtain ⟨p,_,rfl⟩:=bL.1 hr
       rfl)
   · have hbD:b∉lh H ws:=fun h=>(iC _ (bM vq K6) b h).ne hb ho rfl
     rw [jV _ _ b hbD] at hb
     exact hne b o hbD ((zP vq K6) b o hb ho)
 case c =>
   refine ⟨⟨pr,hpr,?_,fun p hp=>(hcod p hp).sub hsubC⟩,by rw [ar]; exact hcn⟩
   have hprl:pr.length=l0.length:=by
     have:=congrArg List.length hpr
     rwa [ar,ar] at this
   by_cases h0:l0=[]
   · subst h0
     have:pr=[]:=dA.1 hprl
     subst this
     obtain ⟨hcH,h | ⟨h,h12,hk⟩⟩:=F.ce rfl
     · rw [h]; exact kS zV _
     · rw [h]
       have h1:(d8 (lh H ws) K6)[H.length+12]? =some (.cells [] 66):=by
         refine hne _ _ (fun hd=>?_) ((g64 _ (by omega) (by omega) (by omega)).trans hk)
         rcases lf.1 hd with h | h | ⟨w,hw,h⟩
         · omega
         · omega
         · have:=hwb w hw _ h; omega
       exact nA (rows:=[]) zV (by simp) (by unfold okC; rw [h1]) (by
         unfold ak
         rw [h1]; rfl)
   · have hr0:l0.map iS≠[]:=fun e=>h0 (by simpa using e)
     obtain ⟨hcv,_⟩:=F.kc hr0
     have hvn:vc≠.nilSlice:=fun e=>by
       have eN':=F.eN
       rw [e] at eN'
       have:(bo 66 AV.nilSlice (l0.map iS).flatten).length=0:=rfl
       omega
     have hn0:(l0.map iS).length≠0:=fun e=>hr0 (dA.1 e)
     have hcvv:bp 5 (l0.map iS).length vc (H.length+12)=.slice (H.length+13) 0 5 (l0.map iS).length (l0.map iS).length false:=by
       have:bp 5 (l0.map iS).length vc (H.length+12)=if (l0.map iS).length=0 then .slice (H.length+12) 0 5 0 0 true else .slice (H.length+12+1) 0 5 (l0.map iS).length (l0.map iS).length false:=by
         cases vc <;> first | rfl | exact absurd rfl hvn
       rw [this,if_neg hn0]
     rw [hcvv]
     have hSc:(d8 (lh H ws) K6)[c]? =some (.cells (pr.map iS).flatten 66):=hne c _ (fun h=>(hDm c h).2.2 rfl) ((g65 c (by have:=hC5.1; omega) (Ne.symm F.cq)).trans (hKc h0))
     rw [<-hcv]
     have h:=nA (T:=22) (es:=5) zV (H:=d8 (lh H ws) K6) (i:=c) (k:=0) (c:=(l0.map iS).length) (e:=false) (rows:=pr.map iS) (nS pr) (by unfold okC; rw [hSc]) (by
       unfold ak
       rw [hSc]
       simp only
       rw [if_pos (by rw [dM (nS pr)]; omega),gA,bq (by rw [dM (nS pr)]; exact ax _)])
     rw [ar,hprl] at h
     rw [ar]
     rw [ar] at h
     exact h
theorem adh {H:AH} {cs:List Cod} {m:List (List Int)} {ss:List (List Itm)} {vc vm vs:AV} (hc:dk H cs vc) (hm:dZ H m vm) (hs:dy H ss vs) (f:Con) (hk:gX cs m ss f=0):∃ K S q a ws vc' vm' vs',Ev aa C0 W0 10 [vc,vm,vs,.agg (fg f)] H=some (.tuple [.ptr q 0,I 0],K)/\au H K/\H.length<=q/\fF S K q a ws vc' vm' vs' f cs ss (ay ss.length 0) m rc0/\au H S:=by
 obtain ⟨⟨l0,hl0,hs0,hcod⟩,hcn⟩:=hc
 have hc:dk H cs vc:=⟨⟨l0,hl0,hs0,hcod⟩,hcn⟩
 obtain ⟨⟨l,hl,hsl,hpl⟩,hmn,hmb,him⟩:=hm
 have hm:dZ H m vm:=⟨⟨l,hl,hsl,hpl⟩,hmn,hmb,him⟩
 have hsn:=hs.n
 have hxb:∀ xs∈ss,xs.length < 2 ^ 50:=fun xs hx=>by
   obtain ⟨⟨l2,e2,_,h2⟩,_⟩:=hs
   rw [<-e2] at hx
   obtain ⟨p,hp,rfl⟩:=bL.1 hx
   exact (h2 p hp).n
 have G:=tz hxb hk
 obtain ⟨tm,ht,g0,g1,g2,g3,g4⟩:=tm4 vc vm vs (.agg (fg f)) 100 (by decide)
 rw [ab0,ht]
 have h26:=UQ (hc.bg (au.app H [.cells [I f.w,.bool f.free,I f.cores,I f.slots,I f.room,I f.pol,I f.lat] 27])) (hm.bg (au.app H [.cells [I f.w,.bool f.free,I f.cores,I f.slots,I f.room,I f.pol,I f.lat] 27])) (hs.bg (au.app H [.cells [I f.w,.bool f.free,I f.cores,I f.slots,I f.room,I f.pol,I f.lat] 27])) f
 simp only [fg] at h26
 rw [hk] at h26
 have e0:eqB 0 0=true:=rfl
 have hlc:=hc.len
 have hls:=hs.len
 simp -implicitDefEqProofs only [c10,Tryz.f10,aP,g0,g1,g2,g3,g4,fg,↓UK,h26,e0,r5,↓az,nck,show ∀ o,put none H o=some (H.length,H++[o]) from fun _=>rfl,↓cbT,↓cbF,↓ao,an,eu,sevalprocAttr]
 have hll:l.length=m.length:=by rw [<-hl,ar]
 have h27:=fun L=>ac8 hs0 (nS l0) (by rw [ar]; exact iD b66 (by have:=G.nc; rw [<-hl0,ar] at this; omega)) L
 have h28:=fun L=>YZ hsl hpl (by have:=G.nm; omega) (fun p hp=>ba (G.nb p.1 (by rw [<-hl]; exact jD hp)) (by decide)) L
 generalize hR:EvC aa C0 W0 _ (Code.region _ _ _) _=R
 obtain ⟨t,he,tl,t2,t11⟩:=Js (rows:=l0.map iS) (l:=l) (n:=ss.length) f h27 h28 hls G.n4 hR (by simp only [ls,g0]) (by simp only [g0,g1,gB,sevalprocAttr]) (by simp only [g0,g2,gB,sevalprocAttr]) (by simp only [g0,g3,gB,sevalprocAttr]) (by simp only [g0,gB,sevalprocAttr])
 subst he
 obtain ⟨N,c,ws,F⟩:=El (H:=H) (l:=l) (n:=ss.length) (f:=f) (nS l0) (fun e=>mC hs0 e)
 generalize uD H (l0.map iS) l ss.length vc f=K4 at *
 have hqr:ak K4 (H.length+10) 0 1=some [bp 5 (l0.map iS).length vc (H.length+12)]:=by
   unfold ak
   rw [F.kq]
   simp only
   rw [if_pos (by rw [nO _ _ _ _ _ rfl]; decide)]; rfl
 have hcl0:=EN (n:=(l0.map iS).length) (v:=vc) (b:=H.length+12) (fun e=>by rw [show l0.map iS=[] from mC hs0 e]; rfl)
 have h00:(l0.map iS).length=l0.length:=ar ..
 have hcl:∀ G,dQ aa 22 G (bp 5 (l0.map iS).length vc (H.length+12))=some (I l0.length):=fun G=>(hcl0 G).trans (by rw [h00])
 simp -implicitDefEqProofs only [tl,t2,t11,hqr,hcl,r5,↓az,nck,show ∀ o,put none H o=some (H.length,H++[o]) from fun _=>rfl,↓cbT,↓cbF,↓ao,an,eu,sevalprocAttr]
 have hNl:N < K4.length:=by have:=F.len; omega
 have hDl:∀ d∈lh H ws,d < K4.length:=fun d hd=>by
   have h1:=F.eN
   rcases lf.1 hd with h | h | ⟨w,hw,h⟩
   · omega
   · omega
   · obtain ⟨HH,hHH,hK4⟩:=F.hh
     obtain ⟨i,hi,e⟩:=lR.1 hw
     have hwl:ws.length=l.length:=by rw [F.ws_,nU]
     have h2:=Iz hHH (l:=l) (fun p hp e=>by have:=mC (hpl p hp) e; simpa using this) (i:=i) (b:=d) (by omega) (by rw [<-F.ws_,dU hi,e]; exact h)
     have h3:=F.len
     have h4:(db N (l.take (i+1))).2.length<=(db N l).2.length:=by
       have:=qF N l (i:=i+1) (j:=l.length) (by omega)
       rwa [gH] at this
     omega
 generalize hX:EvC aa C0 W0 _ (Code.loop _) _=Z
 obtain ⟨X,K5,he5,x0,x2,x11,x40,x41,x42,hX5,hC5⟩:=PJ (H:=H) (K4:=K4) (l0:=l0) (vs:=vs) (cv:=bp 5 (l0.map iS).length vc (H.length+12)) (q:=H.length+10) (c:=c) (D:=c::lh H ws) F.ag F.c0 (by have:=F.cl; omega) hcod (fun p hp=>by have:=G.cod p.1 (by rw [<-hl0]; exact jD hp); omega) hqr F.cq (List.mem_cons_self ..) (fun d hd=>by
     rcases bO.1 hd with h | h
     · rw [h]; have:=F.cl; omega
     · exact hDl d h) (fun j hj kk=>by
     have hr0:l0.map iS≠[]:=fun e=>by
       have:l0=[]:=by simpa using e
       rw [this] at hj; simp at hj
     obtain ⟨hcv,_⟩:=F.kc hr0
     have hvn:vc≠.nilSlice:=fun e=>by
       have:=mC hs0 e
       exact hr0 this
     have hn0:(l0.map iS).length≠0:=fun e=>hr0 (dA.1 e)
     have:bp 5 (l0.map iS).length vc (H.length+12)=if (l0.map iS).length=0 then .slice (H.length+12) 0 5 0 0 true else .slice (H.length+12+1) 0 5 (l0.map iS).length (l0.map iS).length false:=by
       cases vc <;> first | rfl | exact absurd rfl hvn
     rw [this,if_neg hn0,XG,if_pos ⟨by omega,by rw [h00]; omega,rfl⟩,hcv,cw,c7]) (by have:=G.nc; rw [<-hl0,ar] at this; omega) _ 0 _ _ _ hX rfl (Nat.zero_le _) ⟨by simp only [ls,tl],Aj4 (by simp only [tl,t2,t11,gB,and_self,sevalprocAttr]) ⟨by simp only [tl,gB,sevalprocAttr]; try rfl,AgX.refl _ _,⟨[],rfl,by simp,fun h=>by
     obtain ⟨_,hk⟩:=F.kc (fun e=>h (by simpa using e))
     rw [hk]; rfl⟩⟩⟩
 subst he5
 simp -implicitDefEqProofs only [x0,x2,x11,hls,r5,↓az,nck,show ∀ o,put none H o=some (H.length,H++[o]) from fun _=>rfl,↓cbT,↓cbF,↓ao,an,eu,sevalprocAttr]
 have hH5:au H K5:=fun i hi=>(hX5.2 i (bu hi F.ag.len) (by have:=F.c0; omega)).trans (F.ag i hi)
 have hq5:K5[H.length+10]? =_:=(hX5.2 _ (by have:=F.eN; omega) F.cq).trans F.kq
 generalize hX:EvC aa C0 W0 _ (Code.loop _) _=Z
 obtain ⟨X6,K6,he6,y0,y11,y67,y68,y69,hS6⟩:=PH (H:=H) (K5:=K5) (ss:=ss) (vs:=vs) (cv:=bp 5 (l0.map iS).length vc (H.length+12)) (mv:=.slice N 0 1 l.length l.length true) (av:=.slice (H.length+8) 0 1 ss.length ss.length true) (f:=f) (q:=H.length+10) (D:=lh H ws) hH5 (du _ _) (by have:=F.eN; have:=hX5.1; omega) hs G.n4 (fun xs hx=>⟨ba (G.len xs hx) (by decide),fun x hxx=>ba (G.args xs hx x hxx) (by decide)⟩) (lf.2 (.inl rfl)) (fun d hd=>bu (hDl d hd) hX5.1) (by have:=G.n4; omega) _ 0 _ _ _ hX rfl (Nat.zero_le _) ⟨by simp only [ls,x0],Aj3 (by simp only [x0,x11,gB,and_self,sevalprocAttr]) ⟨by simp only [x0,gB,sevalprocAttr]; try rfl,⟨AgX.refl _ _,.nilSlice,hq5,[],rfl,.nil,by simp⟩⟩⟩
 subst he6
 obtain ⟨S,vs',hQ,hA,hAS⟩:=WJ F (fun p hp e=>by have:=mC (hpl p hp) e; simpa using this) hX5 hC5 hS6 (by rw [hl0,hl]; exact G) (by rw [<-hl0,ar] at hcn; exact hcn) hsn (fun p hp x hx=>him p.1 (by rw [<-hl]; exact jD hp) x hx)
 rw [hl0,hl] at hQ
 refine ⟨K6,S,_,_,_,_,_,vs',?_,hA,du _ _,hQ,hAS⟩
 simp -implicitDefEqProofs only [y0,y11,r5,↓az,nck,show ∀ o,put none H o=some (H.length,H++[o]) from fun _=>rfl,↓cbT,↓cbF,↓ao,an,eu,sevalprocAttr]
theorem F4 (ad:List Nat) (s:Nat):(doA ad s).length=ad.length:=by unfold doA; rw [aq]
theorem F5 (ad:List Nat) (s t:Nat) (hs:s < ad.length):(doA ad s).getD t 0=if t=s then ad.getD s 0+1 else ad.getD t 0:=by
 unfold doA
 rw [gde,cL]
 by_cases h:s=t
 · subst h; rw [if_pos rfl,if_pos hs,if_pos rfl]; rfl
 · rw [if_neg h,if_neg (Ne.symm h),<-gde]
theorem fF.aaw {S K:AH} {q a:Nat} {ws:List AV} {vc vm vs:AV} {f:Con} {cs:List Cod} {ss:List (List Itm)} {ad:List Nat} {m:List (List Int)} {rc:List Bool} (h:fF S K q a ws vc vm vs f cs ss ad m rc) {s:Nat} (hs:s < ss.length) (hk:ad.getD s 0 < (aW ss s).length) :
   ∃ K',(∀ L,bh (K++L) a s [I (ad.getD s 0+1:Nat)]=some (K'++L))/\fF S K' q a ws vc vm vs f cs ss (doA ad s) m rc/\K'.length=K.length/\∀ b,b≠a->K'[b]? =K[b]?:=by
 have hsa:s < ad.length:=by rw [h.la]; exact hs
 have hw:=fun L=>iu h.ka (k:=s) (xs:=[I (ad.getD s 0+1:Nat)]) (by simp; omega) rfl L
 have e:spl (ad.map fun (n:Nat)=>I (n:Int)) s [I (ad.getD s 0+1:Nat)]=(doA ad s).map fun (n:Nat)=>I (n:Int):=by
   show (ad.map fun (n:Nat)=>I (n:Int)).set s _=_
   unfold doA
   rw [SH]
 rw [e] at hw
 have hal:=aJ h.ka
 refine ⟨_,hw,{ h with sub:=h.sub.pC h.ga _,kq:=?_,ka:=?_,own:=fun i hi=>?_,la:=by rw [F4]; exact h.la,le:=fun i hi=>?_ },aq ..,fun b hb=>aB (Ne.symm hb)⟩
 · rw [aB (Ne.symm h.qa),F4]; exact h.kq
 · rw [bH hal]
 · refine (h.own i hi).other fun b k e l c x hv=>aB fun he=>?_
   exact (h.qw _ (eQ (by rw [h.lw]; exact hi) uA)).2 (by rw [hv,he]; rfl)
 · rw [F5 _ _ _ hsa]
   split
   · rename_i e; subst e; exact hk
   · exact h.le i hi
theorem DT (vc vm vs va:AV) (f:Con) {rc:List Bool} (hl:rc.length=16) (en:Int) {e:Nat} (he:e < 16):(lF vc vm vs va f rc en).set (11+e) (.bool true)=lF vc vm vs va f (rc.set e true) en:=by
 unfold lF fg
 rw [List.set_append_left _ _ (by simp [hl]; omega),List.set_append_right _ _ (by simp)]
 simp only [List.length_append,List.length_cons,List.length_nil,Nat.reduceAdd,Nat.add_sub_cancel_left]
 rw [<-SH]
theorem fF.pC {S K:AH} {q a:Nat} {ws:List AV} {vc vm vs:AV} {f:Con} {cs:List Cod} {ss:List (List Itm)} {ad:List Nat} {m:List (List Int)} {rc:List Bool} (h:fF S K q a ws vc vm vs f cs ss ad m rc) {e:Nat} (he:e < 16) :
   ∃ K',(∀ L,bh (K++L) q (11+e) [.bool true]=some (K'++L))/\fF S K' q a ws vc vm vs f cs ss ad m (rc.set e true)/\K'.length=K.length/\∀ b,b≠q->K'[b]? =K[b]?:=by
 have hw:=fun L=>iu h.kq (k:=11+e) (xs:=[.bool true]) (by rw [nO _ _ _ _ _ h.lr]; simp; omega) rfl L
 have e1:spl (lF vc vm vs (.slice a 0 1 ad.length ad.length true) f rc 0) (11+e) [.bool true]=_:=DT _ _ _ _ _ h.lr _ he
 rw [e1] at hw
 have hql:=aJ h.kq
 refine ⟨_,hw,{ h with sub:=h.sub.pC h.gq _,kq:=?_,ka:=?_,own:=fun i hi=>?_,lr:=by rw [aq]; exact h.lr },aq ..,fun b hb=>aB (Ne.symm hb)⟩
 · rw [bH hql]
 · rw [aB h.qa]; exact h.ka
 · refine (h.own i hi).other fun b k e l c x hv=>aB fun he=>?_
   exact (h.qw _ (eQ (by rw [h.lw]; exact hi) uA)).1 (by rw [hv,he]; rfl)
theorem fF.To {S K:AH} {q a:Nat} {ws:List AV} {vc vm vs:AV} {f:Con} {cs:List Cod} {ss:List (List Itm)} {ad:List Nat} {m:List (List Int)} {rc:List Bool} (h:fF S K q a ws vc vm vs f cs ss ad m rc) {r:Nat} (hr:lB S r) (hq:r≠q) (ha:r≠a) (hw:∀ w∈ws,cu w≠some r) (o:bl):fF S (K.set r o) q a ws vc vm vs f cs ss ad m rc:=
 { h with sub:=h.sub.pC hr o,kq:=by rw [aB hq]; exact h.kq,ka:=by rw [aB ha]; exact h.ka,
          own:=fun i hi=>(h.own i hi).other fun b k e l c x hv=>aB fun he=>hw _ (eQ (by rw [h.lw]; exact hi) uA) (by rw [hv,he]; rfl) }
theorem uY {m:List (List Int)} {d i:Nat} {b:List Int} (hd:d < m.length):bN (m.set d b) i=if i=d then b else bN m i:=by
 unfold bN
 rw [gde,cL]
 by_cases h:d=i
 · subst h; rw [if_pos rfl,if_pos hd,if_pos rfl]; rfl
 · rw [if_neg h,if_neg (Ne.symm h),<-gde]
theorem uZ {m:List (List Int)} {d:Nat} (hd:d < m.length):bN m d∈m:=by
 unfold bN; exact eQ hd []
theorem Own.write {b:Nat} {K:AH} {w:AV} {xs new:List AV} {elem:TypeId} (h:Own b K 1 elem w xs) {j:Nat} (hj:j+new.length<=xs.length) (hn:new≠[]) (ho:new.all AV.one=true) :
   ∃ i k len cap ex K',w=.slice i k 1 len cap ex/\(∀ L,bh (K++L) i (k+j) new=some (K'++L))/\Own b K' 1 elem w (spl xs j new)/\K'.length=K.length/\∀ c,c≠i->K'[c]? =K[c]?:=by
 cases h with
 | nil=>exact absurd (by simp at hj; exact hj.2) hn
 | «at» i k len cap ex cs xs hb hi hl hc hrd =>
   have hxl:=pG hrd
   rw [dz] at hxl hc
   have hil:=aJ hi
   have hfit:k+j+new.length<=cs.length:=by omega
   refine ⟨i,k,len,cap,ex,_,rfl,fun L=>iu hi hfit ho L,.at i k len cap ex (spl cs (k+j) new) _ hb (by rw [bH hil]) hl (by rw [gg,dz]; exact hc) ?_,aq ..,fun c hc=>aB (Ne.symm hc)⟩
   unfold ak at hrd ⊢
   rw [hi] at hrd
   rw [bH hil]
   simp only at hrd ⊢
   rw [dz] at hrd ⊢
   rw [if_pos (by omega)] at hrd
   have hx:xs=(cs.drop k).take len:=(aE hrd).symm
   rw [if_pos (by rw [gg]; omega),iy _ _ _ hfit,iy _ _ _ hj]
   congr 1
   have hxd:xs.take j=(cs.drop k).take j:=by rw [hx,rB,Nat.min_eq_left (by omega)]
   have hxr:xs.drop (j+new.length)=(cs.drop (k+(j+new.length))).take (len - (j+new.length)):=by rw [hx,rX,List.drop_drop]
   rw [hxd,hxr]
   have hl1:((cs.drop k).take j).length=j:=by rw [d4,List.length_drop]; omega
   rw [aG,aG,List.drop_append_of_le_length (by rw [d4]; omega),rX,show k+j - k=j by omega,vX,hl1,rB,Nat.min_eq_right (by omega),vX,bq (l:=new) (by omega),show len - j - new.length=len - (j+new.length) by omega,show k+j+new.length=k+(j+new.length) by omega]
theorem fF.IX {S K:AH} {q a:Nat} {ws:List AV} {vc vm vs:AV} {f:Con} {cs:List Cod} {ss:List (List Itm)} {ad:List Nat} {m:List (List Int)} {rc:List Bool} (h:fF S K q a ws vc vm vs f cs ss ad m rc) {d:Nat} (hd:d < m.length) {K':AH} {i:Nat} (hi:cu (ws.getD d uA)=some i) (hK:∀ c,c≠i->K'[c]? =K[c]?) {b':List Int} (ho:Own 0 K' 1 21 (ws.getD d uA) (jk b')) (hl:b'.length=(bN m d).length) (hi32:∀ x∈b',e9 x):fF S K' q a ws vc vm vs f cs ss ad (m.set d b') rc:=by
 have hdw:d < ws.length:=by rw [h.lw]; exact hd
 have hmw:=eQ hdw uA
 have hqi:i≠q:=fun e=>(h.qw _ hmw).1 (by rw [hi,e])
 have hai:i≠a:=fun e=>(h.qw _ hmw).2 (by rw [hi,e])
 have hgi:=h.gw _ hmw i hi
 refine { h with sub:=fun j o hj hoo=>?_,kq:=by rw [hK _ (Ne.symm hqi)]; exact h.kq,ka:=by rw [hK _ (Ne.symm hai)]; exact h.ka,lw:=by rw [aq]; exact h.lw,own:=fun j hj=>?_,nm:=by rw [aq]; exact h.nm,nb:=fun b hb=>?_,im:=fun b hb=>?_ }
 · rw [hK j fun e=>(hgi.ne (by rw [<-e]; exact hj) hoo) rfl]; exact h.sub j o hj hoo
 · rw [aq] at hj
   rw [uY hd]
   split
   · rename_i e; subst e; exact ho
   · rename_i e
     refine (h.own j hj).other fun b k e1 l c x hv=>hK b fun hb=>e (h.ww j d i (by rw [h.lw]; exact hj) hdw (by rw [hv,hb]; rfl) hi)
 · rcases zm hb with h1 | h1
   · exact h.nb b h1
   · subst h1; rw [hl]; exact h.nb _ (uZ hd)
 · rcases zm hb with h1 | h1
   · exact h.im b h1
   · subst h1; exact hi32
theorem ES {P:Program} {C:Cfg P} {slot:Option Nat} {ev:Operand->Option AV} {H:AH} (o:Oper) (x y:Operand) (t u:TypeId):fZ P C slot ev o ⟨.builtin .copy,#[x,y],#[t,u]⟩ H=(ev x).bind fun s=>(ev y).bind fun v=>(yF P t s v H).map fun p=>(.val p.1,p.2):=by
 unfold fZ; simp only [evL]; cases ev x with
 | none=>rfl
 | some v=>cases ev y <;> rfl
theorem zf {P:Program} {fn:Func} {a b:Tmp} {t:TypeId} (h:fn.results.toList=[.cell a t,.tmp b]) (tm:List AV) (H:AH):mr P fn (tm,H)=match tm.getD a uA with
   | .ptr i k=>(ldA P t H i k).map fun v=>(.tuple [v,tm.getD b uA],H)
   | _=>none:=by
 unfold mr
 rw [h]
 cases hg:tm.getD a uA with
 | ptr i k =>
   simp only [jb,hg]
   cases ldA P t H i k <;> rfl
 | _=>simp only [jb,hg] <;> rfl
theorem aa3 (tm:List AV) (H:AH):r34 (tm,H)=match tm.getD 4 uA with
   | .ptr i k=>(ldA aa 34 H i k).map fun v=>(.tuple [v,tm.getD 5 uA],H)
   | _=>none:=zf (by rfl) tm H
structure yX (m:List (List Int)) (x:Itm):Prop where
 k0:x.kind≠0
 k1:x.kind=1->0<=x.src/\x.src.toNat < m.length/\0<=x.dst/\x.dst.toNat < m.length/\(bN m x.src.toNat).length=(bN m x.dst.toNat).length
 k2:x.kind=2->0<=x.dst/\x.dst.toNat < m.length
 k3:x.kind=3->0<=x.ev/\x.ev < 16
 w:e9 x.word
theorem fF.buf {S K:AH} {q a:Nat} {ws:List AV} {vc vm vs:AV} {f:Con} {cs:List Cod} {ss:List (List Itm)} {ad:List Nat} {m:List (List Int)} {rc:List Bool} (h:fF S K q a ws vc vm vs f cs ss ad m rc) {d:Nat} (hd:d < m.length):∃ i k,(∀ kk,aD aa 24 vm (.int kk (d:Int))=some (.ptr i k))/\∀ L,ak (K++L) i k 1=some [ws.getD d uA]:=by
 have hdw:d < ws.length:=by rw [h.lw]; exact hd
 obtain ⟨i,k,h1,h2⟩:=h.sm.ix d [ws.getD d uA] (by rw [List.getElem?_map,List.getElem?_eq_getElem hdw,dU hdw]; rfl)
 exact ⟨i,k,h1,fun L=>(h.sub.bS L).rd h2⟩
theorem BJ {m:List (List Int)} {d:Nat} {b:List Int} (h:bN m d=b) (hd:d < m.length):m.set d b=m:=by
 refine List.ext_getElem (by simp) fun i h1 h2=>?_
 rw [List.getElem_set]
 split
 · rename_i e; subst e
   rw [<-h]; exact dU hd _
 · rfl
theorem uo:∀ (xs new:List AV),new.length=xs.length->spl xs 0 new=new:=fun xs new h=>by
 rw [iy _ _ _ (by omega),List.take_zero,List.nil_append,c7,h,Iw,af]
theorem KS (l:List Int):(jk l).all AV.one=true:=by
 rw [List.all_eq_true]
 intro x hx
 obtain ⟨n,_,rfl⟩:=bL.1 hx
 rfl
theorem fF.copy {S K:AH} {q a:Nat} {ws:List AV} {vc vm vs:AV} {f:Con} {cs:List Cod} {ss:List (List Itm)} {ad:List Nat} {m:List (List Int)} {rc:List Bool} (h:fF S K q a ws vc vm vs f cs ss ad m rc) {s d:Nat} (hs:s < m.length) (hd:d < m.length) (hl:(bN m s).length=(bN m d).length) :
   ∃ Kb n,(∀ L,yF aa 32 (ws.getD d uA) (ws.getD s uA) (K++L)=some (I n,Kb++L))/\fF S Kb q a ws vc vm vs f cs ss ad (m.set d (bN m s)) rc/\Kb.length=K.length/\∀ b,(∀ w∈ws,cu w≠some b)->Kb[b]? =K[b]?:=by
 have hel:fW aa 32=some 21:=by kernel_rfl
 have hin:aa.info? 21=some ((aa.info? 21).getD default):=by kernel_rfl
 have hco:aa.cellsOf 21=1:=by kernel_rfl
 have hdw:d < ws.length:=by rw [h.lw]; exact hd
 have os:=h.own s hs
 have od:=h.own d hd
 have hls:=os.length
 have hld:=od.length
 rw [dz] at hls hld
 have n1:(jk (bN m s)).length=(bN m s).length:=by unfold jk; simp
 have n2:(jk (bN m d)).length=(bN m d).length:=by unfold jk; simp
 have hsrc:∀ L,∃ g,pz (K++L) 1 (ws.getD s uA)=some (bA (ws.getD s uA),g)/\∀ n,n=bA (ws.getD s uA)->g n=some (jk (bN m s)):=fun L=>by
   generalize ws.getD s uA=w at os
   generalize jk (bN m s)=xs at os
   cases os with
   | nil=>exact ⟨_,rfl,fun n _=>rfl⟩
   | «at» i k len cap ex c2 xs2 hb hi hl2 hc hrd =>
     refine ⟨fun n=>if n<=len then ak (K++L) i k (n * 1) else none,by simp [pz,bA],fun n hn=>?_⟩
     show (if n<=len then ak (K++L) i k (n * 1) else none)=_
     rw [hn,cj,if_pos (ax _)]
     exact jE (au.app K L) hrd
 by_cases h0:(bN m d).length=0
 · refine ⟨K,0,fun L=>?_,?_,rfl,fun _ _=>rfl⟩
   · obtain ⟨g,hg1,hg2⟩:=hsrc L
     have hz:bA (ws.getD s uA)=0:=by omega
     have hz2:bA (ws.getD d uA)=0:=by omega
     rw [hz] at hg1 hg2
     unfold yF
     rw [hel,aA,hin,aA,hco,hg1,aA]
     have od':=od
     generalize jk (bN m d)=xd at od'
     generalize ws.getD d uA=w at od' hz2
     cases od' with
     | nil=>rfl
     | «at» i k len cap ex c2 xs2 hb hi hl2 hc hrd =>
       rw [cj] at hz2
       subst hz2
       simp only [if_true,Vy]
       rw [hg2 0 rfl]
       rfl
   · have e1:bN m d=[]:=dA.1 h0
     have e2:bN m s=[]:=dA.1 (by omega)
     rw [e2,BJ e1 hd]; exact h
 · obtain ⟨i,k,len,cap,ex,Kb,hw,hwr,ho',hlen,hK⟩:=od.write (j:=0) (new:=jk (bN m s)) (by omega) (fun e=>by rw [e] at n1; simp at n1; omega) (KS _)
   rw [Nat.add_zero] at hwr
   rw [uo _ _ (by omega)] at ho'
   have hbl:cu (ws.getD d uA)=some i:=by rw [hw]; rfl
   refine ⟨Kb,bA (ws.getD s uA),fun L=>?_,h.IX hd hbl hK ho' hl (h.im _ (uZ hs)),hlen,fun b hb=>hK b fun e=>hb _ (eQ hdw uA) (by rw [hbl,e])⟩
   obtain ⟨g,hg1,hg2⟩:=hsrc L
   have hz2:bA (ws.getD d uA)=len:=by rw [hw]; rfl
   have hz:bA (ws.getD s uA)=len:=by omega
   rw [hz] at hg1 hg2 ⊢
   unfold yF
   rw [hel,aA,hin,aA,hco,hg1,aA,hw]
   simp only [if_true]
   rw [show Nat.min len len=len from Vy len,hg2 len rfl,aA,if_neg (by omega),hwr L]
   rfl
noncomputable def SF:Code:=aI [false] (Tryz.f34.body.getD .skip)
noncomputable def SE:Code:=aI [true,false] (Tryz.f34.body.getD .skip)
noncomputable def SD:Code:=aI [true,true,false] (Tryz.f34.body.getD .skip)
noncomputable def SC:Code:=aI [true,true,true,false] (Tryz.f34.body.getD .skip)
noncomputable def SB:Code:=aI [true,true,true,true,false] (Tryz.f34.body.getD .skip)
noncomputable def SA:Code:=aI [true,true,true,true,true,false] (Tryz.f34.body.getD .skip)
noncomputable def pa:Code:=aI [true,true,true,true,true,true,false] (Tryz.f34.body.getD .skip)
noncomputable def T34:Code:=aI [true,true,true,true,true,true,true] (Tryz.f34.body.getD .skip)
theorem U6:c34=.seq SF (.seq SE (.seq SD (.seq SC (.seq SB (.seq SA (.seq pa T34)))))):=by kernel_rfl
theorem Qf {K:AH} {x:Itm} {va:AV} {r:Nat} (hac:va.cells=[va]) (hao:va.one=true) (hr:∀ L row,row.length=9->row.all AV.one=true->bh (K++L) r 0 row=some (K.set r (.cells row 34)++L))
   (h32:∀ L,Ev aa C0 W0 32 [va] (K++L)=some (bp 1 x.args.length va (K.length+L.length),K++(L++bo 21 va (jk x.args)))) {tm:List AV} (hlen:tm.length=163) (h4:tm.getD 4 uA=.ptr r 0) (h8:tm.getD 8 uA=.ptr (K.length+16) 0) :
   ∃ tm' L row,EvC aa C0 W0 mQ T34 (tm,K++[.fresh,.fresh,.fresh,.fresh,.fresh,.fresh,.fresh,.fresh,.fresh,.fresh,.fresh,.fresh,.fresh,.fresh,.fresh,.fresh,.cells (aL x va) 34,.fresh])=some (.ret,(tm',K.set r (.cells row 34)++L))/\tm'.length=163/\tm'.getD 4 uA=.ptr r 0/\tm'.getD 5 uA=I 0/\row.length=9:=by
 have hwc:=fun b=>(eG 1 x.args.length va b).1
 have hwo:=fun b=>(eG 1 x.args.length va b).2
 have hr':=fun L=>hr L (aL x (bp 1 x.args.length va (K.length+18))) rfl (by
   show (AV.one _ && (AV.one _ && (AV.one _ && (AV.one _ && (AV.one _ && (AV.one _ && (AV.one _ && (AV.one _ && (AV.one _ && true)))))))))=true
   rw [hwo]; rfl)
 simp only [aL] at hr'
 simp -implicitDefEqProofs only [T34,Tryz.f34,aP,hlen,h4,h8,aL,↓hac,↓hao,↓hwc,↓hwo,↓UJ,h32,fN,ed,hr',r5,↓az,nck,↓cbT,↓cbF,↓ao,an,eu,sevalprocAttr]
 refine ⟨_,_,aL x (bp 1 x.args.length va (K.length+18)),rfl,?_,?_,?_,rfl⟩
 · simp only [aq,hlen]
 · simp only [hlen,h4,gB,sevalprocAttr]
 · simp only [hlen,gB,sevalprocAttr]
theorem UX {S K:AH} {q a:Nat} {ws:List AV} {vc vm vs:AV} {f:Con} {cs:List Cod} {ss:List (List Itm)} {ad:List Nat} {m:List (List Int)} {rc:List Bool} (h:fF S K q a ws vc vm vs f cs ss ad m rc) {x:Itm} {va:AV} (hac:va.cells=[va]) (hao:va.one=true) {tm:List AV} (hlen:tm.length=163) (h0:tm.getD 0 uA=.ptr q 0) (h8:tm.getD 8 uA=.ptr (K.length+16) 0) (hk:x.kind=3) (hf:0<=x.ev/\x.ev < 16):∃ tm' Kb,EvC aa C0 W0 mQ pa (tm,K++[.fresh,.fresh,.fresh,.fresh,.fresh,.fresh,.fresh,.fresh,.fresh,.fresh,.fresh,.fresh,.fresh,.fresh,.fresh,.fresh,.cells (aL x va) 34,.fresh])=some (.normal,(tm',Kb++[.fresh,.fresh,.fresh,.fresh,.fresh,.fresh,.fresh,.fresh,.fresh,.fresh,.fresh,.fresh,.fresh,.fresh,.fresh,.fresh,.cells (aL x va) 34,.fresh]))/\tm'.length=163/\tm'.getD 4 uA=tm.getD 4 uA/\tm'.getD 8 uA=.ptr (Kb.length+16) 0/\fF S Kb q a ws vc vm vs f cs ss ad m (rc.set x.ev.toNat true)/\Kb.length=K.length/\(∀ b,b≠q->(∀ w∈ws,cu w≠some b)->Kb[b]? =K[b]?):=by
 obtain ⟨kind,code,grid,block,src,dst,ev,args,word⟩:=x
 simp only at hk hf ⊢
 subst hk
 have e0:eqB 3 0=false:=rfl
 have e1:eqB 3 1=false:=rfl
 have e2:eqB 3 2=false:=rfl
 have e3:eqB 3 3=true:=rfl
 obtain ⟨Kb,hwr,hQ,hlK,hK⟩:=h.pC (e:=ev.toNat) (by omega)
 have hix:∀ kk,aD aa 69 (.ptr q 11) (.int kk ev)=some (.ptr q (11+ev.toNat)):=fun kk=>by rw [XA,if_pos hf,dz]
 have st4:∀ (H:AH) (i k:Nat) (x:AV),stA aa 4 H i k x=if x.cells.length=1 then bh H i k x.cells else none:=fun H i k x=>by kernel_rfl
 simp -implicitDefEqProofs only [pa,Tryz.f34,aP,hlen,h0,h8,aL,r5,↓az,nck,e0,e1,e2,e3,↓fX JR,hix,st4,hwr,↓cbT,↓cbF,↓ao,an,eu,sevalprocAttr]
 exact ⟨_,Kb,rfl,by simp only [ls,hlen],Aj2 (by simp only [hlen,h8,hlK,gB,and_self,sevalprocAttr]) ⟨hQ,hlK,fun b h1 _=>hK b h1⟩⟩
theorem Qe {S K:AH} {q a:Nat} {ws:List AV} {vc vm vs:AV} {f:Con} {cs:List Cod} {ss:List (List Itm)} {ad:List Nat} {m:List (List Int)} {rc:List Bool} (h:fF S K q a ws vc vm vs f cs ss ad m rc) {x:Itm} {va:AV} (hac:va.cells=[va]) (hao:va.one=true) {tm:List AV} (hlen:tm.length=163) (h0:tm.getD 0 uA=.ptr q 0) (h8:tm.getD 8 uA=.ptr (K.length+16) 0) (hk:x.kind≠0/\x.kind≠1/\x.kind≠2/\x.kind≠3) (hf:True):∃ tm' Kb,EvC aa C0 W0 mQ pa (tm,K++[.fresh,.fresh,.fresh,.fresh,.fresh,.fresh,.fresh,.fresh,.fresh,.fresh,.fresh,.fresh,.fresh,.fresh,.fresh,.fresh,.cells (aL x va) 34,.fresh])=some (.normal,(tm',Kb++[.fresh,.fresh,.fresh,.fresh,.fresh,.fresh,.fresh,.fresh,.fresh,.fresh,.fresh,.fresh,.fresh,.fresh,.fresh,.fresh,.cells (aL x va) 34,.fresh]))/\tm'.length=163/\tm'.getD 4 uA=tm.getD 4 uA/\tm'.getD 8 uA=.ptr (Kb.length+16) 0/\fF S Kb q a ws vc vm vs f cs ss ad m rc/\Kb.length=K.length/\(∀ b,b≠q->(∀ w∈ws,cu w≠some b)->Kb[b]? =K[b]?):=by
 obtain ⟨kind,code,grid,block,src,dst,ev,args,word⟩:=x
 simp only at hk hf ⊢
 have e0:eqB kind 0=false:=fU hk.1
 have e1:eqB kind 1=false:=fU hk.2.1
 have e2:eqB kind 2=false:=fU hk.2.2.1
 have e3:eqB kind 3=false:=fU hk.2.2.2
 simp -implicitDefEqProofs only [pa,Tryz.f34,aP,hlen,h0,h8,aL,r5,↓az,nck,e0,e1,e2,e3,↓cbT,↓cbF,↓ao,an,eu,sevalprocAttr]
 exact ⟨_,K,rfl,by simp only [ls,hlen],Aj2 (by simp only [hlen,h8,gB,and_self,sevalprocAttr]) ⟨h,rfl,fun b _ _=>rfl⟩⟩
theorem Qh {S K:AH} {q a:Nat} {ws:List AV} {vc vm vs:AV} {f:Con} {cs:List Cod} {ss:List (List Itm)} {ad:List Nat} {m:List (List Int)} {rc:List Bool} (h:fF S K q a ws vc vm vs f cs ss ad m rc) {x:Itm} {va:AV} (hac:va.cells=[va]) (hao:va.one=true) {tm:List AV} (hlen:tm.length=163) (h0:tm.getD 0 uA=.ptr q 0) (h8:tm.getD 8 uA=.ptr (K.length+16) 0) (hk:x.kind=1) (hf:0<=x.src/\x.src.toNat < m.length/\0<=x.dst/\x.dst.toNat < m.length/\(bN m x.src.toNat).length=(bN m x.dst.toNat).length):∃ tm' Kb,EvC aa C0 W0 mQ pa (tm,K++[.fresh,.fresh,.fresh,.fresh,.fresh,.fresh,.fresh,.fresh,.fresh,.fresh,.fresh,.fresh,.fresh,.fresh,.fresh,.fresh,.cells (aL x va) 34,.fresh])=some (.normal,(tm',Kb++[.fresh,.fresh,.fresh,.fresh,.fresh,.fresh,.fresh,.fresh,.fresh,.fresh,.fresh,.fresh,.fresh,.fresh,.fresh,.fresh,.cells (aL x va) 34,.fresh]))/\tm'.length=163/\tm'.getD 4 uA=tm.getD 4 uA/\tm'.getD 8 uA=.ptr (Kb.length+16) 0/\fF S Kb q a ws vc vm vs f cs ss ad (m.set x.dst.toNat (bN m x.src.toNat)) rc/\Kb.length=K.length/\(∀ b,b≠q->(∀ w∈ws,cu w≠some b)->Kb[b]? =K[b]?):=by
 obtain ⟨kind,code,grid,block,src,dst,ev,args,word⟩:=x
 simp only at hk hf ⊢
 subst hk
 have e0:eqB 1 0=false:=rfl
 have e1:eqB 1 1=true:=rfl
 have e2:eqB 1 2=false:=rfl
 have e3:eqB 1 3=false:=rfl
 obtain ⟨f1,f2,f3,f4,f5⟩:=hf
 obtain ⟨s,rfl⟩:∃ s:Nat,src=s:=⟨src.toNat,by omega⟩
 obtain ⟨d,rfl⟩:∃ d:Nat,dst=d:=⟨dst.toNat,by omega⟩
 rw [cw] at f2 f4 f5
 rw [cw] at f5
 rw [cw,cw]
 obtain ⟨Kb,n,hcp,hQ,hlK,hK⟩:=h.copy f2 f4 f5
 obtain ⟨i0,k0,hix0,hrd0⟩:=h.buf f2
 obtain ⟨i1,k1,hix1,hrd1⟩:=h.buf f4
 have hq1:∀ L,ak (K++L) q 1 1=some [vm]:=fun L=>by have:=h.view.cell (au.refl K) L 1 (x:=vm) rfl; rwa [c7] at this
 simp -implicitDefEqProofs only [pa,Tryz.f34,aP,hlen,h0,h8,aL,r5,↓az,nck,e0,e1,e2,e3,↓fX JU,hq1,hix0,hix1,hrd0,hrd1,↓ES,hcp,↓cbT,↓cbF,↓ao,an,eu,sevalprocAttr]
 exact ⟨_,Kb,rfl,by simp only [ls,hlen],Aj2 (by simp only [hlen,h8,hlK,gB,and_self,sevalprocAttr]) ⟨hQ,hlK,fun b _ h2=>hK b h2⟩⟩
theorem HJ {HK:Nat->AH} {n q b k0 c e:Nat} {ex:Bool} {vm:AV} {x:Itm} {va:AV} {p:Nat} {d:Nat} (hd:x.dst=d)
   (hq1:∀ j,j < n->ak (HK j) q 1 1=some [vm]) (hix:∀ j,j < n->∃ i k,(∀ kk,aD aa 24 vm (.int kk (d:Int))=some (.ptr i k))/\ak (HK j) i k 1=some [.slice b k0 1 n c ex])
   (hx5:∀ j,j < n->ak (HK j) p 5 1=some [I x.dst]) (hx8:∀ j,j < n->ak (HK j) p 8 1=some [.int .i32 x.word]) (hwr:∀ j,j < n->bh (HK j) b (k0+j) [.int .i32 x.word]=some (HK (j+1))) (hn:n < 2 ^ 60) :
   ∀ (dd j:Nat) (tm:List AV),n - j=dd->j<=n->tm.length=163->tm.getD 0 uA=.ptr q 0->tm.getD 8 uA=.ptr p 0->tm.getD 133 uA=I n->tm.getD 134 uA=I (j:Int) ->
   ∃ X,EvC aa C0 W0 mQ FK (tm,HK j)=some (.exit 1,(X,HK n))/\X.length=163/\X.getD 8 uA=.ptr p 0/\X.getD 4 uA=tm.getD 4 uA:=by
 intro dd
 induction dd with
 | zero =>
   intro j tm hd2 hj hlen h0 h8 h133 h134
   have hjl:j=n:=by omega
   subst hjl
   have hlt:ltB (j:Int) (j:Nat)=false:=cH (by omega)
   rw [Mo]
   simp -implicitDefEqProofs only [Gg,Tryz.f34,aP,hlen,h0,h8,h133,h134,hlt,↓cbT,↓cbF,↓ao,an,eu,sevalprocAttr]
   exact ⟨_,rfl,by simp only [ls,hlen],by simp only [hlen,h8,gB,and_self,sevalprocAttr]⟩
 | succ dd ih =>
   intro j tm hd2 hj hlen h0 h8 h133 h134
   have hjn:j < n:=by omega
   have hlt:ltB (j:Int) (n:Nat)=true:=cD (by omega)
   have hw:=cp (j:=j) (by omega)
   have a1:=hq1 j hjn
   obtain ⟨i,k,a2,a3⟩:=hix j hjn
   have a4:=hx5 j hjn
   have a5:=hx8 j hjn
   have a6:=hwr j hjn
   rw [hd] at a4
   have a7:∀ kk,aD aa 32 (.slice b k0 1 n c ex) (.int kk (j:Int))=some (.ptr b (k0+j)):=fun kk=>by
     rw [XB,if_pos ⟨by omega,by omega,rfl⟩,cw,dz]
   rw [Mo]
   simp -implicitDefEqProofs only [Gg,Tryz.f34,aP,hlen,h0,h8,h133,h134,hlt,hw,a1,a2,a3,a4,a5,a6,a7,fJ,↓fX JS,r5,↓az,nck,↓cbT,↓cbF,↓ao,an,eu,sevalprocAttr]
   generalize hX:EvC aa C0 W0 _ _ _=Z
   have key:∀ (tm1:List AV),EvC aa C0 W0 mQ FK (tm1,HK (j+1))=Z->tm1.length=163->tm1.getD 0 uA=.ptr q 0->tm1.getD 8 uA=.ptr p 0->tm1.getD 133 uA=I n->tm1.getD 134 uA=I ((j+1:Nat):Int)->tm1.getD 4 uA=tm.getD 4 uA->∃ X,Z=some (.exit 1,(X,HK n))/\X.length=163/\X.getD 8 uA=.ptr p 0/\X.getD 4 uA=tm.getD 4 uA:=by
     intro tm1 h hl1 h0 h8 h133 h134 h4
     obtain ⟨X,he,b1,b2,b3⟩:=ih (j+1) tm1 (by omega) (by omega) hl1 h0 h8 h133 h134
     exact ⟨X,h.symm.trans he,b1,b2,b3.trans h4⟩
   exact key _ hX (by simp only [ls,hlen]) (by simp only [hlen,h0,gB,sevalprocAttr]) (by simp only [hlen,h8,gB,sevalprocAttr]) (by simp only [hlen,h133,gB,sevalprocAttr]) (by simp only [hlen,h134,gB,sevalprocAttr]) (by simp only [hlen,gB,sevalprocAttr])
end Go.Dv
