/- Part 18 of the walks (own work). -/
import Derived.Test.YtilpjnckfkjkbaaGreatDoorT17
open List renaming all_cons→gF,any_cons→dj,any_nil→dG,any_toArray→cm,append_assoc→aG,append_nil→af,cons_append→iF,drop_left'→NJ,flatten_append→ez,flatten_cons→fu,getElem?_append_left→aw,getElem?_append_right→al,getElem?_eq_getElem→aj,getElem?_set_ne→aB,getElem_mem→gM,length_append→ai,length_cons→cF,length_map→ar,length_set→aq,length_take→d4,map_append→eg,map_cons→gI,mem_cons→bO,mem_map→bL,mem_map_of_mem→jD,nil_append→g6,replicate→ay,set_append_left→gf,set_comm→QQ,take_add_one→eH,zip→wU
open Nat renaming add_assoc→bJ,add_sub_cancel_left→aS,ble→vW,le_add_right→du,le_of_lt→vU,le_refl→ax,le_trans→ba,lt_of_lt_of_le→bu,min_eq_left→rV,sub_self→dR
open Option renaming bind_some→aA,map→rA
open Go.Proofs.Tryz renaming prog→aa
set_option maxRecDepth 100000
set_option maxHeartbeats 4000000
set_option linter.unusedSimpArgs false
set_option linter.unusedVariables false
namespace Go.Dv
open Go.Proofs
attribute [local congr] aF bC aY bB bD
def Nz (v:AV) (lo hi:Nat):Prop:=∀ i k e l c x,v=.slice i k e l c x->lo<=i/\i < hi
theorem EO {es n:Nat} {v:AV} {E:TypeId} {xs:List AV} {b:Nat} (hn:n=0↔xs=[]):Nz (bp es n v b) b (b+(bo E v xs).length):=by
 intro i k e l c x h
 by_cases hv:v=.nilSlice
 · subst hv; cases h
 · have hc:bp es n v b=if n=0 then .slice b 0 es 0 0 true else .slice (b+1) 0 es n n false:=by
     cases v <;> first | rfl | exact absurd rfl hv
   have hL:bo E v xs=if xs=[] then [.cells [] E] else [.cells [] E,.cells xs E]:=by
     cases v <;> first | rfl | exact absurd rfl hv
   rw [hc] at h
   rw [hL]
   by_cases h0:n=0
   · rw [if_pos h0] at h
     rw [if_pos (hn.1 h0)]
     cases h
     exact ⟨ax _,Nat.lt_succ_self _⟩
   · rw [if_neg h0] at h
     rw [if_neg fun e=>h0 (hn.2 e)]
     cases h
     exact ⟨Nat.le_succ _,by simp⟩
def jk (l:List Int):List AV:=l.map fun x=>.int .i32 x
theorem KT (l:List Int):l.length=0↔jk l=[]:=by unfold jk; simp
theorem xW {N:Nat} {HH:AH} (hH:HH.length=N+1) (l:List (List Int × AV)) (hv:∀ p∈l,p.2=.nilSlice->p.1=[]) :
   ∀ j,j<=l.length->∀ i,i < j->Own (N+1+(db N (l.take i)).2.length) (HH++(db N (l.take j)).2) 1 21 ((db N (l.take j)).1.getD i uA) (jk (l.getD i ([],uA)).1) /\
     Nz ((db N (l.take j)).1.getD i uA) (N+1+(db N (l.take i)).2.length) (N+1+(db N (l.take (i+1))).2.length):=by
 intro j
 induction j with
 | zero=>intro _ i hi; omega
 | succ j ih =>
   intro hj i hi
   have hjl:j < l.length:=hj
   have hml:(db N (l.take j)).1.length=j:=by rw [nU,d4,rV (vU hjl)]
   have hg:l.getD j ([],uA)=l[j]:=by rw [gde,aj hjl]; rfl
   have ht:l.take (j+1)=l.take j++[l.getD j ([],uA)]:=by rw [eH,aj hjl,hg]; rfl
   have hmem:l.getD j ([],uA)∈l:=by rw [hg]; exact gM _
   have hstep:db N (l.take (j+1))=td N (db N (l.take j)) (l.getD j ([],uA)):=by rw [ht,uE]
   have hagree:au (HH++(db N (l.take j)).2) (HH++(db N (l.take (j+1))).2):=by
     rw [hstep]
     show au _ (HH++(_++_))
     rw [<-aG]
     exact au.app _ _
   rcases Nat.lt_or_ge i j with c | c
   · obtain ⟨h1,h2⟩:=ih (vU hjl) i c
     have he:(db N (l.take (j+1))).1.getD i uA=(db N (l.take j)).1.getD i uA:=by
       rw [hstep]
       show (_++[_]).getD i uA=_
       rw [gde,aw (by rw [hml]; exact c),gde]
     rw [he]
     exact ⟨h1.bg hagree,h2⟩
   · have hij:i=j:=by omega
     subst hij
     have he:(db N (l.take (i+1))).1.getD i uA=bp 1 (l.getD i ([],uA)).1.length (l.getD i ([],uA)).2 (N+1+(db N (l.take i)).2.length):=by
       rw [hstep]
       show (_++[_]).getD i uA=_
       rw [gde,al (by rw [hml]; exact ax _),hml,dR]; rfl
     have hll:(HH++(db N (l.take i)).2).length=N+1+(db N (l.take i)).2.length:=by rw [ai,hH]
     rw [he]
     constructor
     · have:=kO (E:=21) (es:=1) (G:=HH++(db N (l.take i)).2) (v:=(l.getD i ([],uA)).2) (xs:=jk (l.getD i ([],uA)).1) (n:=(l.getD i ([],uA)).1.length) (by decide) (by unfold jk; simp) (fun e=>by rw [hv _ hmem e]; rfl)
       rw [hll] at this
       rw [hstep]
       show Own _ (HH++(_++_)) _ _ _ _
       rw [<-aG]
       exact this
     · have:=EO (es:=1) (n:=(l.getD i ([],uA)).1.length) (v:=(l.getD i ([],uA)).2) (E:=21) (xs:=jk (l.getD i ([],uA)).1) (b:=N+1+(db N (l.take i)).2.length) (KT _)
       rw [hstep]
       show Nz _ _ (N+1+((db N (l.take i)).2++bo 21 (l.getD i ([],uA)).2 (jk (l.getD i ([],uA)).1)).length)
       rw [ai,<-bJ]
       exact this
theorem Own.s32 {b:Nat} {H:AH} {v:AV} {l:List Int} (h:Own b H 1 21 v (jk l)):SlS 32 1 H v (l.map dw):=
 Own.nB zU (by decide) (by rw [zB]; exact h) (BM l)
theorem PN {H L:AH} {l:List (List Int × AV)}:SlS 24 1 (H++(L++(.cells (db (H.length+L.length) l).1 32::(db (H.length+L.length) l).2))) (.slice (H.length+L.length) 0 1 l.length l.length true) ((db (H.length+L.length) l).1.map fun w=>[w]):=by
 have hml:=nU (H.length+L.length) l
 have hg:(H++(L++(bl.cells (db (H.length+L.length) l).1 32::(db (H.length+L.length) l).2)))[H.length+L.length]? =some (.cells (db (H.length+L.length) l).1 32):=by
   rw [al (du _ _),aS,al (ax _),dR]; rfl
 have h:=nA (T:=24) (es:=1) FO (H:=H++(L++(bl.cells (db (H.length+L.length) l).1 32::(db (H.length+L.length) l).2))) (i:=H.length+L.length) (k:=0) (c:=l.length) (e:=true) (rows:=(db (H.length+L.length) l).1.map fun w=>[w]) (by
     intro r hr
     obtain ⟨w,_,rfl⟩:=bL.1 hr
     rfl) (by unfold okC; rw [hg]) (by
     unfold ak
     rw [hg]
     simp only [ar]
     rw [if_pos (by omega),List.drop_zero,List.take_of_length_le (by omega),rP,List.map_id'' (fun _=>rfl)])
 rwa [ar,hml] at h
theorem Ul {H L:AH} {l:List (List Int × AV)} (hv:∀ p∈l,p.2=.nilSlice->p.1=[]) (hn:l.length < 2 ^ 50) (hb:∀ p∈l,p.1.length < 2 ^ 50) (hi:∀ p∈l,∀ x∈p.1,e9 x) :
   dZ (H++(L++(.cells (db (H.length+L.length) l).1 32::(db (H.length+L.length) l).2))) (l.map (·.1)) (.slice (H.length+L.length) 0 1 l.length l.length true):=by
 have hml:=nU (H.length+L.length) l
 refine ⟨⟨wU (l.map (·.1)) (db (H.length+L.length) l).1,?_,?_,?_⟩,by rw [ar]; exact hn,fun b hb'=>?_,fun b hb'=>?_⟩
 · rw [List.map_fst_zip (by rw [ar,hml]; exact ax _)]
 · have:(wU (l.map (·.1)) (db (H.length+L.length) l).1).map (fun p=>[p.2])=(db (H.length+L.length) l).1.map fun w=>[w]:=by
     rw [show (fun p:List Int × AV=>[p.2])=(fun w=>[w]) ∘ Prod.snd from rfl,<-List.map_map,List.map_snd_zip (by rw [ar,hml]; exact ax _)]
   rw [this]
   exact PN
 · intro p hp
   obtain ⟨i,hi',hpe⟩:=List.mem_iff_getElem.1 hp
   have hil:i < l.length:=by rw [List.length_zip,ar] at hi'; omega
   have hiw:i < (db (H.length+L.length) l).1.length:=by rw [hml]; exact hil
   obtain ⟨ho,_⟩:=xW (N:=H.length+L.length) (HH:=H++(L++[.cells (db (H.length+L.length) l).1 32])) (by simp; omega) l hv l.length (ax _) i hil
   rw [List.take_length] at ho
   have he:p=((l.getD i ([],uA)).1,(db (H.length+L.length) l).1.getD i uA):=by
     rw [<-hpe,List.getElem_zip,List.getElem_map,gde,aj hil,gde,aj hiw]; rfl
   rw [he]
   have:=ho.s32
   simpa only [aG,iF,g6] using this
 · obtain ⟨p,hp,rfl⟩:=bL.1 hb'
   exact hb p hp
 · obtain ⟨p,hp,rfl⟩:=bL.1 hb'
   exact hi p hp
theorem mC {T es:Nat} {H:AH} {v:AV} {rows:List (List AV)} (h:SlS T es H v rows) (hv:v=.nilSlice):rows=[]:=by
 rcases h.old with ⟨_,e⟩ | ⟨i,k,c,e,e',_⟩
 · exact e
 · rw [hv] at e'; cases e'
theorem YY {H:AH} {m:List (List Int)} {vm:AV} (h:dZ H m vm) (hn:m.length<=100) (hb:∀ b∈m,b.length<=1000):∃ v K,Ev aa C0 W0 28 [vm] H=some (v,K)/\au H K/\dZ K m v:=by
 obtain ⟨⟨l,rfl,hs,hp⟩,h1,h2,h3⟩:=h
 have he:=YZ hs hp (by rwa [ar] at hn) (fun p hp=>hb _ (jD hp)) []
 rw [af] at he
 refine ⟨_,_,he,au.app _ _,Ul (fun p hpl e=>?_) (by rwa [ar] at h1) (fun p hp=>h2 _ (jD hp)) (fun p hp=>h3 _ (jD hp))⟩
 have:=mC (hp p hpl) e
 simpa using this
theorem acY {G:AH} {q:Nat} {vc vm vs va:AV} {f:Con} {ss:List (List Itm)} {ad:List Nat} {m:List (List Int)} {rc:List Bool} (h:mN G q vc vm vs va f ss ad m rc 0) (hn:m.length<=100) (hb:∀ b∈m,b.length<=1000):∃ v K,Ev aa C0 W0 40 [.ptr q 0] G=some (v,K)/\au G K/\dZ K m v:=by
 obtain ⟨tm,ht,g0,g1⟩:=tm1 (.ptr q 0) 10 (by decide)
 rw [abJ,ht]
 have hq1:ak G q 1 1=some [vm]:=by have:=h.cell (au.refl G) [] 1 (x:=vm) rfl; rwa [Nat.zero_add,af] at this
 obtain ⟨v,K,he,hA,hm⟩:=YY h.m hn hb
 refine ⟨v,K,?_,hA,hm⟩
 simp -implicitDefEqProofs only [c40,Tryz.f40,aP,g0,g1,↓xN,hq1,↓YB,he,r5,↓az,nck,↓cbT,↓cbF,↓ao,an,eu,sevalprocAttr]
theorem Q7 (n:Nat) (hn:n<=1000) (s:Option Nat) (H:AH):fE aa s 30 (I n) (I n) H=(put s H (.cells (ay n (I 0)) 3)).map fun p=>(.slice p.1 0 1 n n true,p.2):=by
 have hz:dP aa 3=some (I 0):=by kernel_rfl
 have hs:fW aa 30=some 3:=by kernel_rfl
 have hb:aa.bytesOf 3=8:=by kernel_rfl
 have hc:aa.cellsOf 3=1:=by kernel_rfl
 unfold fE
 simp only [hs,hz,aA]
 rw [if_pos ⟨by omega,by omega,by omega,by rw [hb]; omega,by simp [AV.cells]⟩]
 rw [hc,Nat.mul_one,Int.toNat_natCast]
 show rA _ (put s H (.cells (k9 [I 0] n) 3))=_
 rw [E9]
theorem adp {c:AV} (hc:c=.nilSlice∨∃ i k es l cc e,c=.slice i k es l cc e) (i1 k1 e1 l1 c1 i2 k2 e2 l2 c2:Nat) (x1 x2:Bool) (f:Con) :
   jt aa 71 [(0,c),(1,.slice i1 k1 e1 l1 c1 x1),(2,.agg [I f.w,.bool f.free,I f.cores,I f.slots,I f.room,I f.pol,I f.lat]),(4,.slice i2 k2 e2 l2 c2 x2)]=some (.agg (lF c (.slice i1 k1 e1 l1 c1 x1) .nilSlice (.slice i2 k2 e2 l2 c2 x2) f (ay 16 false) 0)):=by
 rcases hc with rfl | ⟨i,k,es,l,cc,e,rfl⟩ <;> kernel_rfl
theorem H8 (es n:Nat) (v:AV) (b:Nat):bp es n v b=.nilSlice∨∃ i k es' l cc e,bp es n v b=.slice i k es' l cc e:=by
 unfold bp
 split
 · exact .inl rfl
 · split
   · exact .inr ⟨_,_,_,_,_,_,rfl⟩
   · exact .inr ⟨_,_,_,_,_,_,rfl⟩
def uD (H:AH) (rows:List (List AV)) (l:List (List Int × AV)) (n:Nat) (vc:AV) (f:Con):AH:=
 H++([.cells [I f.w,.bool f.free,I f.cores,I f.slots,I f.room,I f.pol,I f.lat] 27,.fresh,.fresh,.fresh,.fresh,.fresh,.fresh,.fresh,.cells (ay n (I 0)) 3,.fresh,
   .cells (lF (bp 5 rows.length vc (H.length+12)) (.slice (H.length+((bo 66 vc rows.flatten).length+12)) 0 1 l.length l.length true) .nilSlice (.slice (H.length+8) 0 1 n n true) f (ay 16 false) 0) 71,.fresh] ++
   (bo 66 vc rows.flatten++(.cells (db (H.length+((bo 66 vc rows.flatten).length+12)) l).1 32::(db (H.length+((bo 66 vc rows.flatten).length+12)) l).2)))
theorem Oq {H:AH} {rows:List (List AV)} {l:List (List Int × AV)} {n:Nat} {vc vm vs:AV} (f:Con) (h27:∀ L,Ev aa C0 W0 27 [vc] (H++L)=some (bp 5 rows.length vc (H.length+L.length),H++(L++bo 66 vc rows.flatten))) (h28:∀ L,Ev aa C0 W0 28 [vm] (H++L)=some (.slice (H.length+L.length) 0 1 l.length l.length true,H++(L++(.cells (db (H.length+L.length) l).1 32::(db (H.length+L.length) l).2))))
   (hls:∀ G,dQ aa 25 G vs=some (I n)) (hn:n<=4) {tm:List AV} (hlen:tm.length=100) (h0:tm.getD 0 uA=vc) (h1:tm.getD 1 uA=vm) (h2:tm.getD 2 uA=vs) (h7:tm.getD 7 uA=.ptr H.length 0) :
   ∃ tm',EvC aa C0 W0 pf (aI [true,true,false] (Tryz.f10.body.getD .skip)) (tm,H++[.cells [I f.w,.bool f.free,I f.cores,I f.slots,I f.room,I f.pol,I f.lat] 27])=some (.normal,(tm',uD H rows l n vc f))/\tm'.length=100/\tm'.getD 2 uA=vs/\tm'.getD 11 uA=.ptr (H.length+10) 0:=by
 have hms:=Q7 n (by omega)
 have hb:=fun i1 k1 e1 l1 c1 i2 k2 e2 l2 c2 x1 x2 b=>adp (H8 5 rows.length vc b) i1 k1 e1 l1 c1 i2 k2 e2 l2 c2 x1 x2 f
 simp -implicitDefEqProofs only [Tryz.f10,aP,hlen,h0,h1,h2,h7,↓cK OO,Kd,List.any_toArray',cm,dj,dG,ch,↓ack,↓YB,h27,h28,hls,↓jB,hms,hb,List.size_toArray,List.replicate_succ,List.replicate_zero,r5,↓az,nck,↓cbT,↓cbF,↓ao,an,eu,sevalprocAttr,↓ep,↓eh,↓il,↓fO,↓eo,↓fQ,↓dC,↓er,↓bV,↓bG,↓cB,↓fR,↓dD,↓ew,↓bX,↓bW,↓cC,↓d6,↓cW,dE,bK,ai,bJ,cA,cV,dF]
 refine ⟨_,rfl,?_,?_,?_⟩
 · simp only [aq,hlen]
 · simp only [hlen,h2,gB,sevalprocAttr]
 · simp only [hlen,gB,sevalprocAttr]
def CE (K:AH) (nm:ByteArray) (loc:Int) (vp vz vi:AV) (rp rz ri:List (List AV)):AH:=
 .cells [.str nm,bp 2 rp.length vp (K.length+1),bp 2 rz.length vz (K.length+((bo 74 vp rp.flatten).length+1)),I loc,bp 8 ri.length vi (K.length+((bo 74 vp rp.flatten).length+((bo 77 vz rz.flatten).length+1)))] 66 ::
   (bo 74 vp rp.flatten++(bo 77 vz rz.flatten++bo 80 vi ri.flatten))
theorem Oo {K:AH} {nm:ByteArray} {vp vz vi:AV} {loc:Int} {rp rz ri:List (List AV)} (h29:∀ L,Ev aa C0 W0 29 [vp] (K++L)=some (bp 2 rp.length vp (K.length+L.length),K++(L++bo 74 vp rp.flatten))) (h30:∀ L,Ev aa C0 W0 30 [vz] (K++L)=some (bp 2 rz.length vz (K.length+L.length),K++(L++bo 77 vz rz.flatten))) (h31:∀ L,Ev aa C0 W0 31 [vi] (K++L)=some (bp 8 ri.length vi (K.length+L.length),K++(L++bo 80 vi ri.flatten))) (hvp:vp.cells=[vp]/\vp.one=true) (hvz:vz.cells=[vz]/\vz.one=true) (hvi:vi.cells=[vi]/\vi.one=true) {tm:List AV} (hlen:tm.length=100) (h13:tm.getD 13 uA=.ptr K.length 0) :
   ∃ tm',EvC aa C0 W0 pf (aI [true,true,true,false,true,false,false,true,true,false,false,true,false] (Tryz.f10.body.getD .skip)) (tm,K++[.cells [.str nm,vp,vz,I loc,vi] 66])=some (.normal,(tm',K++CE K nm loc vp vz vi rp rz ri))/\tm'.length=100/\tm'.getD 2 uA=tm.getD 2 uA/\tm'.getD 11 uA=tm.getD 11 uA/\tm'.getD 12 uA=tm.getD 12 uA/\tm'.getD 13 uA=tm.getD 13 uA/\tm'.getD 40 uA=tm.getD 40 uA/\tm'.getD 41 uA=tm.getD 41 uA/\tm'.getD 42 uA=tm.getD 42 uA:=by
 obtain ⟨c1,o1⟩:=hvp
 obtain ⟨c2,o2⟩:=hvz
 obtain ⟨c3,o3⟩:=hvi
 have w1:=fun b=>(eG 2 rp.length vp b)
 have w2:=fun b=>(eG 2 rz.length vz b)
 have w3:=fun b=>(eG 8 ri.length vi b)
 have w1c:=fun b=>(w1 b).1
 have w1o:=fun b=>(w1 b).2
 have w2c:=fun b=>(w2 b).1
 have w2o:=fun b=>(w2 b).2
 have w3c:=fun b=>(w3 b).1
 have w3o:=fun b=>(w3 b).2
 simp -implicitDefEqProofs only [Tryz.f10,aP,hlen,h13,↓cK ON,Kc,cm,dj,dG,ch,↓acj,↓aci,↓ach,h29,h30,h31,↓w1c,↓w1o,↓w2c,↓w2o,↓w3c,↓w3o,aaq,aap,aao,r5,↓az,nck,↓cbT,↓cbF,↓ao,an,eu,sevalprocAttr,↓ep,↓eh,↓il,↓fO,↓eo,↓fQ,↓dC,↓er,↓bV,↓bG,↓cB,↓fR,↓dD,↓ew,↓bX,↓bW,↓cC,↓d6,↓cW,dE,bK,ai,bJ,cA,cV,dF]
 refine ⟨_,rfl,?_⟩
 simp only [aq,hlen,h13,gB,sevalprocAttr,and_self]
def AgX (G K:AH) (c:Nat):Prop:=G.length<=K.length/\∀ i,i < G.length->i≠c->K[i]? =G[i]?
theorem AgX.refl (G:AH) (c:Nat):AgX G G c:=⟨ax _,fun _ _ _=>rfl⟩
theorem xg {A B:List (List AV)} {r r':List AV} {k:Nat} (hA:A.flatten.length=k) (hr:r.length=r'.length):spl (A++r::B).flatten k r'=(A++r'::B).flatten:=by
 rw [ez,ez,fu,fu,iy _ _ _ (by rw [ai,ai]; omega),<-hA,<-hr]
 rw [List.take_left',List.drop_append,List.drop_of_length_le (by omega),aS,g6,NJ rfl,aG]
 rfl
theorem iu {K:AH} {b:Nat} {cs:List AV} {e:TypeId} (h:K[b]? =some (.cells cs e)) {k:Nat} {xs:List AV} (hk:k+xs.length<=cs.length) (hx:xs.all AV.one=true) (L:AH):bh (K++L) b k xs=some (K.set b (.cells (spl cs k xs) e)++L):=by
 have hb:=aJ h
 unfold bh
 rw [aw hb,h]
 simp only
 rw [if_pos ⟨hk,hx⟩,gf _ _ hb]
def iS (p:Cod × AV × AV × AV):List AV:=bI p.1 p.2.1 p.2.2.1 p.2.2.2
theorem nS (l:List (Cod × AV × AV × AV)):∀ r∈l.map iS,r.length=5:=by
 intro r hr
 obtain ⟨p,_,rfl⟩:=bL.1 hr
 rfl
def d8:List Nat->AH->AH
 | [],K=>K
 | d::D,K=>d8 D (K.set d .dead)
theorem qG:∀ (D:List Nat) (K:AH),(d8 D K).length=K.length
 | [],_=>rfl
 | d::D,K=>by rw [d8,qG D,aq]
theorem uL:∀ (D:List Nat) (K L:AH),(∀ d∈D,d < K.length)->d8 D (K++L)=d8 D K++L
 | [],_,_,_=>rfl
 | d::D,K,L,h=>by
   rw [d8,d8,gf _ _ (h d (by simp)),uL D _ L fun x hx=>by rw [aq]; exact h x (by simp [hx])]
theorem yg:∀ (D:List Nat) (K:AH) (d:Nat),d8 D (K.set d .dead)=(d8 D K).set d .dead
 | [],_,_=>rfl
 | e::D,K,d=>by
   rw [d8,d8,<-yg D]
   rcases Decidable.em (d=e) with h | h
   · subst h; rfl
   · rw [QQ _ _ h]
theorem zS:∀ (D:List Nat) (K:AH) (c:Nat) (o:bl),c∈D->d8 D (K.set c o)=d8 D K
 | d::D,K,c,o,h=>by
   rw [d8,d8]
   rcases Decidable.em (c=d) with e | e
   · subst e; rw [List.set_set]
   · rw [QQ _ _ e]
     exact zS D _ c o ((bO.1 h).resolve_left e)
theorem jV:∀ (D:List Nat) (K:AH) (i:Nat),i∉D->(d8 D K)[i]? =K[i]?
 | [],_,_,_=>rfl
 | d::D,K,i,h=>by
   rw [d8,jV D _ i fun x=>h (by simp [x]),aB fun e=>h (by simp [e])]
theorem iC:∀ (D:List Nat) (K:AH) (i:Nat),i∈D->lB (d8 D K) i
 | d::D,K,i,h=>by
   rw [d8,yg]
   rcases Decidable.em (i=d) with e | e
   · subst e; exact uO _ _
   · exact (iC D K i ((bO.1 h).resolve_left e)).kill d
theorem zR:∀ (D:List Nat) (K:AH),Sub (d8 D K) K
 | [],K=>Sub.refl K
 | d::D,K=>(zR D _).trans (Sub.kill K d)
structure E6 (D:List Nat) (K:AH) (c:Nat) (l0:List (Cod × AV × AV × AV)) (j:Nat):Prop where
 ex:∃ pr:List (Cod × AV × AV × AV),pr.map (·.1)=(l0.take j).map (·.1)/\(∀ p∈pr,eO (d8 D K) p.1 p.2.1 p.2.2.1 p.2.2.2) /\
   (l0≠[]->K[c]? =some (.cells ((pr.map iS)++((l0.drop j).map iS)).flatten 66))
def Vs (l0:List (Cod × AV × AV × AV)):Prop:=∀ p∈l0,p.1.params.length<=2000/\p.1.shared.length<=2000/\p.1.insns.length<=2000
theorem iD {b n:Nat} (hb:vW b 1000=true) (hn:n<=2000):fT b n=true:=by
 have:=Nat.le_of_ble_eq_true hb
 unfold fT
 rw [Bool.and_eq_true,decide_eq_true_iff,decide_eq_true_iff]
 refine ⟨ba (Nat.mul_le_mul (show 2 * n+400<=5000 by omega) this) (by decide),by omega⟩
theorem b74:vW (aa.bytesOf 74) 1000=true:=by kernel_rfl
theorem b77:vW (aa.bytesOf 77) 1000=true:=by kernel_rfl
theorem b80:vW (aa.bytesOf 80) 1000=true:=by kernel_rfl
theorem b66:vW (aa.bytesOf 66) 1000=true:=by kernel_rfl
theorem b34:vW (aa.bytesOf 34) 1000=true:=by kernel_rfl
theorem xp (l:List Prm):∀ r∈l.map ja,r.length=2:=by
 intro r hr; obtain ⟨p,_,rfl⟩:=bL.1 hr; rfl
theorem xt (l:List Arr):∀ r∈l.map kg,r.length=2:=by
 intro r hr; obtain ⟨p,_,rfl⟩:=bL.1 hr; rfl
theorem xq (l:List Ins):∀ r∈l.map eK,r.length=8:=by
 intro r hr; obtain ⟨p,_,rfl⟩:=bL.1 hr; rfl
theorem U0 {H K:AH} {cod:Cod} {vp vz vi:AV} (h:eO H cod vp vz vi) :
   eO (K++CE K cod.name cod.loc vp vz vi (cod.params.map ja) (cod.shared.map kg) (cod.insns.map eK)) cod (bp 2 (cod.params.map ja).length vp (K.length+1)) (bp 2 (cod.shared.map kg).length vz (K.length+((bo 74 vp (cod.params.map ja).flatten).length+1))) (bp 8 (cod.insns.map eK).length vi (K.length+((bo 74 vp (cod.params.map ja).flatten).length+((bo 77 vz (cod.shared.map kg).flatten).length+1)))):=by
 generalize hb:bl.cells [.str cod.name,bp 2 (cod.params.map ja).length vp (K.length+1),bp 2 (cod.shared.map kg).length vz (K.length+((bo 74 vp (cod.params.map ja).flatten).length+1)),I cod.loc,bp 8 (cod.insns.map eK).length vi (K.length+((bo 74 vp (cod.params.map ja).flatten).length+((bo 77 vz (cod.shared.map kg).flatten).length+1)))] 66=bx
 have hK:CE K cod.name cod.loc vp vz vi (cod.params.map ja) (cod.shared.map kg) (cod.insns.map eK)=bx::(bo 74 vp (cod.params.map ja).flatten++(bo 77 vz (cod.shared.map kg).flatten++bo 80 vi (cod.insns.map eK).flatten)):=by rw [<-hb]; rfl
 rw [hK]
 generalize hL1:bo 74 vp (cod.params.map ja).flatten=L1
 generalize hL2:bo 77 vz (cod.shared.map kg).flatten=L2
 generalize hL3:bo 80 vi (cod.insns.map eK).flatten=L3
 have o1:=kO (E:=74) (es:=2) (G:=K++[bx]) (v:=vp) (xs:=(cod.params.map ja).flatten) (n:=(cod.params.map ja).length) (by decide) (dM (xp _)) (fun e=>by rw [mC h.p e]; rfl)
 have o2:=kO (E:=77) (es:=2) (G:=K++bx::L1) (v:=vz) (xs:=(cod.shared.map kg).flatten) (n:=(cod.shared.map kg).length) (by decide) (dM (xt _)) (fun e=>by rw [mC h.s e]; rfl)
 have o3:=kO (E:=80) (es:=8) (G:=K++bx::(L1++L2)) (v:=vi) (xs:=(cod.insns.map eK).flatten) (n:=(cod.insns.map eK).length) (by decide) (dM (xq _)) (fun e=>by rw [mC h.i e]; rfl)
 rw [hL1,ai,List.length_singleton] at o1
 rw [hL2,ai,cF] at o2
 rw [hL3,ai,cF,ai,bJ] at o3
 have a1:au ((K++[bx])++L1) (K++bx::(L1++(L2++L3))):=by
   have:=au.app ((K++[bx])++L1) (L2++L3)
   simpa only [aG,iF,g6] using this
 have a2:au ((K++bx::L1)++L2) (K++bx::(L1++(L2++L3))):=by
   have:=au.app ((K++bx::L1)++L2) L3
   simpa only [aG,iF,g6] using this
 have a3:au ((K++bx::(L1++L2))++L3) (K++bx::(L1++(L2++L3))):=by
   have:(K++bx::(L1++L2))++L3=K++bx::(L1++(L2++L3)):=by simp only [aG,iF]
   rw [this]; exact au.refl _
 have s1:=(Own.nB Sb (by decide) o1 (xp _)).same (G:=K++bx::(L1++(L2++L3))) a1
 have s2:=(Own.nB Sa (by decide) o2 (xt _)).same (G:=K++bx::(L1++(L2++L3))) a2
 have s3:=(Own.nB R9 (by decide) o3 (xq _)).same (G:=K++bx::(L1++(L2++L3))) a3
 exact { h with p:=s1,s:=s2,i:=s3 }
theorem EM (D:List Nat) (K:AH) (nm:ByteArray) (loc:Int) (vp vz vi:AV) (rp rz ri:List (List AV)):CE (d8 D K) nm loc vp vz vi rp rz ri=CE K nm loc vp vz vi rp rz ri:=by
 unfold CE; rw [qG]
theorem Jr {K:AH} {nm:ByteArray} {vp vz vi:AV} {loc:Int} {rp rz ri:List (List AV)} (h29:∀ L,Ev aa C0 W0 29 [vp] (K++L)=some (bp 2 rp.length vp (K.length+L.length),K++(L++bo 74 vp rp.flatten))) (h30:∀ L,Ev aa C0 W0 30 [vz] (K++L)=some (bp 2 rz.length vz (K.length+L.length),K++(L++bo 77 vz rz.flatten))) (h31:∀ L,Ev aa C0 W0 31 [vi] (K++L)=some (bp 8 ri.length vi (K.length+L.length),K++(L++bo 80 vi ri.flatten))) (hvp:vp.cells=[vp]/\vp.one=true) (hvz:vz.cells=[vz]/\vz.one=true) (hvi:vi.cells=[vi]/\vi.one=true) {tm:List AV} {R:Option (bs × St)} (hR:EvC aa C0 W0 pf (aI [true,true,true,false,true,false,false,true,true,false,false,true,false] (Tryz.f10.body.getD .skip)) (tm,K++[.cells [.str nm,vp,vz,I loc,vi] 66])=R) (hlen:tm.length=100) (h13:tm.getD 13 uA=.ptr K.length 0) :
   ∃ tm',R=some (.normal,(tm',K++CE K nm loc vp vz vi rp rz ri))/\tm'.length=100/\tm'.getD 2 uA=tm.getD 2 uA/\tm'.getD 11 uA=tm.getD 11 uA/\tm'.getD 12 uA=tm.getD 12 uA/\tm'.getD 13 uA=tm.getD 13 uA/\tm'.getD 40 uA=tm.getD 40 uA/\tm'.getD 41 uA=tm.getD 41 uA/\tm'.getD 42 uA=tm.getD 42 uA:=by
 subst hR
 exact Oo h29 h30 h31 hvp hvz hvi hlen h13
theorem PJ {H K4:AH} {l0:List (Cod × AV × AV × AV)} {vs cv:AV} {q c:Nat} {D:List Nat} (hH:au H K4) (hHc:H.length<=c) (hcl:c < K4.length) (hl:∀ p∈l0,eO H p.1 p.2.1 p.2.2.1 p.2.2.2) (hsm:Vs l0) (hq:ak K4 q 0 1=some [cv]) (hqc:q≠c) (hcD:c∈D) (hDl:∀ d∈D,d < K4.length) (hia:∀ j,j < l0.length->∀ kk,aD aa 22 cv (.int kk (j:Int))=some (.ptr c (j * 5))) (hN:l0.length < 2 ^ 60):∀ (d j:Nat) (tm:List AV) (K:AH) (Z:Option (bs × St)),EvC aa C0 W0 pf R7 (tm,K)=Z->l0.length - j=d->j<=l0.length->(tm.length=100/\tm.getD 2 uA=vs/\tm.getD 11 uA=.ptr q 0/\tm.getD 40 uA=cv/\tm.getD 41 uA=I l0.length/\tm.getD 42 uA=I ((j:Nat):Int)/\AgX K4 K c/\E6 D K c l0 j) ->
   ∃ X K1,Z=some (.exit 0,(X,K1))/\(X.length=100/\X.getD 2 uA=vs/\X.getD 11 uA=.ptr q 0/\X.getD 40 uA=cv/\X.getD 41 uA=I l0.length/\X.getD 42 uA=I ((l0.length:Nat):Int)/\AgX K4 K1 c/\E6 D K1 c l0 l0.length):=by
 intro d
 induction d with
 | zero =>
   intro j tm K Z hZ hd hj hI
   subst hZ
   have hjl:j=l0.length:=by omega
   subst hjl
   have hI0:=hI
   obtain ⟨hlen,h2x,h11,h40,h41,h42,hX,hC⟩:=hI
   have hlt:ltB (((l0.length:Nat)):Int) (l0.length:Nat)=false:=cH (by omega)
   rw [MU]
   simp -implicitDefEqProofs only [GC,Tryz.f10,aP,hlen,h2x,h11,h40,h41,h42,hlt,↓cbT,↓cbF,↓ao,an,eu,sevalprocAttr]
   refine ⟨_,K,rfl,?_⟩
   exact ⟨by first | exact hlen | simp only [aq,hlen],Aj5 (by simp only [hlen,h2x,h11,h40,h41,h42,gB,and_self,sevalprocAttr]) ⟨hX,hC⟩⟩
 | succ d ih =>
   intro j tm K Z hZ hd hj hI
   subst hZ
   have hI0:=hI
   obtain ⟨hlen,h2x,h11,h40,h41,h42,hX,hC⟩:=hI
   have hjN:j < l0.length:=by omega
   have hlt:ltB (j:Int) (l0.length:Nat)=true:=cD (by omega)
   have hw:=cp (j:=j) (by omega)
   obtain ⟨pr,hpr,hcod,hKc⟩:=hC.ex
   have hK:=hKc (fun e=>by rw [e] at hjN; exact absurd hjN (by simp))
   have hix:=hia j hjN
   have hprl:pr.length=j:=by
     have:=congrArg List.length hpr
     rw [ar,ar,d4,rV (vU hjN)] at this; exact this
   have hdr:l0.drop j=l0[j]::l0.drop (j+1):=List.drop_eq_getElem_cons hjN
   have hAH:au H K:=fun i hi=>(hX.2 i (bu hi hH.len) (by omega)).trans (hH i hi)
   have hql:q < K4.length:=Q0 hq
   have hq0:∀ L,ak (K++L) q 0 1=some [cv]:=fun L=>by
     unfold ak at hq ⊢
     rw [aw (bu hql hX.1),hX.2 q hql hqc]; exact hq
   have hmem:l0[j]∈l0:=gM _
   have hR:=hl _ hmem
   have hS:=hsm _ hmem
   have ht:(l0.take (j+1)).map (·.1)=(l0.take j).map (·.1)++[(l0[j]).1]:=by rw [eH,aj hjN,eg]; rfl
   rw [hdr] at hK
   generalize l0[j]=p at *
   obtain ⟨cod,vp,vz,vi⟩:=p
   simp only at hR hS ht
   have hfl:(pr.map iS).flatten.length=j * 5:=by rw [dM (nS pr),ar,hprl]
   have hrd:∀ L,ak (K++L) c (j * 5) 5=some [.str cod.name,vp,vz,I cod.loc,vi]:=fun L=>by
     rw [eL hK L,if_pos (by rw [ez,gI,fu,ai,ai,hfl]; show j * 5+5<=j * 5+(5+_); omega)]
     rw [ez,gI,fu,<-hfl,NJ rfl]; rfl
   have hp1:=hR.p.cells
   have hp2:=hR.p.one
   have hz1:=hR.s.cells
   have hz2:=hR.s.one
   have hi1:=hR.i.cells
   have hi2:=hR.i.one
   have h29:=fun L=>ac7 (hR.p.same hAH) (xp _) (by rw [ar]; exact iD b74 hS.1) L
   have h30:=fun L=>ac6 (hR.s.same hAH) (xt _) (by rw [ar]; exact iD b77 hS.2.1) L
   have h31:=fun L=>ac5 (hR.i.same hAH) (xq _) (by rw [ar]; exact iD b80 hS.2.2) L
   have hwr:=fun L=>iu hK (k:=j * 5) (xs:=[.str cod.name,bp 2 (cod.params.map ja).length vp (K.length+1),bp 2 (cod.shared.map kg).length vz (K.length+((bo 74 vp (cod.params.map ja).flatten).length+1)),I cod.loc,bp 8 (cod.insns.map eK).length vi (K.length+((bo 74 vp (cod.params.map ja).flatten).length+((bo 77 vz (cod.shared.map kg).flatten).length+1)))]) (by
     rw [ez,gI,fu,ai,ai,hfl]; show j * 5+5<=j * 5+(5+_); omega) (by
     have q1:=(eG 2 (cod.params.map ja).length vp (K.length+1)).2
     have q2:=(eG 2 (cod.shared.map kg).length vz (K.length+((bo 74 vp (cod.params.map ja).flatten).length+1))).2
     have q3:=(eG 8 (cod.insns.map eK).length vi (K.length+((bo 74 vp (cod.params.map ja).flatten).length+((bo 77 vz (cod.shared.map kg).flatten).length+1)))).2
     rw [gF,gF,gF,gF,gF,q1,q2,q3]; rfl) L
   rw [gI,xg (r:=iS (cod,vp,vz,vi)) (r':=[.str cod.name,bp 2 (cod.params.map ja).length vp (K.length+1),bp 2 (cod.shared.map kg).length vz (K.length+((bo 74 vp (cod.params.map ja).flatten).length+1)),I cod.loc,bp 8 (cod.insns.map eK).length vi (K.length+((bo 74 vp (cod.params.map ja).flatten).length+((bo 77 vz (cod.shared.map kg).flatten).length+1)))]) hfl rfl] at hwr
   rw [MU]
   rw [<-af K]
   simp -implicitDefEqProofs only [GC,Tryz.f10,aP,hlen,h2x,h11,h40,h41,h42,hlt,hw,hix,hrd,z66,Tl,↓hp1,↓hp2,↓hz1,↓hz2,↓hi1,↓hi2,r5,↓az,nck,↓cbT,↓cbF,↓ao,an,eu,sevalprocAttr]
   generalize hZ:EvC aa C0 W0 _ (Code.region _ _ _) _=R
   obtain ⟨t,he,tl,t2,t11,t12,t13,t40,t41,t42⟩:=Jr (nm:=cod.name) (loc:=cod.loc) h29 h30 h31 ⟨hp1,hp2⟩ ⟨hz1,hz2⟩ ⟨hi1,hi2⟩ hZ (by simp only [ls,hlen]) (by simp only [hlen,gB,sevalprocAttr])
   subst he
   simp only [hlen,h2x,h11,h40,h41,h42,gB,sevalprocAttr] at t2 t11 t12 t13 t40 t41 t42
   simp -implicitDefEqProofs only [tl,t2,t11,t12,t13,t40,t41,t42,hw,hix,hq0,↓fX OM,CE,Tl,hwr,r5,↓az,nck,↓cbT,↓cbF,↓ao,an,eu,sevalprocAttr]
   generalize hX':EvC aa C0 W0 _ _ _=Z
   refine ih (j+1) _ _ _ hX' (by omega) (by omega) ?_
   refine ⟨by simp only [ls,tl],Aj5 (by simp only [tl,t2,t11,t40,t41,t42,gB,and_self,sevalprocAttr]) ⟨⟨?_,?_⟩,⟨?_⟩⟩⟩
   · rw [ai,aq]; exact ba hX.1 (du _ _)
   · intro i hi hne
     rw [aw (by rw [aq]; exact bu hi hX.1),aB (Ne.symm hne)]
     exact hX.2 i hi hne
   · have hcK:c < K.length:=bu hcl hX.1
     have hset:∀ o L,d8 D (K.set c o++L)=d8 D K++L:=fun o L=>by rw [uL D _ _ fun d hd=>by rw [aq]; exact bu (hDl d hd) hX.1,zS D _ c o hcD]
     refine ⟨pr++[(cod,bp 2 (cod.params.map ja).length vp (K.length+1),bp 2 (cod.shared.map kg).length vz (K.length+((bo 74 vp (cod.params.map ja).flatten).length+1)),bp 8 (cod.insns.map eK).length vi (K.length+((bo 74 vp (cod.params.map ja).flatten).length+((bo 77 vz (cod.shared.map kg).flatten).length+1))))],?_,?_,fun _=>?_⟩
     rotate_left 2
     · rw [aw (by rw [aq]; exact hcK),List.getElem?_set_self hcK,eg,aG]; rfl
     · rw [eg,hpr,ht]; rfl
     · intro p hp
       rw [hset]
       rcases List.mem_append.1 hp with h | h
       · exact (hcod p h).bg (au.app _ _)
       · rw [List.mem_singleton] at h
         subst h
         have hh:=U0 (K:=d8 D K) hR
         rw [EM,qG] at hh
         exact hh
end Go.Dv
