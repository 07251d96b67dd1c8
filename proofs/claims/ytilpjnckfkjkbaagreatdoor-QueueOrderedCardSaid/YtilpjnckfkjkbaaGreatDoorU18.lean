/- Part 18 of the walks (own work). -/
import Derived.Test.YtilpjnckfkjkbaaGreatDoorU17
open List renaming all_cons→gL,any_cons→cW,any_nil→dz,any_toArray→cj,append_assoc→aD,append_nil→af,cons_append→iM,drop_left'→O2,flatten_append→gF,flatten_cons→fF,getElem?_append_left→ar,getElem?_append_right→al,getElem?_eq_getElem→aj,getElem?_set_ne→ay,getElem_mem→gQ,length_append→ai,length_cons→cR,length_map→ao,length_set→aq,length_take→dR,map_append→dE,map_cons→fI,mem_cons→bW,mem_map→bI,mem_map_of_mem→jM,nil_append→ig,replicate→au,set_append_left→gn,set_comm→RZ,take_add_one→ez,zip→xm
open Nat renaming add_assoc→bN,add_sub_cancel_left→aN,ble→wB,le_add_right→dI,le_of_lt→wz,le_refl→aw,le_trans→bh,lt_of_lt_of_le→bF,min_eq_left→r7,sub_self→d9
open Option renaming bind_some→ax,map→rJ
open Go.Proofs.Tryz renaming prog→aa
set_option maxRecDepth 100000
set_option maxHeartbeats 4000000
set_option linter.unusedSimpArgs false
set_option linter.unusedVariables false
open Go.Proofs.Tryz (f10 f40)
namespace Go.Dv
open Go.Proofs
attribute [local congr] aA bC aT bB bD
def OT (v:AV) (lo hi:Nat):Prop:=∀ i k e l c x,v=.slice i k e l c x->lo<=i/\i < hi
theorem Fl {es n:Nat} {v:AV} {E:TypeId} {xs:List AV} {b:Nat} (hn:n=0↔xs=[]):OT (bu es n v b) b (b+(bq E v xs).length):=by
 intro i k e l c x h;by_cases hv:v=.nilSlice
 · subst hv; cases h
 · have hc:bu es n v b=if n=0 then .slice b 0 es 0 0 true else .slice (b+1) 0 es n n false:=by
     cases v <;> first | rfl | exact absurd rfl hv
   have hL:bq E v xs=if xs=[] then [.cells [] E] else [.cells [] E,.cells xs E]:=by
     cases v <;> first | rfl | exact absurd rfl hv
   rw [hc] at h
   rw [hL]
   by_cases h0:n=0
   · rw [if_pos h0] at h
     rw [if_pos (hn.1 h0)]
     cases h
     exact ⟨aw _,Nat.lt_succ_self _⟩
   · rw [if_neg h0] at h
     rw [if_neg fun e=>h0 (hn.2 e)]
     cases h
     exact ⟨Nat.le_succ _,by simp⟩
def ju (l:List Int):List AV:=l.map fun x=>.int .i32 x
theorem L8 (l:List Int):l.length=0↔ju l=[]:=by unfold ju; simp
theorem ym {N:Nat} {HH:AH} (hH:HH.length=N+1) (l:List (List Int × AV)) (hv:∀ p∈l,p.2=.nilSlice->p.1=[]) :
   ∀ j,j<=l.length->∀ i,i < j->Own (N+1+(du N (l.take i)).2.length) (HH++(du N (l.take j)).2) 1 21 ((du N (l.take j)).1.getD i uA) (ju (l.getD i ([],uA)).1) /\
     OT ((du N (l.take j)).1.getD i uA) (N+1+(du N (l.take i)).2.length) (N+1+(du N (l.take (i+1))).2.length):=by
 intro j;induction j with
 | zero=>intro _ i hi; omega
 | succ j ih =>
   intro hj i hi;have hjl:j < l.length:=hj;have hml:(du N (l.take j)).1.length=j:=by rw [og,dR,r7 (wz hjl)]
   have hg:l.getD j ([],uA)=l[j]:=by rw [gde,aj hjl]; rfl
   have ht:l.take (j+1)=l.take j++[l.getD j ([],uA)]:=by rw [ez,aj hjl,hg]; rfl
   have hmem:l.getD j ([],uA)∈l:=by rw [hg]; exact gQ _
   have hstep:du N (l.take (j+1))=tp N (du N (l.take j)) (l.getD j ([],uA)):=by rw [ht,uR]
   have hagree:an (HH++(du N (l.take j)).2) (HH++(du N (l.take (j+1))).2):=by rw [hstep];show an _ (HH++(_++_));rw [<-aD];exact an.app _ _
   rcases Nat.lt_or_ge i j with c | c
   · obtain ⟨h1,h2⟩:=ih (wz hjl) i c;have he:(du N (l.take (j+1))).1.getD i uA=(du N (l.take j)).1.getD i uA:=by rw [hstep];show (_++[_]).getD i uA=_;rw [gde,ar (by rw [hml]; exact c),gde]
     rw [he];exact ⟨h1.aZ hagree,h2⟩
   · have hij:i=j:=by omega
     subst hij;have he:(du N (l.take (i+1))).1.getD i uA=bu 1 (l.getD i ([],uA)).1.length (l.getD i ([],uA)).2 (N+1+(du N (l.take i)).2.length):=by rw [hstep];show (_++[_]).getD i uA=_;rw [gde,al (by rw [hml]; exact aw _),hml,d9]; rfl
     have hll:(HH++(du N (l.take i)).2).length=N+1+(du N (l.take i)).2.length:=by rw [ai,hH]
     rw [he];constructor
     · have:=kW (E:=21) (es:=1) (G:=HH++(du N (l.take i)).2) (v:=(l.getD i ([],uA)).2) (xs:=ju (l.getD i ([],uA)).1) (n:=(l.getD i ([],uA)).1.length) (by decide) (by unfold ju; simp) (fun e=>by rw [hv _ hmem e]; rfl);rw [hll] at this;rw [hstep];show Own _ (HH++(_++_)) _ _ _ _;rw [<-aD];exact this
     · have:=Fl (es:=1) (n:=(l.getD i ([],uA)).1.length) (v:=(l.getD i ([],uA)).2) (E:=21) (xs:=ju (l.getD i ([],uA)).1) (b:=N+1+(du N (l.take i)).2.length) (L8 _);rw [hstep];show OT _ _ (N+1+((du N (l.take i)).2++bq 21 (l.getD i ([],uA)).2 (ju (l.getD i ([],uA)).1)).length);rw [ai,<-bN];exact this
theorem Own.s32 {b:Nat} {H:AH} {v:AV} {l:List Int} (h:Own b H 1 21 v (ju l)):SlS 32 1 H v (l.map dH):=
 Own.mJ Ab (by decide) (by rw [zO]; exact h) (B8 l)
theorem QY {H L:AH} {l:List (List Int × AV)}:SlS 24 1 (H++(L++(.cells (du (H.length+L.length) l).1 32::(du (H.length+L.length) l).2))) (.slice (H.length+L.length) 0 1 l.length l.length true) ((du (H.length+L.length) l).1.map fun w=>[w]):=by
 have hml:=og (H.length+L.length) l;have hg:(H++(L++(bm.cells (du (H.length+L.length) l).1 32::(du (H.length+L.length) l).2)))[H.length+L.length]? =some (.cells (du (H.length+L.length) l).1 32):=by rw [al (dI _ _),aN,al (aw _),d9]; rfl
 have h:=mI (T:=24) (es:=1) Gk (H:=H++(L++(bm.cells (du (H.length+L.length) l).1 32::(du (H.length+L.length) l).2))) (i:=H.length+L.length) (k:=0) (c:=l.length) (e:=true) (rows:=(du (H.length+L.length) l).1.map fun w=>[w]) (by
     intro r hr;obtain ⟨w,_,rfl⟩:=bI.1 hr;rfl) (by unfold okC; rw [hg]) (by
     unfold ak;rw [hg];simp only [ao];rw [if_pos (by omega),List.drop_zero,List.take_of_length_le (by omega),qb,List.map_id'' (fun _=>rfl)])
 rwa [ao,hml] at h
theorem Vx {H L:AH} {l:List (List Int × AV)} (hv:∀ p∈l,p.2=.nilSlice->p.1=[]) (hn:l.length < 2 ^ 50) (hb:∀ p∈l,p.1.length < 2 ^ 50) (hi:∀ p∈l,∀ x∈p.1,fk x) :
   eo (H++(L++(.cells (du (H.length+L.length) l).1 32::(du (H.length+L.length) l).2))) (l.map (·.1)) (.slice (H.length+L.length) 0 1 l.length l.length true):=by
 have hml:=og (H.length+L.length) l;refine ⟨⟨xm (l.map (·.1)) (du (H.length+L.length) l).1,?_,?_,?_⟩,by rw [ao]; exact hn,fun b hb'=>?_,fun b hb'=>?_⟩
 · rw [List.map_fst_zip (by rw [ao,hml]; exact aw _)]
 · have:(xm (l.map (·.1)) (du (H.length+L.length) l).1).map (fun p=>[p.2])=(du (H.length+L.length) l).1.map fun w=>[w]:=by
     rw [show (fun p:List Int × AV=>[p.2])=(fun w=>[w]) ∘ Prod.snd from rfl,<-List.map_map,List.map_snd_zip (by rw [ao,hml]; exact aw _)]
   rw [this]
   exact QY
 · intro p hp;obtain ⟨i,hi',hpe⟩:=List.mem_iff_getElem.1 hp;have hil:i < l.length:=by rw [List.length_zip,ao] at hi'; omega
   have hiw:i < (du (H.length+L.length) l).1.length:=by rw [hml]; exact hil
   obtain ⟨ho,_⟩:=ym (N:=H.length+L.length) (HH:=H++(L++[.cells (du (H.length+L.length) l).1 32])) (by simp; omega) l hv l.length (aw _) i hil;rw [List.take_length] at ho;have he:p=((l.getD i ([],uA)).1,(du (H.length+L.length) l).1.getD i uA):=by rw [<-hpe,List.getElem_zip,List.getElem_map,gde,aj hil,gde,aj hiw]; rfl
   rw [he];have:=ho.s32;simpa only [aD,iM,ig] using this
 · obtain ⟨p,hp,rfl⟩:=bI.1 hb';exact hb p hp
 · obtain ⟨p,hp,rfl⟩:=bI.1 hb';exact hi p hp
theorem mQ {T es:Nat} {H:AH} {v:AV} {rows:List (List AV)} (h:SlS T es H v rows) (hv:v=.nilSlice):rows=[]:=by
 rcases h.old with ⟨_,e⟩ | ⟨i,k,c,e,e',_⟩
 · exact e
 · rw [hv] at e'; cases e'
theorem aak {H:AH} {m:List (List Int)} {vm:AV} (h:eo H m vm) (hn:m.length<=100) (hb:∀ b∈m,b.length<=1000):∃ v K,Ev aa C0 W0 28 [vm] H=some (v,K)/\an H K/\eo K m v:=by obtain ⟨⟨l,rfl,hs,hp⟩,h1,h2,h3⟩:=h;have he:=aal hs hp (by rwa [ao] at hn) (fun p hp=>hb _ (jM hp)) [];rw [af] at he;refine ⟨_,_,he,an.app _ _,Vx (fun p hpl e=>?_) (by rwa [ao] at h1) (fun p hp=>h2 _ (jM hp)) (fun p hp=>h3 _ (jM hp))⟩;have:=mQ (hp p hpl) e;simpa using this
theorem aeG {G:AH} {q:Nat} {vc vm vs va:AV} {f:Con} {ss:List (List Itm)} {ad:List Nat} {m:List (List Int)} {rc:List Bool} (h:m6 G q vc vm vs va f ss ad m rc 0) (hn:m.length<=100) (hb:∀ b∈m,b.length<=1000):∃ v K,Ev aa C0 W0 40 [.ptr q 0] G=some (v,K)/\an G K/\eo K m v:=by
 obtain ⟨tm,ht,g0,g1⟩:=tm1 (.ptr q 0) 10 (by decide);rw [adg,ht];have hq1:ak G q 1 1=some [vm]:=by have:=h.cell (an.refl G) [] 1 (x:=vm) rfl; rwa [Nat.zero_add,af] at this
 obtain ⟨v,K,he,hA,hm⟩:=aak h.m hn hb;refine ⟨v,K,?_,hA,hm⟩;simp -implicitDefEqProofs only [c40,f40,aP,g0,g1,↓yc,hq1,↓ZS,he,↓zzC,zzE,sevalprocAttr]
theorem F7 (n:Nat) (hn:n<=1000) (s:Option Nat) (H:AH):fN aa s 30 (I n) (I n) H=(put s H (.cells (au n (I 0)) 3)).map fun p=>(.slice p.1 0 1 n n true,p.2):=by
 have hz:d8 aa 3=some (I 0):=by kernel_rfl
 have hs:gh aa 30=some 3:=by kernel_rfl
 have hb:aa.bytesOf 3=8:=by kernel_rfl
 have hc:aa.cellsOf 3=1:=by kernel_rfl
 unfold fN;simp only [hs,hz,ax];rw [if_pos ⟨by omega,by omega,by omega,by rw [hb]; omega,by simp [AV.cells]⟩];rw [hc,Nat.mul_one,Int.toNat_natCast];show rJ _ (put s H (.cells (ly [I 0] n) 3))=_;rw [FF]
theorem ae8 {c:AV} (hc:c=.nilSlice∨∃ i k es l cc e,c=.slice i k es l cc e) (i1 k1 e1 l1 c1 i2 k2 e2 l2 c2:Nat) (x1 x2:Bool) (f:Con) :
   iV aa 71 [(0,c),(1,.slice i1 k1 e1 l1 c1 x1),(2,.agg [I f.w,.bool f.free,I f.cores,I f.slots,I f.room,I f.pol,I f.lat]),(4,.slice i2 k2 e2 l2 c2 x2)]=some (.agg (lP c (.slice i1 k1 e1 l1 c1 x1) .nilSlice (.slice i2 k2 e2 l2 c2 x2) f (au 16 false) 0)):=by rcases hc with rfl | ⟨i,k,es,l,cc,e,rfl⟩ <;> kernel_rfl
theorem IX (es n:Nat) (v:AV) (b:Nat):bu es n v b=.nilSlice∨∃ i k es' l cc e,bu es n v b=.slice i k es' l cc e:=by
 unfold bu;split
 · exact .inl rfl
 · split
   · exact .inr ⟨_,_,_,_,_,_,rfl⟩
   · exact .inr ⟨_,_,_,_,_,_,rfl⟩
def uQ (H:AH) (rows:List (List AV)) (l:List (List Int × AV)) (n:Nat) (vc:AV) (f:Con):AH:=
 H++([.cells [I f.w,.bool f.free,I f.cores,I f.slots,I f.room,I f.pol,I f.lat] 27,.fresh,.fresh,.fresh,.fresh,.fresh,.fresh,.fresh,.cells (au n (I 0)) 3,.fresh,
   .cells (lP (bu 5 rows.length vc (H.length+12)) (.slice (H.length+((bq 66 vc rows.flatten).length+12)) 0 1 l.length l.length true) .nilSlice (.slice (H.length+8) 0 1 n n true) f (au 16 false) 0) 71,.fresh] ++
   (bq 66 vc rows.flatten++(.cells (du (H.length+((bq 66 vc rows.flatten).length+12)) l).1 32::(du (H.length+((bq 66 vc rows.flatten).length+12)) l).2)))
theorem PF {H:AH} {rows:List (List AV)} {l:List (List Int × AV)} {n:Nat} {vc vm vs:AV} (f:Con) (h27:∀ L,Ev aa C0 W0 27 [vc] (H++L)=some (bu 5 rows.length vc (H.length+L.length),H++(L++bq 66 vc rows.flatten))) (h28:∀ L,Ev aa C0 W0 28 [vm] (H++L)=some (.slice (H.length+L.length) 0 1 l.length l.length true,H++(L++(.cells (du (H.length+L.length) l).1 32::(du (H.length+L.length) l).2))))
   (hls:∀ G,d4 aa 25 G vs=some (I n)) (hn:n<=4) {tm:List AV} (hlen:tm.length=100) (h0:tm.getD 0 uA=vc) (h1:tm.getD 1 uA=vm) (h2:tm.getD 2 uA=vs) (h7:tm.getD 7 uA=.ptr H.length 0) :
   ∃ tm',EvC aa C0 W0 pU (aH [true,true,false] (f10.body.getD .skip)) (tm,H++[.cells [I f.w,.bool f.free,I f.cores,I f.slots,I f.room,I f.pol,I f.lat] 27])=some (.normal,(tm',uQ H rows l n vc f))/\tm'.length=100/\tm'.getD 2 uA=vs/\tm'.getD 11 uA=.ptr (H.length+10) 0:=by
 have hms:=F7 n (by omega);have hb:=fun i1 k1 e1 l1 c1 i2 k2 e2 l2 c2 x1 x2 b=>ae8 (IX 5 rows.length vc b) i1 k1 e1 l1 c1 i2 k2 e2 l2 c2 x1 x2 f;simp -implicitDefEqProofs only [f10,aP,hlen,h0,h1,h2,h7,↓cD Qa,Lm,List.any_toArray',cj,cW,dz,bZ,↓adY,↓ZS,h27,h28,hls,↓g9,hms,hb,List.size_toArray,List.replicate_succ,List.replicate_zero,↓dW,↓dS,↓gK,↓eP,↓dU,↓eR,↓da,↓dX,↓bP,↓bz,↓cg,↓eT,↓de,↓dY,↓bR,↓bQ,↓ch,↓dJ,↓cJ,dg,bH,ai,bN,cd,cI,dh,↓zzC,zzE,sevalprocAttr];refine ⟨_,rfl,?_,?_,?_⟩
 · simp only [aq,hlen]
 · simp only [hlen,h2,gB,sevalprocAttr]
 · simp only [hlen,gB,sevalprocAttr]
def Fj (K:AH) (nm:ByteArray) (loc:Int) (vp vz vi:AV) (rp rz ri:List (List AV)):AH:=
 .cells [.str nm,bu 2 rp.length vp (K.length+1),bu 2 rz.length vz (K.length+((bq 74 vp rp.flatten).length+1)),I loc,bu 8 ri.length vi (K.length+((bq 74 vp rp.flatten).length+((bq 77 vz rz.flatten).length+1)))] 66 ::
   (bq 74 vp rp.flatten++(bq 77 vz rz.flatten++bq 80 vi ri.flatten))
def AgX (G K:AH) (c:Nat):Prop:=G.length<=K.length/\∀ i,i < G.length->i≠c->K[i]? =G[i]?
theorem AgX.refl (G:AH) (c:Nat):AgX G G c:=⟨aw _,fun _ _ _=>rfl⟩
theorem xH {A B:List (List AV)} {r r':List AV} {k:Nat} (hA:A.flatten.length=k) (hr:r.length=r'.length):spl (A++r::B).flatten k r'=(A++r'::B).flatten:=by rw [gF,gF,fF,fF,iG _ _ _ (by rw [ai,ai]; omega),<-hA,<-hr];rw [List.take_left',List.drop_append,List.drop_of_length_le (by omega),aN,ig,O2 rfl,aD];rfl
theorem iF {K:AH} {b:Nat} {cs:List AV} {e:TypeId} (h:K[b]? =some (.cells cs e)) {k:Nat} {xs:List AV} (hk:k+xs.length<=cs.length) (hx:xs.all AV.one=true) (L:AH):bj (K++L) b k xs=some (K.set b (.cells (spl cs k xs) e)++L):=by have hb:=aI h;unfold bj;rw [ar hb,h];simp only;rw [if_pos ⟨hk,hx⟩,gn _ _ hb]
def jd (p:Cod × AV × AV × AV):List AV:=bO p.1 p.2.1 p.2.2.1 p.2.2.2
theorem n9 (l:List (Cod × AV × AV × AV)):∀ r∈l.map jd,r.length=5:=by intro r hr;obtain ⟨p,_,rfl⟩:=bI.1 hr;rfl
def eA:List Nat->AH->AH
 | [],K=>K
 | d::D,K=>eA D (K.set d .dead)
theorem qM:∀ (D:List Nat) (K:AH),(eA D K).length=K.length
 | [],_=>rfl
 | d::D,K=>by rw [eA,qM D,aq]
theorem uZ:∀ (D:List Nat) (K L:AH),(∀ d∈D,d < K.length)->eA D (K++L)=eA D K++L
 | [],_,_,_=>rfl
 | d::D,K,L,h=>by
   rw [eA,eA,gn _ _ (h d (by simp)),uZ D _ L fun x hx=>by rw [aq]; exact h x (by simp [hx])]
theorem yz:∀ (D:List Nat) (K:AH) (d:Nat),eA D (K.set d .dead)=(eA D K).set d .dead
 | [],_,_=>rfl
 | e::D,K,d=>by
   rw [eA,eA,<-yz D]
   rcases Decidable.em (d=e) with h | h
   · subst h; rfl
   · rw [RZ _ _ h]
theorem z9:∀ (D:List Nat) (K:AH) (c:Nat) (o:bm),c∈D->eA D (K.set c o)=eA D K
 | d::D,K,c,o,h=>by
   rw [eA,eA]
   rcases Decidable.em (c=d) with e | e
   · subst e; rw [List.set_set]
   · rw [RZ _ _ e]
     exact z9 D _ c o ((bW.1 h).resolve_left e)
theorem kf:∀ (D:List Nat) (K:AH) (i:Nat),i∉D->(eA D K)[i]? =K[i]?
 | [],_,_,_=>rfl
 | d::D,K,i,h=>by
   rw [eA,kf D _ i fun x=>h (by simp [x]),ay fun e=>h (by simp [e])]
theorem iK:∀ (D:List Nat) (K:AH) (i:Nat),i∈D->lL (eA D K) i
 | d::D,K,i,h=>by
   rw [eA,yz]
   rcases Decidable.em (i=d) with e | e
   · subst e; exact ve _ _
   · exact (iK D K i ((bW.1 h).resolve_left e)).kill d
theorem z8:∀ (D:List Nat) (K:AH),Sub (eA D K) K
 | [],K=>Sub.refl K
 | d::D,K=>(z8 D _).trans (Sub.kill K d)
structure FC (D:List Nat) (K:AH) (c:Nat) (l0:List (Cod × AV × AV × AV)) (j:Nat):Prop where
 ex:∃ pr:List (Cod × AV × AV × AV),pr.map (·.1)=(l0.take j).map (·.1)/\(∀ p∈pr,eW (eA D K) p.1 p.2.1 p.2.2.1 p.2.2.2) /\
   (l0≠[]->K[c]? =some (.cells ((pr.map jd)++((l0.drop j).map jd)).flatten 66))
def WL (l0:List (Cod × AV × AV × AV)):Prop:=∀ p∈l0,p.1.params.length<=2000/\p.1.shared.length<=2000/\p.1.insns.length<=2000
theorem gY {b n:Nat} (hb:wB b 1000=true) (hn:n<=2000):gf b n=true:=by have:=Nat.le_of_ble_eq_true hb;unfold gf;rw [Bool.and_eq_true,decide_eq_true_iff,decide_eq_true_iff];refine ⟨bh (Nat.mul_le_mul (show 2 * n+400<=5000 by omega) this) (by decide),by omega⟩
theorem b74:wB (aa.bytesOf 74) 1000=true:=by kernel_rfl
theorem b77:wB (aa.bytesOf 77) 1000=true:=by kernel_rfl
theorem b80:wB (aa.bytesOf 80) 1000=true:=by kernel_rfl
theorem b66:wB (aa.bytesOf 66) 1000=true:=by kernel_rfl
theorem b34:wB (aa.bytesOf 34) 1000=true:=by kernel_rfl
theorem xN (l:List Prm):∀ r∈l.map jl,r.length=2:=by intro r hr; obtain ⟨p,_,rfl⟩:=bI.1 hr; rfl
theorem xQ (l:List Arr):∀ r∈l.map kp,r.length=2:=by intro r hr; obtain ⟨p,_,rfl⟩:=bI.1 hr; rfl
theorem xP (l:List Ins):∀ r∈l.map eQ,r.length=8:=by intro r hr; obtain ⟨p,_,rfl⟩:=bI.1 hr; rfl
theorem We {H K:AH} {cod:Cod} {vp vz vi:AV} (h:eW H cod vp vz vi) :
   eW (K++Fj K cod.name cod.loc vp vz vi (cod.params.map jl) (cod.shared.map kp) (cod.insns.map eQ)) cod (bu 2 (cod.params.map jl).length vp (K.length+1)) (bu 2 (cod.shared.map kp).length vz (K.length+((bq 74 vp (cod.params.map jl).flatten).length+1))) (bu 8 (cod.insns.map eQ).length vi (K.length+((bq 74 vp (cod.params.map jl).flatten).length+((bq 77 vz (cod.shared.map kp).flatten).length+1)))):=by
 generalize hb:bm.cells [.str cod.name,bu 2 (cod.params.map jl).length vp (K.length+1),bu 2 (cod.shared.map kp).length vz (K.length+((bq 74 vp (cod.params.map jl).flatten).length+1)),I cod.loc,bu 8 (cod.insns.map eQ).length vi (K.length+((bq 74 vp (cod.params.map jl).flatten).length+((bq 77 vz (cod.shared.map kp).flatten).length+1)))] 66=bx;have hK:Fj K cod.name cod.loc vp vz vi (cod.params.map jl) (cod.shared.map kp) (cod.insns.map eQ)=bx::(bq 74 vp (cod.params.map jl).flatten++(bq 77 vz (cod.shared.map kp).flatten++bq 80 vi (cod.insns.map eQ).flatten)):=by rw [<-hb]; rfl
 rw [hK];generalize hL1:bq 74 vp (cod.params.map jl).flatten=L1;generalize hL2:bq 77 vz (cod.shared.map kp).flatten=L2;generalize hL3:bq 80 vi (cod.insns.map eQ).flatten=L3;have o1:=kW (E:=74) (es:=2) (G:=K++[bx]) (v:=vp) (xs:=(cod.params.map jl).flatten) (n:=(cod.params.map jl).length) (by decide) (d5 (xN _)) (fun e=>by rw [mQ h.p e]; rfl);have o2:=kW (E:=77) (es:=2) (G:=K++bx::L1) (v:=vz) (xs:=(cod.shared.map kp).flatten) (n:=(cod.shared.map kp).length) (by decide) (d5 (xQ _)) (fun e=>by rw [mQ h.s e]; rfl);have o3:=kW (E:=80) (es:=8) (G:=K++bx::(L1++L2)) (v:=vi) (xs:=(cod.insns.map eQ).flatten) (n:=(cod.insns.map eQ).length) (by decide) (d5 (xP _)) (fun e=>by rw [mQ h.i e]; rfl);rw [hL1,ai,List.length_singleton] at o1;rw [hL2,ai,cR] at o2;rw [hL3,ai,cR,ai,bN] at o3;have a1:an ((K++[bx])++L1) (K++bx::(L1++(L2++L3))):=by have:=an.app ((K++[bx])++L1) (L2++L3);simpa only [aD,iM,ig] using this
 have a2:an ((K++bx::L1)++L2) (K++bx::(L1++(L2++L3))):=by have:=an.app ((K++bx::L1)++L2) L3;simpa only [aD,iM,ig] using this
 have a3:an ((K++bx::(L1++L2))++L3) (K++bx::(L1++(L2++L3))):=by
   have:(K++bx::(L1++L2))++L3=K++bx::(L1++(L2++L3)):=by simp only [aD,iM]
   rw [this]; exact an.refl _
 have s1:=(Own.mJ Tx (by decide) o1 (xN _)).same (G:=K++bx::(L1++(L2++L3))) a1;have s2:=(Own.mJ Tw (by decide) o2 (xQ _)).same (G:=K++bx::(L1++(L2++L3))) a2;have s3:=(Own.mJ Tv (by decide) o3 (xP _)).same (G:=K++bx::(L1++(L2++L3))) a3;exact { h with p:=s1,s:=s2,i:=s3 }
theorem Fi (D:List Nat) (K:AH) (nm:ByteArray) (loc:Int) (vp vz vi:AV) (rp rz ri:List (List AV)):Fj (eA D K) nm loc vp vz vi rp rz ri=Fj K nm loc vp vz vi rp rz ri:=by unfold Fj; rw [qM]
theorem Ki {K:AH} {nm:ByteArray} {vp vz vi:AV} {loc:Int} {rp rz ri:List (List AV)} (h29:∀ L,Ev aa C0 W0 29 [vp] (K++L)=some (bu 2 rp.length vp (K.length+L.length),K++(L++bq 74 vp rp.flatten))) (h30:∀ L,Ev aa C0 W0 30 [vz] (K++L)=some (bu 2 rz.length vz (K.length+L.length),K++(L++bq 77 vz rz.flatten))) (h31:∀ L,Ev aa C0 W0 31 [vi] (K++L)=some (bu 8 ri.length vi (K.length+L.length),K++(L++bq 80 vi ri.flatten))) (hvp:vp.cells=[vp]/\vp.one=true) (hvz:vz.cells=[vz]/\vz.one=true) (hvi:vi.cells=[vi]/\vi.one=true) {tm:List AV} {R:Option (bk × St)} (hR:EvC aa C0 W0 pU (aH [true,true,true,false,true,false,false,true,true,false,false,true,false] (f10.body.getD .skip)) (tm,K++[.cells [.str nm,vp,vz,I loc,vi] 66])=R) (hlen:tm.length=100) (h13:tm.getD 13 uA=.ptr K.length 0) :
   ∃ tm',R=some (.normal,(tm',K++Fj K nm loc vp vz vi rp rz ri))/\tm'.length=100/\tm'.getD 2 uA=tm.getD 2 uA/\tm'.getD 11 uA=tm.getD 11 uA/\tm'.getD 12 uA=tm.getD 12 uA/\tm'.getD 13 uA=tm.getD 13 uA/\tm'.getD 40 uA=tm.getD 40 uA/\tm'.getD 41 uA=tm.getD 41 uA/\tm'.getD 42 uA=tm.getD 42 uA:=by subst hR;obtain ⟨c1,o1⟩:=hvp;obtain ⟨c2,o2⟩:=hvz;obtain ⟨c3,o3⟩:=hvi;have w1:=fun b=>(eL 2 rp.length vp b);have w2:=fun b=>(eL 2 rz.length vz b);have w3:=fun b=>(eL 8 ri.length vi b);have w1c:=fun b=>(w1 b).1;have w1o:=fun b=>(w1 b).2;have w2c:=fun b=>(w2 b).1;have w2o:=fun b=>(w2 b).2;have w3c:=fun b=>(w3 b).1;have w3o:=fun b=>(w3 b).2;simp -implicitDefEqProofs only [f10,aP,hlen,h13,↓cD P9,Ll,cj,cW,dz,bZ,↓adX,↓adW,↓adV,h29,h30,h31,↓w1c,↓w1o,↓w2c,↓w2o,↓w3c,↓w3o,abJ,abI,abH,↓dW,↓dS,↓gK,↓eP,↓dU,↓eR,↓da,↓dX,↓bP,↓bz,↓cg,↓eT,↓de,↓dY,↓bR,↓bQ,↓ch,↓dJ,↓cJ,dg,bH,ai,bN,cd,cI,dh,↓zzC,zzE,sevalprocAttr];refine ⟨_,rfl,?_⟩;simp only [aq,hlen,h13,gB,sevalprocAttr,and_self]
theorem QU {H K4:AH} {l0:List (Cod × AV × AV × AV)} {vs cv:AV} {q c:Nat} {D:List Nat} (hH:an H K4) (hHc:H.length<=c) (hcl:c < K4.length) (hl:∀ p∈l0,eW H p.1 p.2.1 p.2.2.1 p.2.2.2) (hsm:WL l0) (hq:ak K4 q 0 1=some [cv]) (hqc:q≠c) (hcD:c∈D) (hDl:∀ d∈D,d < K4.length) (hia:∀ j,j < l0.length->∀ kk,aC aa 22 cv (.int kk (j:Int))=some (.ptr c (j * 5))) (hN:l0.length < 2 ^ 60):∀ (d j:Nat) (tm:List AV) (K:AH) (Z:Option (bk × St)),EvC aa C0 W0 pU Ts (tm,K)=Z->l0.length - j=d->j<=l0.length->(tm.length=100/\tm.getD 2 uA=vs/\tm.getD 11 uA=.ptr q 0/\tm.getD 40 uA=cv/\tm.getD 41 uA=I l0.length/\tm.getD 42 uA=I ((j:Nat):Int)/\AgX K4 K c/\FC D K c l0 j) ->
   ∃ X K1,Z=some (.exit 0,(X,K1))/\(X.length=100/\X.getD 2 uA=vs/\X.getD 11 uA=.ptr q 0/\X.getD 40 uA=cv/\X.getD 41 uA=I l0.length/\X.getD 42 uA=I ((l0.length:Nat):Int)/\AgX K4 K1 c/\FC D K1 c l0 l0.length):=by
 intro d;induction d with
 | zero =>
   intro j tm K Z hZ hd hj hI;subst hZ;have hjl:j=l0.length:=by omega
   subst hjl;have hI0:=hI;obtain ⟨hlen,h2x,h11,h40,h41,h42,hX,hC⟩:=hI;have hlt:ltB (((l0.length:Nat)):Int) (l0.length:Nat)=false:=cw (by omega);rw [N9];simp -implicitDefEqProofs only [Ho,f10,aP,hlen,h2x,h11,h40,h41,h42,hlt,↓zzA,zzB,sevalprocAttr];refine ⟨_,K,rfl,?_⟩;exact ⟨by first | exact hlen | simp only [aq,hlen],Aj5 (by simp only [hlen,h2x,h11,h40,h41,h42,gB,and_self,sevalprocAttr]) ⟨hX,hC⟩⟩
 | succ d ih =>
   intro j tm K Z hZ hd hj hI;subst hZ;have hI0:=hI;obtain ⟨hlen,h2x,h11,h40,h41,h42,hX,hC⟩:=hI;have hjN:j < l0.length:=by omega
   have hlt:ltB (j:Int) (l0.length:Nat)=true:=cu (by omega);have hw:=b6 (j:=j) (by omega);obtain ⟨pr,hpr,hcod,hKc⟩:=hC.ex;have hK:=hKc (fun e=>by rw [e] at hjN; exact absurd hjN (by simp));have hix:=hia j hjN;have hprl:pr.length=j:=by have:=congrArg List.length hpr;rw [ao,ao,dR,r7 (wz hjN)] at this; exact this
   have hdr:l0.drop j=l0[j]::l0.drop (j+1):=List.drop_eq_getElem_cons hjN;have hAH:an H K:=fun i hi=>(hX.2 i (bF hi hH.len) (by omega)).trans (hH i hi);have hql:q < K4.length:=Sb hq;have hq0:∀ L,ak (K++L) q 0 1=some [cv]:=fun L=>by unfold ak at hq ⊢;rw [ar (bF hql hX.1),hX.2 q hql hqc]; exact hq
   have hmem:l0[j]∈l0:=gQ _;have hR:=hl _ hmem;have hS:=hsm _ hmem;have ht:(l0.take (j+1)).map (·.1)=(l0.take j).map (·.1)++[(l0[j]).1]:=by rw [ez,aj hjN,dE]; rfl
   rw [hdr] at hK;generalize l0[j]=p at *;obtain ⟨cod,vp,vz,vi⟩:=p;simp only at hR hS ht;have hfl:(pr.map jd).flatten.length=j * 5:=by rw [d5 (n9 pr),ao,hprl]
   have hrd:∀ L,ak (K++L) c (j * 5) 5=some [.str cod.name,vp,vz,I cod.loc,vi]:=fun L=>by rw [eU hK L,if_pos (by rw [gF,fI,fF,ai,ai,hfl]; show j * 5+5<=j * 5+(5+_); omega)];rw [gF,fI,fF,<-hfl,O2 rfl]; rfl
   have hp1:=hR.p.cells;have hp2:=hR.p.one;have hz1:=hR.s.cells;have hz2:=hR.s.one;have hi1:=hR.i.cells;have hi2:=hR.i.one;have h29:=fun L=>aeP (hR.p.same hAH) (xN _) (by rw [ao]; exact gY b74 hS.1) L;have h30:=fun L=>aeO (hR.s.same hAH) (xQ _) (by rw [ao]; exact gY b77 hS.2.1) L;have h31:=fun L=>aeN (hR.i.same hAH) (xP _) (by rw [ao]; exact gY b80 hS.2.2) L;have hwr:=fun L=>iF hK (k:=j * 5) (xs:=[.str cod.name,bu 2 (cod.params.map jl).length vp (K.length+1),bu 2 (cod.shared.map kp).length vz (K.length+((bq 74 vp (cod.params.map jl).flatten).length+1)),I cod.loc,bu 8 (cod.insns.map eQ).length vi (K.length+((bq 74 vp (cod.params.map jl).flatten).length+((bq 77 vz (cod.shared.map kp).flatten).length+1)))]) (by
     rw [gF,fI,fF,ai,ai,hfl]; show j * 5+5<=j * 5+(5+_); omega) (by
     have q1:=(eL 2 (cod.params.map jl).length vp (K.length+1)).2;have q2:=(eL 2 (cod.shared.map kp).length vz (K.length+((bq 74 vp (cod.params.map jl).flatten).length+1))).2;have q3:=(eL 8 (cod.insns.map eQ).length vi (K.length+((bq 74 vp (cod.params.map jl).flatten).length+((bq 77 vz (cod.shared.map kp).flatten).length+1)))).2;rw [gL,gL,gL,gL,gL,q1,q2,q3]; rfl) L
   rw [fI,xH (r:=jd (cod,vp,vz,vi)) (r':=[.str cod.name,bu 2 (cod.params.map jl).length vp (K.length+1),bu 2 (cod.shared.map kp).length vz (K.length+((bq 74 vp (cod.params.map jl).flatten).length+1)),I cod.loc,bu 8 (cod.insns.map eQ).length vi (K.length+((bq 74 vp (cod.params.map jl).flatten).length+((bq 77 vz (cod.shared.map kp).flatten).length+1)))]) hfl rfl] at hwr;rw [N9];rw [<-af K];simp -implicitDefEqProofs only [Ho,f10,aP,hlen,h2x,h11,h40,h41,h42,hlt,hw,hix,hrd,z66,Uy,↓hp1,↓hp2,↓hz1,↓hz2,↓hi1,↓hi2,↓zzC,zzE,sevalprocAttr];generalize hZ:EvC aa C0 W0 _ (Code.region _ _ _) _=R;obtain ⟨t,he,tl,t2,t11,t12,t13,t40,t41,t42⟩:=Ki (nm:=cod.name) (loc:=cod.loc) h29 h30 h31 ⟨hp1,hp2⟩ ⟨hz1,hz2⟩ ⟨hi1,hi2⟩ hZ (by simp only [ls,hlen]) (by simp only [hlen,gB,sevalprocAttr]);subst he;simp only [hlen,h2x,h11,h40,h41,h42,gB,sevalprocAttr] at t2 t11 t12 t13 t40 t41 t42;simp -implicitDefEqProofs only [tl,t2,t11,t12,t13,t40,t41,t42,hw,hix,hq0,↓kG P8,Fj,Uy,hwr,↓zzC,zzE,sevalprocAttr];generalize hX':EvC aa C0 W0 _ _ _=Z;refine ih (j+1) _ _ _ hX' (by omega) (by omega) ?_;refine ⟨by simp only [ls,tl],Aj5 (by simp only [tl,t2,t11,t40,t41,t42,gB,and_self,sevalprocAttr]) ⟨⟨?_,?_⟩,⟨?_⟩⟩⟩
   · rw [ai,aq]; exact bh hX.1 (dI _ _)
   · intro i hi hne;rw [ar (by rw [aq]; exact bF hi hX.1),ay (Ne.symm hne)];exact hX.2 i hi hne
   · have hcK:c < K.length:=bF hcl hX.1;have hset:∀ o L,eA D (K.set c o++L)=eA D K++L:=fun o L=>by rw [uZ D _ _ fun d hd=>by rw [aq]; exact bF (hDl d hd) hX.1,z9 D _ c o hcD]
     refine ⟨pr++[(cod,bu 2 (cod.params.map jl).length vp (K.length+1),bu 2 (cod.shared.map kp).length vz (K.length+((bq 74 vp (cod.params.map jl).flatten).length+1)),bu 8 (cod.insns.map eQ).length vi (K.length+((bq 74 vp (cod.params.map jl).flatten).length+((bq 77 vz (cod.shared.map kp).flatten).length+1))))],?_,?_,fun _=>?_⟩;rotate_left 2
     · rw [ar (by rw [aq]; exact hcK),List.getElem?_set_self hcK,dE,aD]; rfl
     · rw [dE,hpr,ht]; rfl
     · intro p hp;rw [hset];rcases List.mem_append.1 hp with h | h
       · exact (hcod p h).aZ (an.app _ _)
       · rw [List.mem_singleton] at h;subst h;have hh:=We (K:=eA D K) hR;rw [Fi,qM] at hh;exact hh
end Go.Dv
