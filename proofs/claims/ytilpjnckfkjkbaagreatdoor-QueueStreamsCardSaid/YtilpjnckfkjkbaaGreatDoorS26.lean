/- Part 26 of the walks (own work). -/
import Derived.Test.YtilpjnckfkjkbaaGreatDoorS25
import Derived.Test.YtilpjnckfkjkbaaGreatDoorS19
open Bool renaming and_eq_true→aD,not_eq_true'→ba
open List renaming append_assoc→aE,drop_take→rG,drop_zero→iu,getElem?_append_right→aw,getElem?_eq_getElem→aj,getElem?_set→de,getElem?_set_ne→aB,getElem?_set_self→bI,getElem_mem→gC,length→fU,length_append→ai,length_cons→b6,length_eq_zero_iff→dw,length_map→au,length_nil→gj,length_replicate→iI,length_set→ar,length_take→eW,map_set→QE,mem_cons→bH,mem_iff_getElem→fO,mem_map→bY,mem_map_of_mem→g6,mem_or_eq_of_mem_set→yw,replicate→aA,take_add_one→fW,take_append→vF,take_length→gx,take_of_length_le→bt,take_take→qU
open Nat renaming add_sub_cancel_left→bE,le_add_right→cm,le_refl→ax,le_trans→bc,lt_of_le_of_lt→uN,lt_of_lt_of_le→bm,lt_or_ge→aY,mul_one→dS,zero_le→fy
open Option.some renaming inj→aC
open Go.Proofs.Tryz renaming prog→aa
set_option maxRecDepth 100000
set_option maxHeartbeats 4000000
set_option linter.unusedSimpArgs false
set_option linter.unusedVariables false
namespace Go.Dv
open Go.Proofs
attribute [local congr] aH bP bj bO bQ
structure Good (cs:List Cod) (m:List (List Int)) (ss:List (List Itm)) (f:Con):Prop where
 cf:tf f=true
 nc:cs.length<=4
 n1:1<=ss.length
 n4:ss.length<=4
 few:(ss.map fU).sum<=24
 nm:m.length<=6
 nb:∀ b∈m,b.length<=256
 cod:∀ c∈cs,c.params.length<=6/\c.shared.length<=4/\c.insns.length<=2000
 it:∀ l∈ss,∀ x∈l,cK cs m x=true
theorem yn (l:List Nat) (j:Nat):(l.take (j+1)).sum=(l.take j).sum+l.getD j 0:=by
 rw [fW,List.sum_append,gde]
 cases l[j]? <;> simp
theorem vL {ss:List (List Itm)} (hl:∀ l∈ss,l.length < 2 ^ 50):∀ j,j<=ss.length->j<=4->mq ss j=(((ss.map fU).take j).sum:Nat)/\((ss.map fU).take j).sum<=j * 2 ^ 50
 | 0,_,_=>⟨rfl,by simp⟩
 | j+1,h,h4=>by
   obtain ⟨h1,h2⟩:=vL hl j (by omega) (by omega)
   have hj:j < ss.length:=h
   have hg:(ss.map fU).getD j 0=(aR ss j).length:=by
     unfold aR
     rw [gde,List.getElem?_map,gde,aj hj]; rfl
   have hb:=hl _ (gO hj)
   rw [yn,hg]
   refine ⟨?_,by omega⟩
   rw [mq,h1,qN (by omega)]; omega
theorem oD:∀ (l:List Nat) (n:Nat),n∈l->n<=l.sum
 | x::l,n,h=>by
   rw [List.sum_cons]
   rcases bH.1 h with e | e
   · omega
   · have:=oD l n e; omega
theorem sP {α:Type} {l:List α} {d:α} {p:α->Bool} (h:bA (fun j=>p (l.getD j d)) l.length 0=true):∀ x∈l,p x=true:=by
 rw [dy] at h
 intro x hx
 obtain ⟨j,hj,e⟩:=fO.1 hx
 have:=h j hj
 rw [gde,aj hj] at this
 rw [<-e]; exact this
theorem mP {cs:List Cod} {m:List (List Int)} {ss:List (List Itm)} {f:Con} (hl:∀ l∈ss,l.length < 2 ^ 50) (h:fG cs m ss f=0):Good cs m ss f:=by
 unfold fG at h
 cases h0:tf f && uL cs with
 | false=>rw [h0] at h; cases h
 | true =>
   rw [h0] at h
   cases h1:oV cs m ss with
   | false=>rw [h1] at h; cases h
   | true =>
     rw [h1] at h
     cases h2:yb cs m ss with
     | false=>rw [h2] at h; cases h
     | true =>
       rw [aD] at h0
       unfold oV at h1
       simp only [aD,ba,fe] at h1
       obtain ⟨⟨⟨⟨⟨a1,a2⟩,a3⟩,a4⟩,a5⟩,a6⟩:=h1
       have hn4:ss.length<=4:=by omega
       obtain ⟨s1,_⟩:=vL hl ss.length (ax _) hn4
       rw [s1,bt (by rw [au]; exact ax _)] at a4
       refine ⟨h0.1,by omega,by omega,hn4,by omega,by omega,fun b hb=>?_,fun c hc=>?_,fun l hl x hx=>?_⟩
       · unfold lf bG at a6
         have:=sP (l:=m) (d:=[]) (p:=fun b=>!ltB 256 ((b:List Int).length:Int)) a6 b hb
         simp only [ba,fe] at this
         omega
       · have h02:=h0.2
         unfold uL cY at h02
         have:=sP (l:=cs) (d:=⟨eS,[],[],0,[]⟩) (p:=iK) h02 c hc
         unfold iK y5 at this
         simp only [aD,ba,fe] at this
         omega
       · unfold yb aR at h2
         have:=sP (l:=ss) (d:=[]) (p:=fun l=>lh cs m l) h2 l hl
         unfold lh bB at this
         exact sP (l:=l) (d:=⟨0,0,0,0,0,0,0,[],0⟩) (p:=fun x=>cK cs m x) this x hx
theorem A8 {cs:List Cod} {m:List (List Int)} {x:Itm} (hc:∀ c∈cs,c.params.length<=6) (h:cK cs m x=true):x.args.length<=6:=by
 unfold cK at h
 cases k0:eqB x.kind 0 with
 | true =>
   rw [k0,eh] at h
   simp only [aD,dp,dC] at h
   obtain ⟨⟨⟨h1,h2⟩,h3⟩,_⟩:=h
   have hm:cY cs x.code.toNat∈cs:=by
     have hlt:x.code.toNat < cs.length:=by omega
     unfold cY
     rw [dr hlt]
     exact gC _
   have hp:=hc _ hm
   unfold oY u7 ph at h3
   simp only [aD,cX] at h3
   omega
 | false =>
   rw [k0,cZ] at h
   cases k1:eqB x.kind 1 with
   | true =>
     rw [k1,eh] at h
     simp only [aD,cX] at h
     omega
   | false =>
     rw [k1,cZ] at h
     cases k2:eqB x.kind 2 with
     | true =>
       rw [k2,eh] at h
       simp only [aD,cX] at h
       omega
     | false =>
       rw [k2,cZ] at h
       cases k3:(eqB x.kind 3 || eqB x.kind 4) with
       | true =>
         rw [k3,eh] at h
         simp only [aD,cX] at h
         omega
       | false=>rw [k3,cZ] at h; cases h
theorem tP {cs:List Cod} {m:List (List Int)} {x:Itm} (h:cK cs m x=true) (hk:x.kind=3∨x.kind=4):0<=x.ev/\x.ev < 16:=by
 have e0:eqB x.kind 0=false:=jh (by omega)
 have e1:eqB x.kind 1=false:=jh (by omega)
 have e2:eqB x.kind 2=false:=jh (by omega)
 have e3:(eqB x.kind 3 || eqB x.kind 4)=true:=by
   rw [Bool.or_eq_true,cX,cX]; exact hk
 unfold cK at h
 rw [e0,e1,e2,e3,cZ,cZ,cZ,eh] at h
 simp only [aD,dp,dC] at h
 omega
theorem Good.args {cs:List Cod} {m:List (List Int)} {ss:List (List Itm)} {f:Con} (h:Good cs m ss f):∀ l∈ss,∀ x∈l,x.args.length<=6:=fun l hl x hx=>A8 (fun c hc=>(h.cod c hc).1) (h.it l hl x hx)
theorem Good.ev {cs:List Cod} {m:List (List Int)} {ss:List (List Itm)} {f:Con} (h:Good cs m ss f):uM ss:=fun l hl x hx hk=>tP (h.it l hl x hx) hk
theorem Good.len {cs:List Cod} {m:List (List Int)} {ss:List (List Itm)} {f:Con} (h:Good cs m ss f):∀ l∈ss,l.length<=24:=fun l hl=>by
 have:=oD _ _ (g6 (f:=fU) hl)
 have:=h.few
 omega
structure fx (S K:AH) (q a:Nat) (ws:List AV) (vc vm vs:AV) (f:Con) (cs:List Cod) (ss:List (List Itm)) (ad:List Nat) (m:List (List Int)) (rc:List Bool):Prop where
 sub:Sub S K
 gq:ld S q
 ga:ld S a
 gw:∀ w∈ws,∀ b,bZ w=some b->ld S b
 qa:q≠a
 qw:∀ w∈ws,bZ w≠some q/\bZ w≠some a
 ww:∀ i j b,i < ws.length->j < ws.length->bZ (ws.getD i uA)=some b->bZ (ws.getD j uA)=some b->i=j
 kq:K[q]? =some (.cells (lj vc vm vs (.slice a 0 1 ad.length ad.length true) f rc 0) 71)
 ka:K[a]? =some (.cells (ad.map fun (n:Nat)=>I (n:Int)) 3)
 c:cO S cs vc
 s:da S ss vs
 sm:SlS 24 1 S vm (ws.map fun w=>[w])
 lw:ws.length=m.length
 own:∀ i,i < m.length->Own 0 K 1 21 (ws.getD i uA) (iY (bG m i))
 la:ad.length=ss.length
 le:∀ i,i < ss.length->ad.getD i 0<=(aR ss i).length
 lr:rc.length=16
 ev:uM ss
 few:(ss.map fU).sum<=24
 fs:ss.length<=4
 nm:m.length<=6
 nb:∀ b∈m,b.length<=256
 im:∀ b∈m,∀ x∈b,eD x
theorem fx.X8 {S K:AH} {q a:Nat} {ws:List AV} {vc vm vs:AV} {f:Con} {cs:List Cod} {ss:List (List Itm)} {ad:List Nat} {m:List (List Int)} {rc:List Bool} (h:fx S K q a ws vc vm vs f cs ss ad m rc):dc K m vm:=by
 refine ⟨⟨List.zip m ws,?_,?_,?_⟩,uN h.nm (by decide),fun b hb=>uN (h.nb b hb) (by decide),h.im⟩
 · rw [List.map_fst_zip (by rw [h.lw]; exact ax _)]
 · rw [show (fun p:List Int × AV=>[p.2])=(fun w=>[w]) ∘ Prod.snd from rfl,<-List.map_map,List.map_snd_zip (by rw [h.lw]; exact ax _)]
   exact h.sm.sub h.sub
 · intro p hp
   obtain ⟨i,hi,hpe⟩:=fO.1 hp
   have hi':=hi
   rw [List.length_zip] at hi'
   have h1:i < m.length:=by omega
   have h2:i < ws.length:=by omega
   have:=(h.own i h1).s32
   rw [<-hpe,List.getElem_zip]
   rw [show bG m i=m[i] from dr h1 _,show ws.getD i uA=ws[i] from dr h2 _] at this
   exact this
theorem fx.view {S K:AH} {q a:Nat} {ws:List AV} {vc vm vs:AV} {f:Con} {cs:List Cod} {ss:List (List Itm)} {ad:List Nat} {m:List (List Int)} {rc:List Bool} (h:fx S K q a ws vc vm vs f cs ss ad m rc):lu K q vc vm vs (.slice a 0 1 ad.length ad.length true) f ss ad m rc 0 where
 row:=by
   unfold ak
   rw [h.kq]
   simp only
   rw [if_pos (by rw [nA _ _ _ _ _ h.lr]; decide),iu,bt (by rw [nA _ _ _ _ _ h.lr]; exact ax _)]
 m:=h.X8
 s:=h.s.sub h.sub
 a:=by
   have:=m6 (T:=30) (es:=1) xu (H:=K) (i:=a) (k:=0) (c:=ad.length) (e:=true) (rows:=ints ad) (pE ad) (by unfold okC; rw [h.ka]) (by
     unfold ak
     rw [h.ka]
     simp only
     rw [if_pos (by simp [ints]),iu,bt (by simp [ints]),nN])
   have e:(ints ad).length=ad.length:=by simp [ints]
   rw [e] at this
   exact this
 la:=h.la
 le:=h.le
 lr:=h.lr
 ev:=h.ev
 nn:=⟨_,_,_,_,rfl⟩
 few:=h.few
 fs:=h.fs
theorem fx.grow {S K K':AH} {q a:Nat} {ws:List AV} {vc vm vs:AV} {f:Con} {cs:List Cod} {ss:List (List Itm)} {ad:List Nat} {m:List (List Int)} {rc:List Bool} (h:fx S K q a ws vc vm vs f cs ss ad m rc) (hA:al K K'):fx S K' q a ws vc vm vs f cs ss ad m rc:=
 { h with sub:=h.sub.aX hA,kq:=hA.get h.kq,ka:=hA.get h.ka,own:=fun i hi=>(h.own i hi).aX hA }
theorem eX {α:Type} {l:List α} {i:Nat} (h:i < l.length) (d:α):l.getD i d∈l:=by
 rw [gde,aj h]; exact gC _
theorem Io {H:AH} {rows:List (List AV)} {l:List (List Int × AV)} {n:Nat} {vc vm vs:AV} (f:Con) (h27:∀ L,Ev aa C0 W0 27 [vc] (H++L)=some (bl 5 rows.length vc (H.length+L.length),H++(L++bh 66 vc rows.flatten))) (h28:∀ L,Ev aa C0 W0 28 [vm] (H++L)=some (.slice (H.length+L.length) 0 1 l.length l.length true,H++(L++(.cells (cR (H.length+L.length) l).1 32::(cR (H.length+L.length) l).2))))
   (hls:∀ G,dR aa 25 G vs=some (I n)) (hn:n<=4) {tm:List AV} {R:Option (bu × St)} (hR:EvC aa C0 W0 lO (aQ [true,true,false] (Tryz.f10.body.getD .skip)) (tm,H++[.cells [I f.w,.bool f.free,I f.cores,I f.slots,I f.room,I f.pol,I f.lat] 27])=R) (hlen:tm.length=100) (h0:tm.getD 0 uA=vc) (h1:tm.getD 1 uA=vm) (h2:tm.getD 2 uA=vs) (h7:tm.getD 7 uA=.ptr H.length 0) :
   ∃ tm',R=some (.normal,(tm',tT H rows l n vc f))/\tm'.length=100/\tm'.getD 2 uA=vs/\tm'.getD 11 uA=.ptr (H.length+10) 0:=by
 subst hR
 exact Nn f h27 h28 hls hn hlen h0 h1 h2 h7
theorem DX {n:Nat} {v:AV} {b:Nat} (hv:v=.nilSlice->n=0) (G:AH):dR aa 22 G (bl 5 n v b)=some (I n):=by
 by_cases h:v=.nilSlice
 · rw [hv h,h]; exact PZ G
 · have hc:bl 5 n v b=if n=0 then .slice b 0 5 0 0 true else .slice (b+1) 0 5 n n false:=by
     cases v <;> first | rfl | exact absurd rfl h
   rw [hc]
   by_cases h0:n=0
   · rw [if_pos h0,h0]; exact Se _ _ _ _ _ _ _
   · rw [if_neg h0]; exact Se _ _ _ _ _ _ _
theorem qp (N:Nat) (l:List (List Int × AV)) {i j:Nat} (h:i<=j):(cR N (l.take i)).2.length<=(cR N (l.take j)).2.length:=by
 induction j with
 | zero=>rw [Nat.le_zero.1 h]; exact ax _
 | succ j ih =>
   rcases aY i (j+1) with c | c
   · refine bc (ih (by omega)) ?_
     rcases aY j l.length with hj | hj
     · rw [fW,aj hj,show (l.take j++(some l[j]).toList)=l.take j++[l[j]] from rfl,tU]
       show _<=((cR N (l.take j)).2++_).length
       rw [ai]; exact cm _ _
     · rw [bt hj,bt (Nat.le_succ_of_le hj)]; exact ax _
   · rw [show i=j+1 by omega]; exact ax _
structure CF (H K:AH) (rows:List (List AV)) (l:List (List Int × AV)) (n:Nat) (vc:AV) (f:Con) (N c:Nat) (ws:List AV):Prop where
 ag:al H K
 len:N+1+(cR N l).2.length=K.length
 eN:N=H.length+((bh 66 vc rows.flatten).length+12)
 kq:K[H.length+10]? =some (.cells (lj (bl 5 rows.length vc (H.length+12)) (.slice N 0 1 l.length l.length true) .nilSlice (.slice (H.length+8) 0 1 n n true) f rc0 0) 71)
 ka:K[H.length+8]? =some (.cells (aA n (I 0)) 3)
 kN:K[N]? =some (.cells ws 32)
 ws_:ws=(cR N l).1
 hh:∃ HH:AH,HH.length=N+1/\K=HH++(cR N l).2
 c0:H.length<=c
 cl:c < N
 cq:H.length+10≠c
 ca:H.length+8≠c
 kc:rows≠[]->c=H.length+13/\K[c]? =some (.cells rows.flatten 66)
 ce:rows=[]->c=H.length/\(bl 5 rows.length vc (H.length+12)=.nilSlice∨(bl 5 rows.length vc (H.length+12)=.slice (H.length+12) 0 5 0 0 true/\H.length+12 < N/\K[H.length+12]? =some (.cells [] 66)))
theorem Dq {H:AH} {rows:List (List AV)} {l:List (List Int × AV)} {n:Nat} {vc:AV} {f:Con} (hr:∀ r∈rows,r.length=5) (hv:vc=.nilSlice->rows=[]) :
   ∃ N c ws,CF H (tT H rows l n vc f) rows l n vc f N c ws:=by
 have hg:∀ i,(tT H rows l n vc f)[H.length+i]? =(([.cells [I f.w,.bool f.free,I f.cores,I f.slots,I f.room,I f.pol,I f.lat] 27,.fresh,.fresh,.fresh,.fresh,.fresh,.fresh,.fresh,.cells (aA n (I 0)) 3,.fresh,
   .cells (lj (bl 5 rows.length vc (H.length+12)) (.slice (H.length+((bh 66 vc rows.flatten).length+12)) 0 1 l.length l.length true) .nilSlice (.slice (H.length+8) 0 1 n n true) f (aA 16 false) 0) 71,.fresh]:AH) ++
   (bh 66 vc rows.flatten++(.cells (cR (H.length+((bh 66 vc rows.flatten).length+12)) l).1 32::(cR (H.length+((bh 66 vc rows.flatten).length+12)) l).2)))[i]?:=fun i=>by
   unfold tT
   rw [aw (cm _ _),bE]
 have hgL:∀ i,(tT H rows l n vc f)[H.length+(12+i)]? =((bh 66 vc rows.flatten++(.cells (cR (H.length+((bh 66 vc rows.flatten).length+12)) l).1 32::(cR (H.length+((bh 66 vc rows.flatten).length+12)) l).2)):AH)[i]?:=fun i=>by
   rw [hg,aw (by show 12<=12+i; omega)]
   show (_:AH)[12+i - 12]? =_
   rw [bE]
 have hnl:rows≠[]->bh 66 vc rows.flatten=[.cells [] 66,.cells rows.flatten 66]:=fun h=>by
   have hf:rows.flatten≠[]:=fun e=>h (dw.1 ((xJ (by decide) hr).1 e))
   have hvn:vc≠.nilSlice:=fun e=>h (hv e)
   cases vc <;> first | exact absurd rfl hvn | (unfold bh; rw [if_neg hf])
 have hbase:al H (tT H rows l n vc f):=al.app _ _
 have hlen:H.length+((bh 66 vc rows.flatten).length+12)+1+(cR (H.length+((bh 66 vc rows.flatten).length+12)) l).2.length=(tT H rows l n vc f).length:=by
   unfold tT
   simp only [ai,b6,gj]
   omega
 have hkN:(tT H rows l n vc f)[H.length+((bh 66 vc rows.flatten).length+12)]? =some (.cells (cR (H.length+((bh 66 vc rows.flatten).length+12)) l).1 32):=by
   rw [show (bh 66 vc rows.flatten).length+12=12+(bh 66 vc rows.flatten).length by omega,hgL,aw (ax _),Nat.sub_self]
   rw [show (bh 66 vc rows.flatten).length+12=12+(bh 66 vc rows.flatten).length by omega]; rfl
 have hhh:∃ HH:AH,HH.length=H.length+((bh 66 vc rows.flatten).length+12)+1/\tT H rows l n vc f=HH++(cR (H.length+((bh 66 vc rows.flatten).length+12)) l).2:=by
   refine ⟨H++([.cells [I f.w,.bool f.free,I f.cores,I f.slots,I f.room,I f.pol,I f.lat] 27,.fresh,.fresh,.fresh,.fresh,.fresh,.fresh,.fresh,.cells (aA n (I 0)) 3,.fresh,
     .cells (lj (bl 5 rows.length vc (H.length+12)) (.slice (H.length+((bh 66 vc rows.flatten).length+12)) 0 1 l.length l.length true) .nilSlice (.slice (H.length+8) 0 1 n n true) f (aA 16 false) 0) 71,.fresh] ++
     (bh 66 vc rows.flatten++[.cells (cR (H.length+((bh 66 vc rows.flatten).length+12)) l).1 32])),?_,?_⟩
   · simp only [ai,b6,gj]; omega
   · unfold tT
     simp only [aE,List.cons_append,List.nil_append]
 by_cases h0:rows=[]
 · refine ⟨_,H.length,_,hbase,hlen,rfl,hg 10,hg 8,hkN,rfl,hhh,ax _,by omega,by omega,by omega,fun h=>absurd h0 h,fun _=>⟨rfl,?_⟩⟩
   subst h0
   by_cases hvn:vc=.nilSlice
   · left; rw [hvn]; rfl
   · right
     have hc:bl 5 ([]:List (List AV)).length vc (H.length+12)=.slice (H.length+12) 0 5 0 0 true:=by
       cases vc <;> first | rfl | exact absurd rfl hvn
     have hL:bh 66 vc ([]:List (List AV)).flatten=[.cells [] 66]:=by
       cases vc <;> first | rfl | exact absurd rfl hvn
     refine ⟨hc,by rw [hL]; simp,?_⟩
     have:=hgL 0
     rw [hL] at this
     exact this
 · have hcl:=hnl h0
   refine ⟨_,H.length+13,_,hbase,hlen,rfl,hg 10,hg 8,hkN,rfl,hhh,by omega,by rw [hcl]; simp,by omega,by omega,fun _=>⟨rfl,?_⟩,fun h=>absurd h h0⟩
   have:=hgL 1
   rw [hcl] at this
   exact this
def kX (H:AH) (ws:List AV):List Nat:=(H.length+10)::(H.length+8)::ws.filterMap bZ
theorem kW {H:AH} {ws:List AV} {d:Nat}:d∈kX H ws↔d=H.length+10∨d=H.length+8∨∃ w∈ws,bZ w=some d:=by
 unfold kX
 rw [bH,bH,List.mem_filterMap]
theorem Hv {N:Nat} {HH:AH} (hH:HH.length=N+1) {l:List (List Int × AV)} (hv:∀ p∈l,p.2=.nilSlice->p.1=[]) {i b:Nat} (hi:i < l.length) (hb:bZ ((cR N l).1.getD i uA)=some b) :
   N+1+(cR N (l.take i)).2.length<=b/\b < N+1+(cR N (l.take (i+1))).2.length:=by
 obtain ⟨_,h⟩:=xg hH l hv l.length (ax _) i hi
 rw [gx] at h
 generalize (cR N l).1.getD i uA=w at hb h
 cases w <;> simp only [bZ] at hb <;> first | (cases hb; done) | skip
 cases hb
 exact h _ _ _ _ _ _ rfl
theorem UA {H K4 K5 K6:AH} {l0:List (Cod × AV × AV × AV)} {l:List (List Int × AV)} {ss:List (List Itm)} {vc:AV} {f:Con} {N c:Nat} {ws:List AV}
   (F:CF H K4 (l0.map iF) l ss.length vc f N c ws) (hv:∀ p∈l,p.2=.nilSlice->p.1=[])
   (hC5:AgX K4 K5 c) (hC:sb (c::kX H ws) K5 c l0 l0.length)
   (hS:r8 (kX H ws) K5 K6 (H.length+10) (bl 5 (l0.map iF).length vc (H.length+12)) (.slice N 0 1 l.length l.length true) (.slice (H.length+8) 0 1 ss.length ss.length true) f ss ss.length)
   (G:Good (l0.map (·.1)) (l.map (·.1)) ss f) (hcn:l0.length < 2 ^ 50) (hsn:ss.length < 2 ^ 50) (him:∀ p∈l,∀ x∈p.1,eD x) :
   ∃ S vs,fx S K6 (H.length+10) (H.length+8) ws (bl 5 (l0.map iF).length vc (H.length+12)) (.slice N 0 1 l.length l.length true) vs f (l0.map (·.1)) ss (aA ss.length 0) (l.map (·.1)) rc0/\al H K6/\al H S:=by
 obtain ⟨hX6,vq,hKq,prq,hprq,hoq,hitq⟩:=hS
 obtain ⟨pr,hpr,hcod,hKc⟩:=hC.ex
 rw [gx] at hprq
 rw [gx] at hpr
 rw [List.drop_length,List.map_nil,List.append_nil] at hKc
 have eN:=F.eN
 have hlen:=F.len
 have hws:=F.ws_
 have hwl:ws.length=l.length:=by rw [hws,nK]
 obtain ⟨HH,hHH,hK4⟩:=F.hh
 have g54:∀ b,b < K4.length->b≠c->K5[b]? =K4[b]?:=hC5.2
 have g65:∀ b,b < K5.length->b≠H.length+10->K6[b]? =K5[b]?:=hX6.2
 have g64:∀ b,b < K4.length->b≠c->b≠H.length+10->K6[b]? =K4[b]?:=fun b h1 h2 h3=>(g65 b (bm h1 hC5.1) h3).trans (g54 b h1 h2)
 have hNl:N < K4.length:=by omega
 have hcN:=F.cl
 have hc0:=F.c0
 have hH4:H.length<=K4.length:=F.ag.len
 have hAH:al H K6:=fun i hi=>(g64 i (by omega) (by omega) (by omega)).trans (F.ag i hi)
 have hwi:∀ i b,i < ws.length->bZ (ws.getD i uA)=some b->N+1+(cR N (l.take i)).2.length<=b/\b < N+1+(cR N (l.take (i+1))).2.length:=fun i b hi hb=>Hv hHH hv (by omega) (by rw [<-hws]; exact hb)
 have htop:∀ i,(cR N (l.take i)).2.length<=(cR N l).2.length:=fun i=>by
   rcases aY i l.length with h | h
   · have:=qp N l (i:=i) (j:=l.length) (Nat.le_of_lt h)
     rwa [gx] at this
   · rw [bt h]; exact ax _
 have hwb:∀ w∈ws,∀ b,bZ w=some b->N+1<=b/\b < K4.length:=fun w hw b hb=>by
   obtain ⟨i,hi,e⟩:=fO.1 hw
   have:=hwi i b hi (by rw [dr hi,e]; exact hb)
   have:=htop (i+1)
   omega
 have hDm:∀ d∈kX H ws,d < K4.length/\d≠N/\d≠c:=fun d hd=>by
   have h1:=F.cq
   have h2:=F.ca
   rcases kW.1 hd with h | h | ⟨w,hw,h⟩
   · subst h; exact ⟨by omega,by omega,h1⟩
   · subst h; exact ⟨by omega,by omega,h2⟩
   · have:=hwb w hw d h
     exact ⟨this.2,by omega,by omega⟩
 have hqD:H.length+10∈kX H ws:=kW.2 (.inl rfl)
 have hSg:∀ b,b∉kX H ws->(dD (kX H ws) K6)[b]? =K6[b]?:=fun b h=>jJ _ _ b h
 have hne:∀ b o,b∉kX H ws->K6[b]? =some o->(dD (kX H ws) K6)[b]? =some o:=fun b o h ho=>(hSg b h).trans ho
 have hSN:(dD (kX H ws) K6)[N]? =some (.cells ws 32):=hne N _ (fun h=>(hDm N h).2.1 rfl) ((g64 N hNl (by omega) (by omega)).trans F.kN)
 have hsubC:Sub (dD (c::kX H ws) K5) (dD (kX H ws) K6):=fun b o hb ho=>by
   have hbD:b∉c::kX H ws:=fun h=>(ij _ K5 b h).ne hb ho rfl
   rw [jJ _ _ b hbD] at hb
   have h1:b∉kX H ws:=fun h=>hbD (List.mem_cons_of_mem _ h)
   exact hne b o h1 ((g65 b (aJ hb) (fun e=>h1 (by rw [e]; exact hqD))).trans hb)
 have hAS:al H (dD (kX H ws) K6):=fun i hi=>by
   rw [hSg i fun hd=>?_]
   · exact hAH i hi
   · rcases kW.1 hd with h | h | ⟨w,hw,h⟩
     · omega
     · omega
     · have:=hwb w hw _ h; omega
 refine ⟨dD (kX H ws) K6,vq,?_,hAH,hAS⟩
 refine { sub:=yV _ _,gq:=ij _ _ _ hqD,ga:=ij _ _ _ (kW.2 (.inr (.inl rfl))),gw:=fun w hw b hb=>ij _ _ _ (kW.2 (.inr (.inr ⟨w,hw,hb⟩))),qa:=by omega,qw:=fun w hw=>⟨fun e=>by have:=hwb w hw _ e; omega,fun e=>by have:=hwb w hw _ e; omega⟩,ww:=?ww,kq:=by rw [iI]; exact hKq,ka:=?ka,c:=?c,s:=?s,sm:=?sm,lw:=by rw [hwl,au],own:=?own,la:=iI,le:=fun i _=>?le,lr:=rfl,ev:=G.ev,few:=G.few,fs:=G.n4,nm:=G.nm,nb:=G.nb,im:=?im }
 case ww =>
   intro i j b hi hj hbi hbj
   have h1:=hwi i b hi hbi
   have h2:=hwi j b hj hbj
   rcases Nat.lt_trichotomy i j with h | h | h
   · have:=qp N l (i:=i+1) (j:=j) h; omega
   · exact h
   · have:=qp N l (i:=j+1) (j:=i) h; omega
 case ka =>
   rw [g64 _ (by omega) F.ca (by omega),F.ka]
   rw [List.map_replicate]; rfl
 case le =>
   rw [gde,List.getElem?_replicate]
   split <;> exact fy _
 case im =>
   intro b hb
   obtain ⟨p,hp,rfl⟩:=bY.1 hb
   exact him p hp
 case own =>
   intro i hi
   rw [au] at hi
   obtain ⟨h,_⟩:=xg hHH l hv l.length (ax _) i hi
   rw [gx,<-hK4,<-hws] at h
   have hb:bG (l.map (·.1)) i=(l.getD i ([],uA)).1:=by
     unfold bG
     rw [dr (by rw [au]; exact hi),dr hi,List.getElem_map]
   rw [hb]
   refine (h.other fun b k e len cap ex hv'=>?_).up (fy _)
   have hiw:i < ws.length:=by omega
   have:=hwb (ws.getD i uA) (eX hiw uA) b (by rw [hv']; rfl)
   exact g64 b this.2 (by omega) (by omega)
 case sm =>
   have h:=m6 (T:=24) (es:=1) E1 (H:=dD (kX H ws) K6) (i:=N) (k:=0) (c:=l.length) (e:=true) (rows:=ws.map fun w=>[w]) (by
     intro r hr
     obtain ⟨w,_,rfl⟩:=bY.1 hr
     rfl) (by unfold okC; rw [hSN]) (by
     unfold ak
     rw [hSN]
     simp only [au]
     rw [if_pos (by omega),iu,bt (by omega),pF,List.map_id'' (fun _=>rfl)])
   rwa [au,hwl] at h
 case s =>
   have hoS:Own K5.length (dD (kX H ws) K6) 1 31 vq (prq.map (·.2)):=hoq.other fun b k e len cap ex hv'=>by
     have hb:=gH hoq (i:=b) (by rw [hv']; rfl)
     exact hSg b fun h=>by have:=(hDm b h).1; have:=hC5.1; omega
   refine ⟨⟨prq,hprq,?_,fun p hp=>(hitq p hp).sub fun b o hb ho=>?_⟩,hsn⟩
   · have hfl:(prq.map fun p=>[p.2]).flatten=prq.map (·.2):=pF _ _
     exact Own.nz BC (by decide) (by rw [hfl]; exact hoS) (by
       intro r hr
       obtain ⟨p,_,rfl⟩:=bY.1 hr
       rfl)
   · have hbD:b∉kX H ws:=fun h=>(ij _ (bC vq K6) b h).ne hb ho rfl
     rw [jJ _ _ b hbD] at hb
     exact hne b o hbD ((yT vq K6) b o hb ho)
 case c =>
   refine ⟨⟨pr,hpr,?_,fun p hp=>(hcod p hp).sub hsubC⟩,by rw [au]; exact hcn⟩
   have hprl:pr.length=l0.length:=by
     have:=congrArg fU hpr
     rwa [au,au] at this
   by_cases h0:l0=[]
   · subst h0
     have:pr=[]:=dw.1 hprl
     subst this
     obtain ⟨hcH,h | ⟨h,h12,hk⟩⟩:=F.ce rfl
     · rw [h]; exact kG yZ _
     · rw [h]
       have h1:(dD (kX H ws) K6)[H.length+12]? =some (.cells [] 66):=by
         refine hne _ _ (fun hd=>?_) ((g64 _ (by omega) (by omega) (by omega)).trans hk)
         rcases kW.1 hd with h | h | ⟨w,hw,h⟩
         · omega
         · omega
         · have:=hwb w hw _ h; omega
       exact m6 (rows:=[]) yZ (by simp) (by unfold okC; rw [h1]) (by
         unfold ak
         rw [h1]; rfl)
   · have hr0:l0.map iF≠[]:=fun e=>h0 (by simpa using e)
     obtain ⟨hcv,_⟩:=F.kc hr0
     have hvn:vc≠.nilSlice:=fun e=>by
       have eN':=F.eN
       rw [e] at eN'
       have:(bh 66 AV.nilSlice (l0.map iF).flatten).length=0:=rfl
       omega
     have hn0:(l0.map iF).length≠0:=fun e=>hr0 (dw.1 e)
     have hcvv:bl 5 (l0.map iF).length vc (H.length+12)=.slice (H.length+13) 0 5 (l0.map iF).length (l0.map iF).length false:=by
       have:bl 5 (l0.map iF).length vc (H.length+12)=if (l0.map iF).length=0 then .slice (H.length+12) 0 5 0 0 true else .slice (H.length+12+1) 0 5 (l0.map iF).length (l0.map iF).length false:=by
         cases vc <;> first | rfl | exact absurd rfl hvn
       rw [this,if_neg hn0]
     rw [hcvv]
     have hSc:(dD (kX H ws) K6)[c]? =some (.cells (pr.map iF).flatten 66):=hne c _ (fun h=>(hDm c h).2.2 rfl) ((g65 c (by have:=hC5.1; omega) (Ne.symm F.cq)).trans (hKc h0))
     rw [<-hcv]
     have h:=m6 (T:=22) (es:=5) yZ (H:=dD (kX H ws) K6) (i:=c) (k:=0) (c:=(l0.map iF).length) (e:=false) (rows:=pr.map iF) (nG pr) (by unfold okC; rw [hSc]) (by
       unfold ak
       rw [hSc]
       simp only
       rw [if_pos (by rw [dP (nG pr)]; omega),iu,bt (by rw [dP (nG pr)]; exact ax _)])
     rw [au,hprl] at h
     rw [au]
     rw [au] at h
     exact h
theorem aay {H:AH} {cs:List Cod} {m:List (List Int)} {ss:List (List Itm)} {vc vm vs:AV} (hc:cO H cs vc) (hm:dc H m vm) (hs:da H ss vs) (f:Con) (hk:fG cs m ss f=0):∃ K S q a ws vc' vm' vs',Ev aa C0 W0 10 [vc,vm,vs,.agg (d8 f)] H=some (.tuple [.ptr q 0,I 0],K)/\al H K/\H.length<=q/\fx S K q a ws vc' vm' vs' f cs ss (aA ss.length 0) m rc0/\al H S:=by
 obtain ⟨⟨l0,hl0,hs0,hcod⟩,hcn⟩:=hc
 have hc:cO H cs vc:=⟨⟨l0,hl0,hs0,hcod⟩,hcn⟩
 obtain ⟨⟨l,hl,hsl,hpl⟩,hmn,hmb,him⟩:=hm
 have hm:dc H m vm:=⟨⟨l,hl,hsl,hpl⟩,hmn,hmb,him⟩
 have hsn:=hs.n
 have hxb:∀ xs∈ss,xs.length < 2 ^ 50:=fun xs hx=>by
   obtain ⟨⟨l2,e2,_,h2⟩,_⟩:=hs
   rw [<-e2] at hx
   obtain ⟨p,hp,rfl⟩:=bY.1 hx
   exact (h2 p hp).n
 have G:=mP hxb hk
 obtain ⟨tm,ht,g0,g1,g2,g3,g4⟩:=tm4 vc vm vs (.agg (d8 f)) 100 (by decide)
 rw [Zt,ht]
 have h26:=SG (hc.aX (al.app H [.cells [I f.w,.bool f.free,I f.cores,I f.slots,I f.room,I f.pol,I f.lat] 27])) (hm.aX (al.app H [.cells [I f.w,.bool f.free,I f.cores,I f.slots,I f.room,I f.pol,I f.lat] 27])) (hs.aX (al.app H [.cells [I f.w,.bool f.free,I f.cores,I f.slots,I f.room,I f.pol,I f.lat] 27])) f
 simp only [d8] at h26
 rw [hk] at h26
 have e0:eqB 0 0=true:=rfl
 have hlc:=hc.len
 have hls:=hs.len
 simp -implicitDefEqProofs only [c10,Tryz.f10,aP,g0,g1,g2,g3,g4,d8,↓SC,h26,e0,r5,↓az,nck,show ∀ o,put none H o=some (H.length,H++[o]) from fun _=>rfl,↓cbT,↓cbF,↓ao,an,eu,sevalprocAttr]
 have hll:l.length=m.length:=by rw [<-hl,au]
 have h27:=fun L=>aav hs0 (nG l0) (by rw [au]; exact il b66 (by have:=G.nc; rw [<-hl0,au] at this; omega)) L
 have h28:=fun L=>WA hsl hpl (by have:=G.nm; omega) (fun p hp=>bc (G.nb p.1 (by rw [<-hl]; exact g6 hp)) (by decide)) L
 generalize hR:EvC aa C0 W0 _ (Code.region _ _ _) _=R
 obtain ⟨t,he,tl,t2,t11⟩:=Io (rows:=l0.map iF) (l:=l) (n:=ss.length) f h27 h28 hls G.n4 hR (by simp only [ls,g0]) (by simp only [g0,g1,gB,sevalprocAttr]) (by simp only [g0,g2,gB,sevalprocAttr]) (by simp only [g0,g3,gB,sevalprocAttr]) (by simp only [g0,gB,sevalprocAttr])
 subst he
 obtain ⟨N,c,ws,F⟩:=Dq (H:=H) (l:=l) (n:=ss.length) (f:=f) (nG l0) (fun e=>mi hs0 e)
 generalize tT H (l0.map iF) l ss.length vc f=K4 at *
 have hqr:ak K4 (H.length+10) 0 1=some [bl 5 (l0.map iF).length vc (H.length+12)]:=by
   unfold ak
   rw [F.kq]
   simp only
   rw [if_pos (by rw [nA _ _ _ _ _ rfl]; decide)]; rfl
 have hcl0:=DX (n:=(l0.map iF).length) (v:=vc) (b:=H.length+12) (fun e=>by rw [show l0.map iF=[] from mi hs0 e]; rfl)
 have h00:(l0.map iF).length=l0.length:=au ..
 have hcl:∀ G,dR aa 22 G (bl 5 (l0.map iF).length vc (H.length+12))=some (I l0.length):=fun G=>(hcl0 G).trans (by rw [h00])
 simp -implicitDefEqProofs only [tl,t2,t11,hqr,hcl,r5,↓az,nck,show ∀ o,put none H o=some (H.length,H++[o]) from fun _=>rfl,↓cbT,↓cbF,↓ao,an,eu,sevalprocAttr]
 have hNl:N < K4.length:=by have:=F.len; omega
 have hDl:∀ d∈kX H ws,d < K4.length:=fun d hd=>by
   have h1:=F.eN
   rcases kW.1 hd with h | h | ⟨w,hw,h⟩
   · omega
   · omega
   · obtain ⟨HH,hHH,hK4⟩:=F.hh
     obtain ⟨i,hi,e⟩:=fO.1 hw
     have hwl:ws.length=l.length:=by rw [F.ws_,nK]
     have h2:=Hv hHH (l:=l) (fun p hp e=>by have:=mi (hpl p hp) e; simpa using this) (i:=i) (b:=d) (by omega) (by rw [<-F.ws_,dr hi,e]; exact h)
     have h3:=F.len
     have h4:(cR N (l.take (i+1))).2.length<=(cR N l).2.length:=by
       have:=qp N l (i:=i+1) (j:=l.length) (by omega)
       rwa [gx] at this
     omega
 generalize hX:EvC aa C0 W0 _ (Code.loop _) _=Z
 obtain ⟨X,K5,he5,x0,x2,x11,x40,x41,x42,hX5,hC5⟩:=Jd (H:=H) (K4:=K4) (l0:=l0) (vs:=vs) (cv:=bl 5 (l0.map iF).length vc (H.length+12)) (q:=H.length+10) (c:=c) (D:=c::kX H ws) hX F.ag F.c0 (by have:=F.cl; omega) hcod (fun p hp=>by have:=G.cod p.1 (by rw [<-hl0]; exact g6 hp); omega) hqr F.cq (List.mem_cons_self ..) (fun d hd=>by
     rcases bH.1 hd with h | h
     · rw [h]; have:=F.cl; omega
     · exact hDl d h) (fun j hj kk=>by
     have hr0:l0.map iF≠[]:=fun e=>by
       have:l0=[]:=by simpa using e
       rw [this] at hj; simp at hj
     obtain ⟨hcv,_⟩:=F.kc hr0
     have hvn:vc≠.nilSlice:=fun e=>by
       have:=mi hs0 e
       exact hr0 this
     have hn0:(l0.map iF).length≠0:=fun e=>hr0 (dw.1 e)
     have:bl 5 (l0.map iF).length vc (H.length+12)=if (l0.map iF).length=0 then .slice (H.length+12) 0 5 0 0 true else .slice (H.length+12+1) 0 5 (l0.map iF).length (l0.map iF).length false:=by
       cases vc <;> first | rfl | exact absurd rfl hvn
     rw [this,if_neg hn0,Vo,if_pos ⟨by omega,by rw [h00]; omega,rfl⟩,hcv,Int.toNat_natCast,Nat.zero_add]) (by have:=G.nc; rw [<-hl0,au] at this; omega) ⟨by simp only [ls,tl],Aj4 (by simp only [tl,t2,t11,gB,and_self,sevalprocAttr]) ⟨by simp only [tl,gB,sevalprocAttr]; try rfl,AgX.refl _ _,⟨[],rfl,by simp,fun h=>by
     obtain ⟨_,hk⟩:=F.kc (fun e=>h (by simpa using e))
     rw [hk]; rfl⟩⟩⟩
 subst he5
 simp -implicitDefEqProofs only [x0,x2,x11,hls,r5,↓az,nck,show ∀ o,put none H o=some (H.length,H++[o]) from fun _=>rfl,↓cbT,↓cbF,↓ao,an,eu,sevalprocAttr]
 have hH5:al H K5:=fun i hi=>(hX5.2 i (bm hi F.ag.len) (by have:=F.c0; omega)).trans (F.ag i hi)
 have hq5:K5[H.length+10]? =_:=(hX5.2 _ (by have:=F.eN; omega) F.cq).trans F.kq
 generalize hX:EvC aa C0 W0 _ (Code.loop _) _=Z
 obtain ⟨X6,K6,he6,y0,y11,y67,y68,y69,hS6⟩:=Jb (H:=H) (K5:=K5) (ss:=ss) (vs:=vs) (cv:=bl 5 (l0.map iF).length vc (H.length+12)) (mv:=.slice N 0 1 l.length l.length true) (av:=.slice (H.length+8) 0 1 ss.length ss.length true) (f:=f) (q:=H.length+10) (D:=kX H ws) hX hH5 (cm _ _) (by have:=F.eN; have:=hX5.1; omega) hs G.n4 (fun xs hx=>⟨bc (G.len xs hx) (by decide),fun x hxx=>bc (G.args xs hx x hxx) (by decide)⟩) (kW.2 (.inl rfl)) (fun d hd=>bm (hDl d hd) hX5.1) (by have:=G.n4; omega) ⟨by simp only [ls,x0],Aj3 (by simp only [x0,x11,gB,and_self,sevalprocAttr]) ⟨by simp only [x0,gB,sevalprocAttr]; try rfl,⟨AgX.refl _ _,.nilSlice,hq5,[],rfl,.nil,by simp⟩⟩⟩
 subst he6
 obtain ⟨S,vs',hQ,hA,hAS⟩:=UA F (fun p hp e=>by have:=mi (hpl p hp) e; simpa using this) hX5 hC5 hS6 (by rw [hl0,hl]; exact G) (by rw [<-hl0,au] at hcn; exact hcn) hsn (fun p hp x hx=>him p.1 (by rw [<-hl]; exact g6 hp) x hx)
 rw [hl0,hl] at hQ
 refine ⟨K6,S,_,_,_,_,_,vs',?_,hA,cm _ _,hQ,hAS⟩
 simp -implicitDefEqProofs only [y0,y11,r5,↓az,nck,show ∀ o,put none H o=some (H.length,H++[o]) from fun _=>rfl,↓cbT,↓cbF,↓ao,an,eu,sevalprocAttr]
theorem Fe (ad:List Nat) (s:Nat):(doA ad s).length=ad.length:=by unfold doA; rw [ar]
theorem Ff (ad:List Nat) (s t:Nat) (hs:s < ad.length):(doA ad s).getD t 0=if t=s then ad.getD s 0+1 else ad.getD t 0:=by
 unfold doA
 rw [gde,de]
 by_cases h:s=t
 · subst h; rw [if_pos rfl,if_pos hs,if_pos rfl]; rfl
 · rw [if_neg h,if_neg (Ne.symm h),<-gde]
theorem fx.X0 {S K:AH} {q a:Nat} {ws:List AV} {vc vm vs:AV} {f:Con} {cs:List Cod} {ss:List (List Itm)} {ad:List Nat} {m:List (List Int)} {rc:List Bool} (h:fx S K q a ws vc vm vs f cs ss ad m rc) {s:Nat} (hs:s < ss.length) (hk:ad.getD s 0 < (aR ss s).length) :
   ∃ K',(∀ L,bp (K++L) a s [I (ad.getD s 0+1:Nat)]=some (K'++L))/\fx S K' q a ws vc vm vs f cs ss (doA ad s) m rc/\K'.length=K.length/\∀ b,b≠a->K'[b]? =K[b]?:=by
 have hsa:s < ad.length:=by rw [h.la]; exact hs
 have hw:=fun L=>gN h.ka (k:=s) (xs:=[I (ad.getD s 0+1:Nat)]) (by simp; omega) rfl L
 have e:spl (ad.map fun (n:Nat)=>I (n:Int)) s [I (ad.getD s 0+1:Nat)]=(doA ad s).map fun (n:Nat)=>I (n:Int):=by
   show (ad.map fun (n:Nat)=>I (n:Int)).set s _=_
   unfold doA
   rw [QE]
 rw [e] at hw
 have hal:=aJ h.ka
 refine ⟨_,hw,{ h with sub:=h.sub.tN h.ga _,kq:=?_,ka:=?_,own:=fun i hi=>?_,la:=by rw [Fe]; exact h.la,le:=fun i hi=>?_ },ar ..,fun b hb=>aB (Ne.symm hb)⟩
 · rw [aB (Ne.symm h.qa),Fe]; exact h.kq
 · rw [bI hal]
 · refine (h.own i hi).other fun b k e l c x hv=>aB fun he=>?_
   exact (h.qw _ (eX (by rw [h.lw]; exact hi) uA)).2 (by rw [hv,he]; rfl)
 · rw [Ff _ _ _ hsa]
   split
   · rename_i e; subst e; exact hk
   · exact h.le i hi
theorem C5 (vc vm vs va:AV) (f:Con) {rc:List Bool} (hl:rc.length=16) (en:Int) {e:Nat} (he:e < 16):(lj vc vm vs va f rc en).set (11+e) (.bool true)=lj vc vm vs va f (rc.set e true) en:=by
 unfold lj d8
 rw [List.set_append_left _ _ (by simp [hl]; omega),List.set_append_right _ _ (by simp)]
 simp only [ai,b6,gj,Nat.reduceAdd,bE]
 rw [<-QE]
theorem fx.tN {S K:AH} {q a:Nat} {ws:List AV} {vc vm vs:AV} {f:Con} {cs:List Cod} {ss:List (List Itm)} {ad:List Nat} {m:List (List Int)} {rc:List Bool} (h:fx S K q a ws vc vm vs f cs ss ad m rc) {e:Nat} (he:e < 16) :
   ∃ K',(∀ L,bp (K++L) q (11+e) [.bool true]=some (K'++L))/\fx S K' q a ws vc vm vs f cs ss ad m (rc.set e true)/\K'.length=K.length/\∀ b,b≠q->K'[b]? =K[b]?:=by
 have hw:=fun L=>gN h.kq (k:=11+e) (xs:=[.bool true]) (by rw [nA _ _ _ _ _ h.lr]; simp; omega) rfl L
 have e1:spl (lj vc vm vs (.slice a 0 1 ad.length ad.length true) f rc 0) (11+e) [.bool true]=_:=C5 _ _ _ _ _ h.lr _ he
 rw [e1] at hw
 have hql:=aJ h.kq
 refine ⟨_,hw,{ h with sub:=h.sub.tN h.gq _,kq:=?_,ka:=?_,own:=fun i hi=>?_,lr:=by rw [ar]; exact h.lr },ar ..,fun b hb=>aB (Ne.symm hb)⟩
 · rw [bI hql]
 · rw [aB h.qa]; exact h.ka
 · refine (h.own i hi).other fun b k e l c x hv=>aB fun he=>?_
   exact (h.qw _ (eX (by rw [h.lw]; exact hi) uA)).1 (by rw [hv,he]; rfl)
theorem fx.Ra {S K:AH} {q a:Nat} {ws:List AV} {vc vm vs:AV} {f:Con} {cs:List Cod} {ss:List (List Itm)} {ad:List Nat} {m:List (List Int)} {rc:List Bool} (h:fx S K q a ws vc vm vs f cs ss ad m rc) {r:Nat} (hr:ld S r) (hq:r≠q) (ha:r≠a) (hw:∀ w∈ws,bZ w≠some r) (o:bo):fx S (K.set r o) q a ws vc vm vs f cs ss ad m rc:=
 { h with sub:=h.sub.tN hr o,kq:=by rw [aB hq]; exact h.kq,ka:=by rw [aB ha]; exact h.ka,
          own:=fun i hi=>(h.own i hi).other fun b k e l c x hv=>aB fun he=>hw _ (eX (by rw [h.lw]; exact hi) uA) (by rw [hv,he]; rfl) }
theorem uF {m:List (List Int)} {d i:Nat} {b:List Int} (hd:d < m.length):bG (m.set d b) i=if i=d then b else bG m i:=by
 unfold bG
 rw [gde,de]
 by_cases h:d=i
 · subst h; rw [if_pos rfl,if_pos hd,if_pos rfl]; rfl
 · rw [if_neg h,if_neg (Ne.symm h),<-gde]
theorem uG {m:List (List Int)} {d:Nat} (hd:d < m.length):bG m d∈m:=by
 unfold bG; exact eX hd []
theorem Own.write {b:Nat} {K:AH} {w:AV} {xs new:List AV} {elem:TypeId} (h:Own b K 1 elem w xs) {j:Nat} (hj:j+new.length<=xs.length) (hn:new≠[]) (ho:new.all AV.one=true) :
   ∃ i k len cap ex K',w=.slice i k 1 len cap ex/\(∀ L,bp (K++L) i (k+j) new=some (K'++L))/\Own b K' 1 elem w (spl xs j new)/\K'.length=K.length/\∀ c,c≠i->K'[c]? =K[c]?:=by
 cases h with
 | nil=>exact absurd (by simp at hj; exact hj.2) hn
 | «at» i k len cap ex cs xs hb hi hl hc hrd =>
   have hxl:=pq hrd
   rw [dS] at hxl hc
   have hil:=aJ hi
   have hfit:k+j+new.length<=cs.length:=by omega
   refine ⟨i,k,len,cap,ex,_,rfl,fun L=>gN hi hfit ho L,.at i k len cap ex (spl cs (k+j) new) _ hb (by rw [bI hil]) hl (by rw [fP,dS]; exact hc) ?_,ar ..,fun c hc=>aB (Ne.symm hc)⟩
   unfold ak at hrd ⊢
   rw [hi] at hrd
   rw [bI hil]
   simp only at hrd ⊢
   rw [dS] at hrd ⊢
   rw [if_pos (by omega)] at hrd
   have hx:xs=(cs.drop k).take len:=(aC hrd).symm
   rw [if_pos (by rw [fP]; omega),ib _ _ _ hfit,ib _ _ _ hj]
   congr 1
   have hxd:xs.take j=(cs.drop k).take j:=by rw [hx,qU,Nat.min_eq_left (by omega)]
   have hxr:xs.drop (j+new.length)=(cs.drop (k+(j+new.length))).take (len - (j+new.length)):=by rw [hx,rG,List.drop_drop]
   rw [hxd,hxr]
   have hl1:((cs.drop k).take j).length=j:=by rw [eW,List.length_drop]; omega
   rw [aE,aE,List.drop_append_of_le_length (by rw [eW]; omega),rG,show k+j - k=j by omega,vF,hl1,qU,Nat.min_eq_right (by omega),vF,bt (l:=new) (by omega),show len - j - new.length=len - (j+new.length) by omega,show k+j+new.length=k+(j+new.length) by omega]
theorem fx.HU {S K:AH} {q a:Nat} {ws:List AV} {vc vm vs:AV} {f:Con} {cs:List Cod} {ss:List (List Itm)} {ad:List Nat} {m:List (List Int)} {rc:List Bool} (h:fx S K q a ws vc vm vs f cs ss ad m rc) {d:Nat} (hd:d < m.length) {K':AH} {i:Nat} (hi:bZ (ws.getD d uA)=some i) (hK:∀ c,c≠i->K'[c]? =K[c]?) {b':List Int} (ho:Own 0 K' 1 21 (ws.getD d uA) (iY b')) (hl:b'.length=(bG m d).length) (hi32:∀ x∈b',eD x):fx S K' q a ws vc vm vs f cs ss ad (m.set d b') rc:=by
 have hdw:d < ws.length:=by rw [h.lw]; exact hd
 have hmw:=eX hdw uA
 have hqi:i≠q:=fun e=>(h.qw _ hmw).1 (by rw [hi,e])
 have hai:i≠a:=fun e=>(h.qw _ hmw).2 (by rw [hi,e])
 have hgi:=h.gw _ hmw i hi
 refine { h with sub:=fun j o hj hoo=>?_,kq:=by rw [hK _ (Ne.symm hqi)]; exact h.kq,ka:=by rw [hK _ (Ne.symm hai)]; exact h.ka,lw:=by rw [ar]; exact h.lw,own:=fun j hj=>?_,nm:=by rw [ar]; exact h.nm,nb:=fun b hb=>?_,im:=fun b hb=>?_ }
 · rw [hK j fun e=>(hgi.ne (by rw [<-e]; exact hj) hoo) rfl]; exact h.sub j o hj hoo
 · rw [ar] at hj
   rw [uF hd]
   split
   · rename_i e; subst e; exact ho
   · rename_i e
     refine (h.own j hj).other fun b k e1 l c x hv=>hK b fun hb=>e (h.ww j d i (by rw [h.lw]; exact hj) hdw (by rw [hv,hb]; rfl) hi)
 · rcases yw hb with h1 | h1
   · exact h.nb b h1
   · subst h1; rw [hl]; exact h.nb _ (uG hd)
 · rcases yw hb with h1 | h1
   · exact h.im b h1
   · subst h1; exact hi32
end Go.Dv
