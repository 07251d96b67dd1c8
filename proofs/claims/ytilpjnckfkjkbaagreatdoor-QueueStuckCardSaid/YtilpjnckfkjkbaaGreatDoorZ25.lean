/- Part 25 of the walks (own work). -/
import Derived.Test.YtilpjnckfkjkbaaGreatDoorZ24
import Derived.Test.YtilpjnckfkjkbaaGreatDoorZ18
set_option maxRecDepth 100000
set_option maxHeartbeats 4000000
set_option linter.unusedSimpArgs false
set_option linter.unusedVariables false
namespace Go.Dv
open Go.Proofs
attribute [local congr] bind_congr_first cb_congr condA_congr gd_congr br_congr
structure Good (cs:List Cod) (m:List (List Int)) (ss:List (List Itm)) (f:Con):Prop where
 cf:conP f=true
 nc:cs.length<=4
 n1:1<=ss.length
 n4:ss.length<=4
 few:(ss.map List.length).sum<=24
 nm:m.length<=6
 nb:∀ b∈m,b.length<=256
 cod:∀ c∈cs,c.params.length<=6/\c.shared.length<=4/\c.insns.length<=2000
 it:∀ l∈ss,∀ x∈l,rightP cs m x=true
theorem take_snoc_sum (l:List Nat) (j:Nat):(l.take (j+1)).sum=(l.take j).sum+l.getD j 0:=by
 rw [List.take_add_one,List.sum_append,gde]
 cases l[j]? <;> simp
theorem sumW_eq {ss:List (List Itm)} (hl:∀ l∈ss,l.length < 2 ^ 50):∀ j,j<=ss.length->j<=4->sumW ss j=(((ss.map List.length).take j).sum:Nat)/\((ss.map List.length).take j).sum<=j * 2 ^ 50
 | 0,_,_=>⟨rfl,by simp⟩
 | j+1,h,h4=>by
   obtain ⟨h1,h2⟩:=sumW_eq hl j (by omega) (by omega)
   have hj:j < ss.length:=h
   have hg:(ss.map List.length).getD j 0=(strAt ss j).length:=by
     unfold strAt
     rw [gde,List.getElem?_map,gde,List.getElem?_eq_getElem hj]; rfl
   have hb:=hl _ (strAt_mem hj)
   rw [take_snoc_sum,hg]
   refine ⟨?_,by omega⟩
   rw [sumW,h1,wr_i (by omega)]; omega
theorem le_sum_mem:∀ (l:List Nat) (n:Nat),n∈l->n<=l.sum
 | x::l,n,h=>by
   rw [List.sum_cons]
   rcases List.mem_cons.1 h with e | e
   · omega
   · have:=le_sum_mem l n e; omega
theorem mem_allF {α:Type} {l:List α} {d:α} {p:α->Bool} (h:allF (fun j=>p (l.getD j d)) l.length 0=true):∀ x∈l,p x=true:=by
 rw [allF_iff] at h
 intro x hx
 obtain ⟨j,hj,e⟩:=List.mem_iff_getElem.1 hx
 have:=h j hj
 rw [gde,List.getElem?_eq_getElem hj] at this
 rw [<-e]; exact this
theorem good_of {cs:List Cod} {m:List (List Int)} {ss:List (List Itm)} {f:Con} (hl:∀ l∈ss,l.length < 2 ^ 50) (h:checkP cs m ss f=0):Good cs m ss f:=by
 unfold checkP at h
 cases h0:conP f && allV cs with
 | false=>rw [h0] at h; cases h
 | true =>
   rw [h0] at h
   cases h1:sizeP cs m ss with
   | false=>rw [h1] at h; cases h
   | true =>
     rw [h1] at h
     cases h2:allR cs m ss with
     | false=>rw [h2] at h; cases h
     | true =>
       rw [Bool.and_eq_true] at h0
       unfold sizeP at h1
       simp only [Bool.and_eq_true,Bool.not_eq_true',ltB_iff0] at h1
       obtain ⟨⟨⟨⟨⟨a1,a2⟩,a3⟩,a4⟩,a5⟩,a6⟩:=h1
       have hn4:ss.length<=4:=by omega
       obtain ⟨s1,_⟩:=sumW_eq hl ss.length (Nat.le_refl _) hn4
       rw [s1,List.take_of_length_le (by rw [List.length_map]; exact Nat.le_refl _)] at a4
       refine ⟨h0.1,by omega,by omega,hn4,by omega,by omega,fun b hb=>?_,fun c hc=>?_,fun l hl x hx=>?_⟩
       · unfold shortP bufOf at a6
         have:=mem_allF (l:=m) (d:=[]) (p:=fun b=>!ltB 256 ((b:List Int).length:Int)) a6 b hb
         simp only [Bool.not_eq_true',ltB_iff0] at this
         omega
       · have h02:=h0.2
         unfold allV codAt at h02
         have:=mem_allF (l:=cs) (d:=⟨eS,[],[],0,[]⟩) (p:=validP) h02 c hc
         unfold validP headP at this
         simp only [Bool.and_eq_true,Bool.not_eq_true',ltB_iff0] at this
         omega
       · unfold allR strAt at h2
         have:=mem_allF (l:=ss) (d:=[]) (p:=fun l=>rowR cs m l) h2 l hl
         unfold rowR itmAt at this
         exact mem_allF (l:=l) (d:=⟨0,0,0,0,0,0,0,[],0⟩) (p:=fun x=>rightP cs m x) this x hx
theorem rightP_args {cs:List Cod} {m:List (List Int)} {x:Itm} (hc:∀ c∈cs,c.params.length<=6) (h:rightP cs m x=true):x.args.length<=6:=by
 unfold rightP at h
 cases k0:eqB x.kind 0 with
 | true =>
   rw [k0,br_true] at h
   simp only [Bool.and_eq_true,leB_iff,ltB_iff] at h
   obtain ⟨⟨⟨h1,h2⟩,h3⟩,_⟩:=h
   have hm:codAt cs x.code.toNat∈cs:=by
     have hlt:x.code.toNat < cs.length:=by omega
     unfold codAt
     rw [getD_at hlt]
     exact List.getElem_mem _
   have hp:=hc _ hm
   unfold fitsL fits6 sizesP at h3
   simp only [Bool.and_eq_true,eqB_iff] at h3
   omega
 | false =>
   rw [k0,br_false] at h
   cases k1:eqB x.kind 1 with
   | true =>
     rw [k1,br_true] at h
     simp only [Bool.and_eq_true,eqB_iff] at h
     omega
   | false =>
     rw [k1,br_false] at h
     cases k2:eqB x.kind 2 with
     | true =>
       rw [k2,br_true] at h
       simp only [Bool.and_eq_true,eqB_iff] at h
       omega
     | false =>
       rw [k2,br_false] at h
       cases k3:(eqB x.kind 3 || eqB x.kind 4) with
       | true =>
         rw [k3,br_true] at h
         simp only [Bool.and_eq_true,eqB_iff] at h
         omega
       | false=>rw [k3,br_false] at h; cases h
theorem rightP_ev {cs:List Cod} {m:List (List Int)} {x:Itm} (h:rightP cs m x=true) (hk:x.kind=3∨x.kind=4):0<=x.ev/\x.ev < 16:=by
 have e0:eqB x.kind 0=false:=eqB_f (by omega)
 have e1:eqB x.kind 1=false:=eqB_f (by omega)
 have e2:eqB x.kind 2=false:=eqB_f (by omega)
 have e3:(eqB x.kind 3 || eqB x.kind 4)=true:=by
   rw [Bool.or_eq_true,eqB_iff,eqB_iff]; exact hk
 unfold rightP at h
 rw [e0,e1,e2,e3,br_false,br_false,br_false,br_true] at h
 simp only [Bool.and_eq_true,leB_iff,ltB_iff] at h
 omega
theorem Good.args {cs:List Cod} {m:List (List Int)} {ss:List (List Itm)} {f:Con} (h:Good cs m ss f):∀ l∈ss,∀ x∈l,x.args.length<=6:=fun l hl x hx=>rightP_args (fun c hc=>(h.cod c hc).1) (h.it l hl x hx)
theorem Good.ev {cs:List Cod} {m:List (List Int)} {ss:List (List Itm)} {f:Con} (h:Good cs m ss f):EvOk ss:=fun l hl x hx hk=>rightP_ev (h.it l hl x hx) hk
theorem Good.len {cs:List Cod} {m:List (List Int)} {ss:List (List Itm)} {f:Con} (h:Good cs m ss f):∀ l∈ss,l.length<=24:=fun l hl=>by
 have:=le_sum_mem _ _ (List.mem_map_of_mem (f:=List.length) hl)
 have:=h.few
 omega
structure QueR (S K:AH) (q a:Nat) (ws:List AV) (vc vm vs:AV) (f:Con) (cs:List Cod) (ss:List (List Itm)) (ad:List Nat) (m:List (List Int)) (rc:List Bool):Prop where
 sub:Sub S K
 gq:Gone S q
 ga:Gone S a
 gw:∀ w∈ws,∀ b,blkO w=some b->Gone S b
 qa:q≠a
 qw:∀ w∈ws,blkO w≠some q/\blkO w≠some a
 ww:∀ i j b,i < ws.length->j < ws.length->blkO (ws.getD i uA)=some b->blkO (ws.getD j uA)=some b->i=j
 kq:K[q]? =some (.cells (rowQ vc vm vs (.slice a 0 1 ad.length ad.length true) f rc 0) 71)
 ka:K[a]? =some (.cells (ad.map fun (n:Nat)=>I (n:Int)) 3)
 c:CodsR S cs vc
 s:StrsR S ss vs
 sm:SlS 24 1 S vm (ws.map fun w=>[w])
 lw:ws.length=m.length
 own:∀ i,i < m.length->Own 0 K 1 21 (ws.getD i uA) (i32s (bufOf m i))
 la:ad.length=ss.length
 le:∀ i,i < ss.length->ad.getD i 0<=(strAt ss i).length
 lr:rc.length=16
 ev:EvOk ss
 few:(ss.map List.length).sum<=24
 fs:ss.length<=4
 nm:m.length<=6
 nb:∀ b∈m,b.length<=256
 im:∀ b∈m,∀ x∈b,i32R x
theorem QueR.memR {S K:AH} {q a:Nat} {ws:List AV} {vc vm vs:AV} {f:Con} {cs:List Cod} {ss:List (List Itm)} {ad:List Nat} {m:List (List Int)} {rc:List Bool} (h:QueR S K q a ws vc vm vs f cs ss ad m rc):MemR K m vm:=by
 refine ⟨⟨List.zip m ws,?_,?_,?_⟩,Nat.lt_of_le_of_lt h.nm (by decide),fun b hb=>Nat.lt_of_le_of_lt (h.nb b hb) (by decide),h.im⟩
 · rw [List.map_fst_zip (by rw [h.lw]; exact Nat.le_refl _)]
 · rw [show (fun p:List Int × AV=>[p.2])=(fun w=>[w]) ∘ Prod.snd from rfl,<-List.map_map,List.map_snd_zip (by rw [h.lw]; exact Nat.le_refl _)]
   exact h.sm.sub h.sub
 · intro p hp
   obtain ⟨i,hi,hpe⟩:=List.mem_iff_getElem.1 hp
   have hi':=hi
   rw [List.length_zip] at hi'
   have h1:i < m.length:=by omega
   have h2:i < ws.length:=by omega
   have:=(h.own i h1).s32
   rw [<-hpe,List.getElem_zip]
   rw [show bufOf m i=m[i] from getD_at h1 _,show ws.getD i uA=ws[i] from getD_at h2 _] at this
   exact this
theorem QueR.view {S K:AH} {q a:Nat} {ws:List AV} {vc vm vs:AV} {f:Con} {cs:List Cod} {ss:List (List Itm)} {ad:List Nat} {m:List (List Int)} {rc:List Bool} (h:QueR S K q a ws vc vm vs f cs ss ad m rc):QueV K q vc vm vs (.slice a 0 1 ad.length ad.length true) f ss ad m rc 0 where
 row:=by
   unfold rdCells
   rw [h.kq]
   simp only
   rw [if_pos (by rw [rowQ_len _ _ _ _ _ h.lr]; decide),List.drop_zero,List.take_of_length_le (by rw [rowQ_len _ _ _ _ _ h.lr]; exact Nat.le_refl _)]
 m:=h.memR
 s:=h.s.sub h.sub
 a:=by
   have:=sls_of (T:=30) (es:=1) ix30T (H:=K) (i:=a) (k:=0) (c:=ad.length) (e:=true) (rows:=ints ad) (ints_len ad) (by unfold okC; rw [h.ka]) (by
     unfold rdCells
     rw [h.ka]
     simp only
     rw [if_pos (by simp [ints]),List.drop_zero,List.take_of_length_le (by simp [ints]),ints_flat])
   have e:(ints ad).length=ad.length:=by simp [ints]
   rw [e] at this
   exact this
 la:=h.la
 le:=h.le
 lr:=h.lr
 ev:=h.ev
 nn:=⟨_,_,_,_,rfl⟩
 few:=h.few
 fs:=h.fs
theorem QueR.grow {S K K':AH} {q a:Nat} {ws:List AV} {vc vm vs:AV} {f:Con} {cs:List Cod} {ss:List (List Itm)} {ad:List Nat} {m:List (List Int)} {rc:List Bool} (h:QueR S K q a ws vc vm vs f cs ss ad m rc) (hA:Agree K K'):QueR S K' q a ws vc vm vs f cs ss ad m rc:=
 { h with sub:=h.sub.agree hA,kq:=hA.get h.kq,ka:=hA.get h.ka,own:=fun i hi=>(h.own i hi).agree hA }
theorem getD_mem' {α:Type} {l:List α} {i:Nat} (h:i < l.length) (d:α):l.getD i d∈l:=by
 rw [gde,List.getElem?_eq_getElem h]; exact List.getElem_mem _
theorem reg10_4' {H:AH} {rows:List (List AV)} {l:List (List Int × AV)} {n:Nat} {vc vm vs:AV} (f:Con) (h27:∀ L,Ev Tryz.prog C0 W0 27 [vc] (H++L)=some (cloneV 5 rows.length vc (H.length+L.length),H++(L++cloneL 66 vc rows.flatten))) (h28:∀ L,Ev Tryz.prog C0 W0 28 [vm] (H++L)=some (.slice (H.length+L.length) 0 1 l.length l.length true,H++(L++(.cells (memW (H.length+L.length) l).1 32::(memW (H.length+L.length) l).2))))
   (hls:∀ G,lenA Tryz.prog 25 G vs=some (I n)) (hn:n<=4) {tm:List AV} {R:Option (AExit × St)} (hR:EvC Tryz.prog C0 W0 pl10 (atPath [true,true,false] (Tryz.f10.body.getD .skip)) (tm,H++[.cells [I f.w,.bool f.free,I f.cores,I f.slots,I f.room,I f.pol,I f.lat] 27])=R) (hlen:tm.length=100) (h0:tm.getD 0 uA=vc) (h1:tm.getD 1 uA=vm) (h2:tm.getD 2 uA=vs) (h7:tm.getD 7 uA=.ptr H.length 0) :
   ∃ tm',R=some (.normal,(tm',newK H rows l n vc f))/\tm'.length=100/\tm'.getD 2 uA=vs/\tm'.getD 11 uA=.ptr (H.length+10) 0:=by
 subst hR
 exact reg10_4 f h27 h28 hls hn hlen h0 h1 h2 h7
theorem cloneV_len {n:Nat} {v:AV} {b:Nat} (hv:v=.nilSlice->n=0) (G:AH):lenA Tryz.prog 22 G (cloneV 5 n v b)=some (I n):=by
 by_cases h:v=.nilSlice
 · rw [hv h,h]; exact ln22n G
 · have hc:cloneV 5 n v b=if n=0 then .slice b 0 5 0 0 true else .slice (b+1) 0 5 n n false:=by
     cases v <;> first | rfl | exact absurd rfl h
   rw [hc]
   by_cases h0:n=0
   · rw [if_pos h0,h0]; exact ln22 _ _ _ _ _ _ _
   · rw [if_neg h0]; exact ln22 _ _ _ _ _ _ _
theorem memW_mono (N:Nat) (l:List (List Int × AV)) {i j:Nat} (h:i<=j):(memW N (l.take i)).2.length<=(memW N (l.take j)).2.length:=by
 induction j with
 | zero=>rw [Nat.le_zero.1 h]; exact Nat.le_refl _
 | succ j ih =>
   rcases Nat.lt_or_ge i (j+1) with c | c
   · refine Nat.le_trans (ih (by omega)) ?_
     rcases Nat.lt_or_ge j l.length with hj | hj
     · rw [List.take_add_one,List.getElem?_eq_getElem hj,show (l.take j++(some l[j]).toList)=l.take j++[l[j]] from rfl,memW_snoc]
       show _<=((memW N (l.take j)).2++_).length
       rw [List.length_append]; exact Nat.le_add_right _ _
     · rw [List.take_of_length_le hj,List.take_of_length_le (Nat.le_succ_of_le hj)]; exact Nat.le_refl _
   · rw [show i=j+1 by omega]; exact Nat.le_refl _
structure NewFacts (H K:AH) (rows:List (List AV)) (l:List (List Int × AV)) (n:Nat) (vc:AV) (f:Con) (N c:Nat) (ws:List AV):Prop where
 ag:Agree H K
 len:N+1+(memW N l).2.length=K.length
 eN:N=H.length+((cloneL 66 vc rows.flatten).length+12)
 kq:K[H.length+10]? =some (.cells (rowQ (cloneV 5 rows.length vc (H.length+12)) (.slice N 0 1 l.length l.length true) .nilSlice (.slice (H.length+8) 0 1 n n true) f rc0 0) 71)
 ka:K[H.length+8]? =some (.cells (List.replicate n (I 0)) 3)
 kN:K[N]? =some (.cells ws 32)
 ws_:ws=(memW N l).1
 hh:∃ HH:AH,HH.length=N+1/\K=HH++(memW N l).2
 c0:H.length<=c
 cl:c < N
 cq:H.length+10≠c
 ca:H.length+8≠c
 kc:rows≠[]->c=H.length+13/\K[c]? =some (.cells rows.flatten 66)
 ce:rows=[]->c=H.length/\(cloneV 5 rows.length vc (H.length+12)=.nilSlice∨(cloneV 5 rows.length vc (H.length+12)=.slice (H.length+12) 0 5 0 0 true/\H.length+12 < N/\K[H.length+12]? =some (.cells [] 66)))
theorem newK_facts {H:AH} {rows:List (List AV)} {l:List (List Int × AV)} {n:Nat} {vc:AV} {f:Con} (hr:∀ r∈rows,r.length=5) (hv:vc=.nilSlice->rows=[]) :
   ∃ N c ws,NewFacts H (newK H rows l n vc f) rows l n vc f N c ws:=by
 have hg:∀ i,(newK H rows l n vc f)[H.length+i]? =(([.cells [I f.w,.bool f.free,I f.cores,I f.slots,I f.room,I f.pol,I f.lat] 27,.fresh,.fresh,.fresh,.fresh,.fresh,.fresh,.fresh,.cells (List.replicate n (I 0)) 3,.fresh,
   .cells (rowQ (cloneV 5 rows.length vc (H.length+12)) (.slice (H.length+((cloneL 66 vc rows.flatten).length+12)) 0 1 l.length l.length true) .nilSlice (.slice (H.length+8) 0 1 n n true) f (List.replicate 16 false) 0) 71,.fresh]:AH) ++
   (cloneL 66 vc rows.flatten++(.cells (memW (H.length+((cloneL 66 vc rows.flatten).length+12)) l).1 32::(memW (H.length+((cloneL 66 vc rows.flatten).length+12)) l).2)))[i]?:=fun i=>by
   unfold newK
   rw [List.getElem?_append_right (Nat.le_add_right _ _),Nat.add_sub_cancel_left]
 have hgL:∀ i,(newK H rows l n vc f)[H.length+(12+i)]? =((cloneL 66 vc rows.flatten++(.cells (memW (H.length+((cloneL 66 vc rows.flatten).length+12)) l).1 32::(memW (H.length+((cloneL 66 vc rows.flatten).length+12)) l).2)):AH)[i]?:=fun i=>by
   rw [hg,List.getElem?_append_right (by show 12<=12+i; omega)]
   show (_:AH)[12+i - 12]? =_
   rw [Nat.add_sub_cancel_left]
 have hnl:rows≠[]->cloneL 66 vc rows.flatten=[.cells [] 66,.cells rows.flatten 66]:=fun h=>by
   have hf:rows.flatten≠[]:=fun e=>h (List.length_eq_zero_iff.1 ((flat_nil (by decide) hr).1 e))
   have hvn:vc≠.nilSlice:=fun e=>h (hv e)
   cases vc <;> first | exact absurd rfl hvn | (unfold cloneL; rw [if_neg hf])
 have hbase:Agree H (newK H rows l n vc f):=Agree.app _ _
 have hlen:H.length+((cloneL 66 vc rows.flatten).length+12)+1+(memW (H.length+((cloneL 66 vc rows.flatten).length+12)) l).2.length=(newK H rows l n vc f).length:=by
   unfold newK
   simp only [List.length_append,List.length_cons,List.length_nil]
   omega
 have hkN:(newK H rows l n vc f)[H.length+((cloneL 66 vc rows.flatten).length+12)]? =some (.cells (memW (H.length+((cloneL 66 vc rows.flatten).length+12)) l).1 32):=by
   rw [show (cloneL 66 vc rows.flatten).length+12=12+(cloneL 66 vc rows.flatten).length by omega,hgL,List.getElem?_append_right (Nat.le_refl _),Nat.sub_self]
   rw [show (cloneL 66 vc rows.flatten).length+12=12+(cloneL 66 vc rows.flatten).length by omega]; rfl
 have hhh:∃ HH:AH,HH.length=H.length+((cloneL 66 vc rows.flatten).length+12)+1/\newK H rows l n vc f=HH++(memW (H.length+((cloneL 66 vc rows.flatten).length+12)) l).2:=by
   refine ⟨H++([.cells [I f.w,.bool f.free,I f.cores,I f.slots,I f.room,I f.pol,I f.lat] 27,.fresh,.fresh,.fresh,.fresh,.fresh,.fresh,.fresh,.cells (List.replicate n (I 0)) 3,.fresh,
     .cells (rowQ (cloneV 5 rows.length vc (H.length+12)) (.slice (H.length+((cloneL 66 vc rows.flatten).length+12)) 0 1 l.length l.length true) .nilSlice (.slice (H.length+8) 0 1 n n true) f (List.replicate 16 false) 0) 71,.fresh] ++
     (cloneL 66 vc rows.flatten++[.cells (memW (H.length+((cloneL 66 vc rows.flatten).length+12)) l).1 32])),?_,?_⟩
   · simp only [List.length_append,List.length_cons,List.length_nil]; omega
   · unfold newK
     simp only [List.append_assoc,List.cons_append,List.nil_append]
 by_cases h0:rows=[]
 · refine ⟨_,H.length,_,hbase,hlen,rfl,hg 10,hg 8,hkN,rfl,hhh,Nat.le_refl _,by omega,by omega,by omega,fun h=>absurd h0 h,fun _=>⟨rfl,?_⟩⟩
   subst h0
   by_cases hvn:vc=.nilSlice
   · left; rw [hvn]; rfl
   · right
     have hc:cloneV 5 ([]:List (List AV)).length vc (H.length+12)=.slice (H.length+12) 0 5 0 0 true:=by
       cases vc <;> first | rfl | exact absurd rfl hvn
     have hL:cloneL 66 vc ([]:List (List AV)).flatten=[.cells [] 66]:=by
       cases vc <;> first | rfl | exact absurd rfl hvn
     refine ⟨hc,by rw [hL]; simp,?_⟩
     have:=hgL 0
     rw [hL] at this
     exact this
 · have hcl:=hnl h0
   refine ⟨_,H.length+13,_,hbase,hlen,rfl,hg 10,hg 8,hkN,rfl,hhh,by omega,by rw [hcl]; simp,by omega,by omega,fun _=>⟨rfl,?_⟩,fun h=>absurd h h0⟩
   have:=hgL 1
   rw [hcl] at this
   exact this
def mutD (H:AH) (ws:List AV):List Nat:=(H.length+10)::(H.length+8)::ws.filterMap blkO
theorem mutD_mem {H:AH} {ws:List AV} {d:Nat}:d∈mutD H ws↔d=H.length+10∨d=H.length+8∨∃ w∈ws,blkO w=some d:=by
 unfold mutD
 rw [List.mem_cons,List.mem_cons,List.mem_filterMap]
theorem ws_blk {N:Nat} {HH:AH} (hH:HH.length=N+1) {l:List (List Int × AV)} (hv:∀ p∈l,p.2=.nilSlice->p.1=[]) {i b:Nat} (hi:i < l.length) (hb:blkO ((memW N l).1.getD i uA)=some b) :
   N+1+(memW N (l.take i)).2.length<=b/\b < N+1+(memW N (l.take (i+1))).2.length:=by
 obtain ⟨_,h⟩:=memW_own hH l hv l.length (Nat.le_refl _) i hi
 rw [List.take_length] at h
 generalize (memW N l).1.getD i uA=w at hb h
 cases w <;> simp only [blkO] at hb <;> first | (cases hb; done) | skip
 cases hb
 exact h _ _ _ _ _ _ rfl
theorem new_R {H K4 K5 K6:AH} {l0:List (Cod × AV × AV × AV)} {l:List (List Int × AV)} {ss:List (List Itm)} {vc:AV} {f:Con} {N c:Nat} {ws:List AV}
   (F:NewFacts H K4 (l0.map orow) l ss.length vc f N c ws) (hv:∀ p∈l,p.2=.nilSlice->p.1=[])
   (hC5:AgX K4 K5 c) (hC:CodInv (c::mutD H ws) K5 c l0 l0.length)
   (hS:StrInv (mutD H ws) K5 K6 (H.length+10) (cloneV 5 (l0.map orow).length vc (H.length+12)) (.slice N 0 1 l.length l.length true) (.slice (H.length+8) 0 1 ss.length ss.length true) f ss ss.length)
   (G:Good (l0.map (·.1)) (l.map (·.1)) ss f) (hcn:l0.length < 2 ^ 50) (hsn:ss.length < 2 ^ 50) (him:∀ p∈l,∀ x∈p.1,i32R x) :
   ∃ S vs,QueR S K6 (H.length+10) (H.length+8) ws (cloneV 5 (l0.map orow).length vc (H.length+12)) (.slice N 0 1 l.length l.length true) vs f (l0.map (·.1)) ss (List.replicate ss.length 0) (l.map (·.1)) rc0/\Agree H K6/\Agree H S:=by
 obtain ⟨hX6,vq,hKq,prq,hprq,hoq,hitq⟩:=hS
 obtain ⟨pr,hpr,hcod,hKc⟩:=hC.ex
 rw [List.take_length] at hprq
 rw [List.take_length] at hpr
 rw [List.drop_length,List.map_nil,List.append_nil] at hKc
 have eN:=F.eN
 have hlen:=F.len
 have hws:=F.ws_
 have hwl:ws.length=l.length:=by rw [hws,memW_len]
 obtain ⟨HH,hHH,hK4⟩:=F.hh
 have g54:∀ b,b < K4.length->b≠c->K5[b]? =K4[b]?:=hC5.2
 have g65:∀ b,b < K5.length->b≠H.length+10->K6[b]? =K5[b]?:=hX6.2
 have g64:∀ b,b < K4.length->b≠c->b≠H.length+10->K6[b]? =K4[b]?:=fun b h1 h2 h3=>(g65 b (Nat.lt_of_lt_of_le h1 hC5.1) h3).trans (g54 b h1 h2)
 have hNl:N < K4.length:=by omega
 have hcN:=F.cl
 have hc0:=F.c0
 have hH4:H.length<=K4.length:=F.ag.len
 have hAH:Agree H K6:=fun i hi=>(g64 i (by omega) (by omega) (by omega)).trans (F.ag i hi)
 have hwi:∀ i b,i < ws.length->blkO (ws.getD i uA)=some b->N+1+(memW N (l.take i)).2.length<=b/\b < N+1+(memW N (l.take (i+1))).2.length:=fun i b hi hb=>ws_blk hHH hv (by omega) (by rw [<-hws]; exact hb)
 have htop:∀ i,(memW N (l.take i)).2.length<=(memW N l).2.length:=fun i=>by
   rcases Nat.lt_or_ge i l.length with h | h
   · have:=memW_mono N l (i:=i) (j:=l.length) (Nat.le_of_lt h)
     rwa [List.take_length] at this
   · rw [List.take_of_length_le h]; exact Nat.le_refl _
 have hwb:∀ w∈ws,∀ b,blkO w=some b->N+1<=b/\b < K4.length:=fun w hw b hb=>by
   obtain ⟨i,hi,e⟩:=List.mem_iff_getElem.1 hw
   have:=hwi i b hi (by rw [getD_at hi,e]; exact hb)
   have:=htop (i+1)
   omega
 have hDm:∀ d∈mutD H ws,d < K4.length/\d≠N/\d≠c:=fun d hd=>by
   have h1:=F.cq
   have h2:=F.ca
   rcases mutD_mem.1 hd with h | h | ⟨w,hw,h⟩
   · subst h; exact ⟨by omega,by omega,h1⟩
   · subst h; exact ⟨by omega,by omega,h2⟩
   · have:=hwb w hw d h
     exact ⟨this.2,by omega,by omega⟩
 have hqD:H.length+10∈mutD H ws:=mutD_mem.2 (.inl rfl)
 have hSg:∀ b,b∉mutD H ws->(killD (mutD H ws) K6)[b]? =K6[b]?:=fun b h=>killD_get _ _ b h
 have hne:∀ b o,b∉mutD H ws->K6[b]? =some o->(killD (mutD H ws) K6)[b]? =some o:=fun b o h ho=>(hSg b h).trans ho
 have hSN:(killD (mutD H ws) K6)[N]? =some (.cells ws 32):=hne N _ (fun h=>(hDm N h).2.1 rfl) ((g64 N hNl (by omega) (by omega)).trans F.kN)
 have hsubC:Sub (killD (c::mutD H ws) K5) (killD (mutD H ws) K6):=fun b o hb ho=>by
   have hbD:b∉c::mutD H ws:=fun h=>(killD_gone _ K5 b h).ne hb ho rfl
   rw [killD_get _ _ b hbD] at hb
   have h1:b∉mutD H ws:=fun h=>hbD (List.mem_cons_of_mem _ h)
   exact hne b o h1 ((g65 b (lt_of_get hb) (fun e=>h1 (by rw [e]; exact hqD))).trans hb)
 have hAS:Agree H (killD (mutD H ws) K6):=fun i hi=>by
   rw [hSg i fun hd=>?_]
   · exact hAH i hi
   · rcases mutD_mem.1 hd with h | h | ⟨w,hw,h⟩
     · omega
     · omega
     · have:=hwb w hw _ h; omega
 refine ⟨killD (mutD H ws) K6,vq,?_,hAH,hAS⟩
 refine { sub:=killD_sub _ _,gq:=killD_gone _ _ _ hqD,ga:=killD_gone _ _ _ (mutD_mem.2 (.inr (.inl rfl))),gw:=fun w hw b hb=>killD_gone _ _ _ (mutD_mem.2 (.inr (.inr ⟨w,hw,hb⟩))),qa:=by omega,qw:=fun w hw=>⟨fun e=>by have:=hwb w hw _ e; omega,fun e=>by have:=hwb w hw _ e; omega⟩,ww:=?ww,kq:=by rw [List.length_replicate]; exact hKq,ka:=?ka,c:=?c,s:=?s,sm:=?sm,lw:=by rw [hwl,List.length_map],own:=?own,la:=List.length_replicate,le:=fun i _=>?le,lr:=rfl,ev:=G.ev,few:=G.few,fs:=G.n4,nm:=G.nm,nb:=G.nb,im:=?im }
 case ww =>
   intro i j b hi hj hbi hbj
   have h1:=hwi i b hi hbi
   have h2:=hwi j b hj hbj
   rcases Nat.lt_trichotomy i j with h | h | h
   · have:=memW_mono N l (i:=i+1) (j:=j) h; omega
   · exact h
   · have:=memW_mono N l (i:=j+1) (j:=i) h; omega
 case ka =>
   rw [g64 _ (by omega) F.ca (by omega),F.ka]
   rw [List.map_replicate]; rfl
 case le =>
   rw [gde,List.getElem?_replicate]
   split <;> exact Nat.zero_le _
 case im =>
   intro b hb
   obtain ⟨p,hp,rfl⟩:=List.mem_map.1 hb
   exact him p hp
 case own =>
   intro i hi
   rw [List.length_map] at hi
   obtain ⟨h,_⟩:=memW_own hHH l hv l.length (Nat.le_refl _) i hi
   rw [List.take_length,<-hK4,<-hws] at h
   have hb:bufOf (l.map (·.1)) i=(l.getD i ([],uA)).1:=by
     unfold bufOf
     rw [getD_at (by rw [List.length_map]; exact hi),getD_at hi,List.getElem_map]
   rw [hb]
   refine (h.other fun b k e len cap ex hv'=>?_).up (Nat.zero_le _)
   have hiw:i < ws.length:=by omega
   have:=hwb (ws.getD i uA) (getD_mem' hiw uA) b (by rw [hv']; rfl)
   exact g64 b this.2 (by omega) (by omega)
 case sm =>
   have h:=sls_of (T:=24) (es:=1) ix24T (H:=killD (mutD H ws) K6) (i:=N) (k:=0) (c:=l.length) (e:=true) (rows:=ws.map fun w=>[w]) (by
     intro r hr
     obtain ⟨w,_,rfl⟩:=List.mem_map.1 hr
     rfl) (by unfold okC; rw [hSN]) (by
     unfold rdCells
     rw [hSN]
     simp only [List.length_map]
     rw [if_pos (by omega),List.drop_zero,List.take_of_length_le (by omega),flat1,List.map_id'' (fun _=>rfl)])
   rwa [List.length_map,hwl] at h
 case s =>
   have hoS:Own K5.length (killD (mutD H ws) K6) 1 31 vq (prq.map (·.2)):=hoq.other fun b k e len cap ex hv'=>by
     have hb:=own_blk hoq (i:=b) (by rw [hv']; rfl)
     exact hSg b fun h=>by have:=(hDm b h).1; have:=hC5.1; omega
   refine ⟨⟨prq,hprq,?_,fun p hp=>(hitq p hp).sub fun b o hb ho=>?_⟩,hsn⟩
   · have hfl:(prq.map fun p=>[p.2]).flatten=prq.map (·.2):=flat1 _ _
     exact Own.slsG ix25T (by decide) (by rw [hfl]; exact hoS) (by
       intro r hr
       obtain ⟨p,_,rfl⟩:=List.mem_map.1 hr
       rfl)
   · have hbD:b∉mutD H ws:=fun h=>(killD_gone _ (killV vq K6) b h).ne hb ho rfl
     rw [killD_get _ _ b hbD] at hb
     exact hne b o hbD ((killV_sub vq K6) b o hb ho)
 case c =>
   refine ⟨⟨pr,hpr,?_,fun p hp=>(hcod p hp).sub hsubC⟩,by rw [List.length_map]; exact hcn⟩
   have hprl:pr.length=l0.length:=by
     have:=congrArg List.length hpr
     rwa [List.length_map,List.length_map] at this
   by_cases h0:l0=[]
   · subst h0
     have:pr=[]:=List.length_eq_zero_iff.1 hprl
     subst this
     obtain ⟨hcH,h | ⟨h,h12,hk⟩⟩:=F.ce rfl
     · rw [h]; exact sls_nil ix22T _
     · rw [h]
       have h1:(killD (mutD H ws) K6)[H.length+12]? =some (.cells [] 66):=by
         refine hne _ _ (fun hd=>?_) ((g64 _ (by omega) (by omega) (by omega)).trans hk)
         rcases mutD_mem.1 hd with h | h | ⟨w,hw,h⟩
         · omega
         · omega
         · have:=hwb w hw _ h; omega
       exact sls_of (rows:=[]) ix22T (by simp) (by unfold okC; rw [h1]) (by
         unfold rdCells
         rw [h1]; rfl)
   · have hr0:l0.map orow≠[]:=fun e=>h0 (by simpa using e)
     obtain ⟨hcv,_⟩:=F.kc hr0
     have hvn:vc≠.nilSlice:=fun e=>by
       have eN':=F.eN
       rw [e] at eN'
       have:(cloneL 66 AV.nilSlice (l0.map orow).flatten).length=0:=rfl
       omega
     have hn0:(l0.map orow).length≠0:=fun e=>hr0 (List.length_eq_zero_iff.1 e)
     have hcvv:cloneV 5 (l0.map orow).length vc (H.length+12)=.slice (H.length+13) 0 5 (l0.map orow).length (l0.map orow).length false:=by
       have:cloneV 5 (l0.map orow).length vc (H.length+12)=if (l0.map orow).length=0 then .slice (H.length+12) 0 5 0 0 true else .slice (H.length+12+1) 0 5 (l0.map orow).length (l0.map orow).length false:=by
         cases vc <;> first | rfl | exact absurd rfl hvn
       rw [this,if_neg hn0]
     rw [hcvv]
     have hSc:(killD (mutD H ws) K6)[c]? =some (.cells (pr.map orow).flatten 66):=hne c _ (fun h=>(hDm c h).2.2 rfl) ((g65 c (by have:=hC5.1; omega) (Ne.symm F.cq)).trans (hKc h0))
     rw [<-hcv]
     have h:=sls_of (T:=22) (es:=5) ix22T (H:=killD (mutD H ws) K6) (i:=c) (k:=0) (c:=(l0.map orow).length) (e:=false) (rows:=pr.map orow) (orow_len pr) (by unfold okC; rw [hSc]) (by
       unfold rdCells
       rw [hSc]
       simp only
       rw [if_pos (by rw [flat_len (orow_len pr)]; omega),List.drop_zero,List.take_of_length_le (by rw [flat_len (orow_len pr)]; exact Nat.le_refl _)])
     rw [List.length_map,hprl] at h
     rw [List.length_map]
     rw [List.length_map] at h
     exact h
theorem ev10 {H:AH} {cs:List Cod} {m:List (List Int)} {ss:List (List Itm)} {vc vm vs:AV} (hc:CodsR H cs vc) (hm:MemR H m vm) (hs:StrsR H ss vs) (f:Con) (hk:checkP cs m ss f=0):∃ K S q a ws vc' vm' vs',Ev Tryz.prog C0 W0 10 [vc,vm,vs,.agg (rowF f)] H=some (.tuple [.ptr q 0,I 0],K)/\Agree H K/\H.length<=q/\QueR S K q a ws vc' vm' vs' f cs ss (List.replicate ss.length 0) m rc0/\Agree H S:=by
 obtain ⟨⟨l0,hl0,hs0,hcod⟩,hcn⟩:=hc
 have hc:CodsR H cs vc:=⟨⟨l0,hl0,hs0,hcod⟩,hcn⟩
 obtain ⟨⟨l,hl,hsl,hpl⟩,hmn,hmb,him⟩:=hm
 have hm:MemR H m vm:=⟨⟨l,hl,hsl,hpl⟩,hmn,hmb,him⟩
 have hsn:=hs.n
 have hxb:∀ xs∈ss,xs.length < 2 ^ 50:=fun xs hx=>by
   obtain ⟨⟨l2,e2,_,h2⟩,_⟩:=hs
   rw [<-e2] at hx
   obtain ⟨p,hp,rfl⟩:=List.mem_map.1 hx
   exact (h2 p hp).n
 have G:=good_of hxb hk
 obtain ⟨tm,ht,g0,g1,g2,g3,g4⟩:=tm4 vc vm vs (.agg (rowF f)) 100 (by decide)
 rw [fe10,ht]
 have h26:=ev26 (hc.agree (Agree.app H [.cells [I f.w,.bool f.free,I f.cores,I f.slots,I f.room,I f.pol,I f.lat] 27])) (hm.agree (Agree.app H [.cells [I f.w,.bool f.free,I f.cores,I f.slots,I f.room,I f.pol,I f.lat] 27])) (hs.agree (Agree.app H [.cells [I f.w,.bool f.free,I f.cores,I f.slots,I f.room,I f.pol,I f.lat] 27])) f
 simp only [rowF] at h26
 rw [hk] at h26
 have e0:eqB 0 0=true:=rfl
 have hlc:=hc.len
 have hls:=hs.len
 simp -implicitDefEqProofs only [c10,Tryz.f10,aP,g0,g1,g2,g3,g4,rowF,↓fc26,h26,e0,r5,↓evLd,nck,show ∀ o,put none H o=some (H.length,H++[o]) from fun _=>rfl,↓cbT,↓cbF,↓evDn,evUp,eu,sevalprocAttr]
 have hll:l.length=m.length:=by rw [<-hl,List.length_map]
 have h27:=fun L=>ev27 hs0 (orow_len l0) (by rw [List.length_map]; exact grow_le b66 (by have:=G.nc; rw [<-hl0,List.length_map] at this; omega)) L
 have h28:=fun L=>ev28 hsl hpl (by have:=G.nm; omega) (fun p hp=>Nat.le_trans (G.nb p.1 (by rw [<-hl]; exact List.mem_map_of_mem hp)) (by decide)) L
 generalize hR:EvC Tryz.prog C0 W0 _ (Code.region _ _ _) _=R
 obtain ⟨t,he,tl,t2,t11⟩:=reg10_4' (rows:=l0.map orow) (l:=l) (n:=ss.length) f h27 h28 hls G.n4 hR (by simp only [ls,g0]) (by simp only [g0,g1,gB,sevalprocAttr]) (by simp only [g0,g2,gB,sevalprocAttr]) (by simp only [g0,g3,gB,sevalprocAttr]) (by simp only [g0,gB,sevalprocAttr])
 subst he
 obtain ⟨N,c,ws,F⟩:=newK_facts (H:=H) (l:=l) (n:=ss.length) (f:=f) (orow_len l0) (fun e=>nil_of hs0 e)
 generalize newK H (l0.map orow) l ss.length vc f=K4 at *
 have hqr:rdCells K4 (H.length+10) 0 1=some [cloneV 5 (l0.map orow).length vc (H.length+12)]:=by
   unfold rdCells
   rw [F.kq]
   simp only
   rw [if_pos (by rw [rowQ_len _ _ _ _ _ rfl]; decide)]; rfl
 have hcl0:=cloneV_len (n:=(l0.map orow).length) (v:=vc) (b:=H.length+12) (fun e=>by rw [show l0.map orow=[] from nil_of hs0 e]; rfl)
 have h00:(l0.map orow).length=l0.length:=List.length_map ..
 have hcl:∀ G,lenA Tryz.prog 22 G (cloneV 5 (l0.map orow).length vc (H.length+12))=some (I l0.length):=fun G=>(hcl0 G).trans (by rw [h00])
 simp -implicitDefEqProofs only [tl,t2,t11,hqr,hcl,r5,↓evLd,nck,show ∀ o,put none H o=some (H.length,H++[o]) from fun _=>rfl,↓cbT,↓cbF,↓evDn,evUp,eu,sevalprocAttr]
 have hNl:N < K4.length:=by have:=F.len; omega
 have hDl:∀ d∈mutD H ws,d < K4.length:=fun d hd=>by
   have h1:=F.eN
   rcases mutD_mem.1 hd with h | h | ⟨w,hw,h⟩
   · omega
   · omega
   · obtain ⟨HH,hHH,hK4⟩:=F.hh
     obtain ⟨i,hi,e⟩:=List.mem_iff_getElem.1 hw
     have hwl:ws.length=l.length:=by rw [F.ws_,memW_len]
     have h2:=ws_blk hHH (l:=l) (fun p hp e=>by have:=nil_of (hpl p hp) e; simpa using this) (i:=i) (b:=d) (by omega) (by rw [<-F.ws_,getD_at hi,e]; exact h)
     have h3:=F.len
     have h4:(memW N (l.take (i+1))).2.length<=(memW N l).2.length:=by
       have:=memW_mono N l (i:=i+1) (j:=l.length) (by omega)
       rwa [List.take_length] at this
     omega
 generalize hX:EvC Tryz.prog C0 W0 _ (Code.loop _) _=Z
 obtain ⟨X,K5,he5,x0,x2,x11,x40,x41,x42,hX5,hC5⟩:=new_cod' (H:=H) (K4:=K4) (l0:=l0) (vs:=vs) (cv:=cloneV 5 (l0.map orow).length vc (H.length+12)) (q:=H.length+10) (c:=c) (D:=c::mutD H ws) hX F.ag F.c0 (by have:=F.cl; omega) hcod (fun p hp=>by have:=G.cod p.1 (by rw [<-hl0]; exact List.mem_map_of_mem hp); omega) hqr F.cq (List.mem_cons_self ..) (fun d hd=>by
     rcases List.mem_cons.1 hd with h | h
     · rw [h]; have:=F.cl; omega
     · exact hDl d h) (fun j hj kk=>by
     have hr0:l0.map orow≠[]:=fun e=>by
       have:l0=[]:=by simpa using e
       rw [this] at hj; simp at hj
     obtain ⟨hcv,_⟩:=F.kc hr0
     have hvn:vc≠.nilSlice:=fun e=>by
       have:=nil_of hs0 e
       exact hr0 this
     have hn0:(l0.map orow).length≠0:=fun e=>hr0 (List.length_eq_zero_iff.1 e)
     have:cloneV 5 (l0.map orow).length vc (H.length+12)=if (l0.map orow).length=0 then .slice (H.length+12) 0 5 0 0 true else .slice (H.length+12+1) 0 5 (l0.map orow).length (l0.map orow).length false:=by
       cases vc <;> first | rfl | exact absurd rfl hvn
     rw [this,if_neg hn0,ia22,if_pos ⟨by omega,by rw [h00]; omega,rfl⟩,hcv,Int.toNat_natCast,Nat.zero_add]) (by have:=G.nc; rw [<-hl0,List.length_map] at this; omega) ⟨by simp only [ls,tl],Aj4 (by simp only [tl,t2,t11,gB,and_self,sevalprocAttr]) ⟨by simp only [tl,gB,sevalprocAttr]; try rfl,AgX.refl _ _,⟨[],rfl,by simp,fun h=>by
     obtain ⟨_,hk⟩:=F.kc (fun e=>h (by simpa using e))
     rw [hk]; rfl⟩⟩⟩
 subst he5
 simp -implicitDefEqProofs only [x0,x2,x11,hls,r5,↓evLd,nck,show ∀ o,put none H o=some (H.length,H++[o]) from fun _=>rfl,↓cbT,↓cbF,↓evDn,evUp,eu,sevalprocAttr]
 have hH5:Agree H K5:=fun i hi=>(hX5.2 i (Nat.lt_of_lt_of_le hi F.ag.len) (by have:=F.c0; omega)).trans (F.ag i hi)
 have hq5:K5[H.length+10]? =_:=(hX5.2 _ (by have:=F.eN; omega) F.cq).trans F.kq
 generalize hX:EvC Tryz.prog C0 W0 _ (Code.loop _) _=Z
 obtain ⟨X6,K6,he6,y0,y11,y67,y68,y69,hS6⟩:=new_str' (H:=H) (K5:=K5) (ss:=ss) (vs:=vs) (cv:=cloneV 5 (l0.map orow).length vc (H.length+12)) (mv:=.slice N 0 1 l.length l.length true) (av:=.slice (H.length+8) 0 1 ss.length ss.length true) (f:=f) (q:=H.length+10) (D:=mutD H ws) hX hH5 (Nat.le_add_right _ _) (by have:=F.eN; have:=hX5.1; omega) hs G.n4 (fun xs hx=>⟨Nat.le_trans (G.len xs hx) (by decide),fun x hxx=>Nat.le_trans (G.args xs hx x hxx) (by decide)⟩) (mutD_mem.2 (.inl rfl)) (fun d hd=>Nat.lt_of_lt_of_le (hDl d hd) hX5.1) (by have:=G.n4; omega) ⟨by simp only [ls,x0],Aj3 (by simp only [x0,x11,gB,and_self,sevalprocAttr]) ⟨by simp only [x0,gB,sevalprocAttr]; try rfl,⟨AgX.refl _ _,.nilSlice,hq5,[],rfl,.nil,by simp⟩⟩⟩
 subst he6
 obtain ⟨S,vs',hQ,hA,hAS⟩:=new_R F (fun p hp e=>by have:=nil_of (hpl p hp) e; simpa using this) hX5 hC5 hS6 (by rw [hl0,hl]; exact G) (by rw [<-hl0,List.length_map] at hcn; exact hcn) hsn (fun p hp x hx=>him p.1 (by rw [<-hl]; exact List.mem_map_of_mem hp) x hx)
 rw [hl0,hl] at hQ
 refine ⟨K6,S,_,_,_,_,_,vs',?_,hA,Nat.le_add_right _ _,hQ,hAS⟩
 simp -implicitDefEqProofs only [y0,y11,r5,↓evLd,nck,show ∀ o,put none H o=some (H.length,H++[o]) from fun _=>rfl,↓cbT,↓cbF,↓evDn,evUp,eu,sevalprocAttr]
theorem doA_len (ad:List Nat) (s:Nat):(doA ad s).length=ad.length:=by unfold doA; rw [List.length_set]
theorem doA_get (ad:List Nat) (s t:Nat) (hs:s < ad.length):(doA ad s).getD t 0=if t=s then ad.getD s 0+1 else ad.getD t 0:=by
 unfold doA
 rw [gde,List.getElem?_set]
 by_cases h:s=t
 · subst h; rw [if_pos rfl,if_pos hs,if_pos rfl]; rfl
 · rw [if_neg h,if_neg (Ne.symm h),<-gde]
theorem QueR.setA {S K:AH} {q a:Nat} {ws:List AV} {vc vm vs:AV} {f:Con} {cs:List Cod} {ss:List (List Itm)} {ad:List Nat} {m:List (List Int)} {rc:List Bool} (h:QueR S K q a ws vc vm vs f cs ss ad m rc) {s:Nat} (hs:s < ss.length) (hk:ad.getD s 0 < (strAt ss s).length) :
   ∃ K',(∀ L,wrCells (K++L) a s [I (ad.getD s 0+1:Nat)]=some (K'++L))/\QueR S K' q a ws vc vm vs f cs ss (doA ad s) m rc/\K'.length=K.length/\∀ b,b≠a->K'[b]? =K[b]?:=by
 have hsa:s < ad.length:=by rw [h.la]; exact hs
 have hw:=fun L=>wr_objs h.ka (k:=s) (xs:=[I (ad.getD s 0+1:Nat)]) (by simp; omega) rfl L
 have e:spl (ad.map fun (n:Nat)=>I (n:Int)) s [I (ad.getD s 0+1:Nat)]=(doA ad s).map fun (n:Nat)=>I (n:Int):=by
   show (ad.map fun (n:Nat)=>I (n:Int)).set s _=_
   unfold doA
   rw [List.map_set]
 rw [e] at hw
 have hal:=lt_of_get h.ka
 refine ⟨_,hw,{ h with sub:=h.sub.setR h.ga _,kq:=?_,ka:=?_,own:=fun i hi=>?_,la:=by rw [doA_len]; exact h.la,le:=fun i hi=>?_ },List.length_set ..,fun b hb=>List.getElem?_set_ne (Ne.symm hb)⟩
 · rw [List.getElem?_set_ne (Ne.symm h.qa),doA_len]; exact h.kq
 · rw [List.getElem?_set_self hal]
 · refine (h.own i hi).other fun b k e l c x hv=>List.getElem?_set_ne fun he=>?_
   exact (h.qw _ (getD_mem' (by rw [h.lw]; exact hi) uA)).2 (by rw [hv,he]; rfl)
 · rw [doA_get _ _ _ hsa]
   split
   · rename_i e; subst e; exact hk
   · exact h.le i hi
theorem rowQ_setrc (vc vm vs va:AV) (f:Con) {rc:List Bool} (hl:rc.length=16) (en:Int) {e:Nat} (he:e < 16):(rowQ vc vm vs va f rc en).set (11+e) (.bool true)=rowQ vc vm vs va f (rc.set e true) en:=by
 unfold rowQ rowF
 rw [List.set_append_left _ _ (by simp [hl]; omega),List.set_append_right _ _ (by simp)]
 simp only [List.length_append,List.length_cons,List.length_nil,Nat.reduceAdd,Nat.add_sub_cancel_left]
 rw [<-List.map_set]
theorem QueR.setR {S K:AH} {q a:Nat} {ws:List AV} {vc vm vs:AV} {f:Con} {cs:List Cod} {ss:List (List Itm)} {ad:List Nat} {m:List (List Int)} {rc:List Bool} (h:QueR S K q a ws vc vm vs f cs ss ad m rc) {e:Nat} (he:e < 16) :
   ∃ K',(∀ L,wrCells (K++L) q (11+e) [.bool true]=some (K'++L))/\QueR S K' q a ws vc vm vs f cs ss ad m (rc.set e true)/\K'.length=K.length/\∀ b,b≠q->K'[b]? =K[b]?:=by
 have hw:=fun L=>wr_objs h.kq (k:=11+e) (xs:=[.bool true]) (by rw [rowQ_len _ _ _ _ _ h.lr]; simp; omega) rfl L
 have e1:spl (rowQ vc vm vs (.slice a 0 1 ad.length ad.length true) f rc 0) (11+e) [.bool true]=_:=rowQ_setrc _ _ _ _ _ h.lr _ he
 rw [e1] at hw
 have hql:=lt_of_get h.kq
 refine ⟨_,hw,{ h with sub:=h.sub.setR h.gq _,kq:=?_,ka:=?_,own:=fun i hi=>?_,lr:=by rw [List.length_set]; exact h.lr },List.length_set ..,fun b hb=>List.getElem?_set_ne (Ne.symm hb)⟩
 · rw [List.getElem?_set_self hql]
 · rw [List.getElem?_set_ne h.qa]; exact h.ka
 · refine (h.own i hi).other fun b k e l c x hv=>List.getElem?_set_ne fun he=>?_
   exact (h.qw _ (getD_mem' (by rw [h.lw]; exact hi) uA)).1 (by rw [hv,he]; rfl)
theorem QueR.setO {S K:AH} {q a:Nat} {ws:List AV} {vc vm vs:AV} {f:Con} {cs:List Cod} {ss:List (List Itm)} {ad:List Nat} {m:List (List Int)} {rc:List Bool} (h:QueR S K q a ws vc vm vs f cs ss ad m rc) {r:Nat} (hr:Gone S r) (hq:r≠q) (ha:r≠a) (hw:∀ w∈ws,blkO w≠some r) (o:AObj):QueR S (K.set r o) q a ws vc vm vs f cs ss ad m rc:=
 { h with sub:=h.sub.setR hr o,kq:=by rw [List.getElem?_set_ne hq]; exact h.kq,ka:=by rw [List.getElem?_set_ne ha]; exact h.ka,
          own:=fun i hi=>(h.own i hi).other fun b k e l c x hv=>List.getElem?_set_ne fun he=>hw _ (getD_mem' (by rw [h.lw]; exact hi) uA) (by rw [hv,he]; rfl) }
theorem bufOf_set {m:List (List Int)} {d i:Nat} {b:List Int} (hd:d < m.length):bufOf (m.set d b) i=if i=d then b else bufOf m i:=by
 unfold bufOf
 rw [gde,List.getElem?_set]
 by_cases h:d=i
 · subst h; rw [if_pos rfl,if_pos hd,if_pos rfl]; rfl
 · rw [if_neg h,if_neg (Ne.symm h),<-gde]
theorem bufOf_mem {m:List (List Int)} {d:Nat} (hd:d < m.length):bufOf m d∈m:=by
 unfold bufOf; exact getD_mem' hd []
theorem Own.write {b:Nat} {K:AH} {w:AV} {xs new:List AV} {elem:TypeId} (h:Own b K 1 elem w xs) {j:Nat} (hj:j+new.length<=xs.length) (hn:new≠[]) (ho:new.all AV.one=true) :
   ∃ i k len cap ex K',w=.slice i k 1 len cap ex/\(∀ L,wrCells (K++L) i (k+j) new=some (K'++L))/\Own b K' 1 elem w (spl xs j new)/\K'.length=K.length/\∀ c,c≠i->K'[c]? =K[c]?:=by
 cases h with
 | nil=>exact absurd (by simp at hj; exact hj.2) hn
 | «at» i k len cap ex cs xs hb hi hl hc hrd =>
   have hxl:=rd_len hrd
   rw [Nat.mul_one] at hxl hc
   have hil:=lt_of_get hi
   have hfit:k+j+new.length<=cs.length:=by omega
   refine ⟨i,k,len,cap,ex,_,rfl,fun L=>wr_objs hi hfit ho L,.at i k len cap ex (spl cs (k+j) new) _ hb (by rw [List.getElem?_set_self hil]) hl (by rw [spl_length,Nat.mul_one]; exact hc) ?_,List.length_set ..,fun c hc=>List.getElem?_set_ne (Ne.symm hc)⟩
   unfold rdCells at hrd ⊢
   rw [hi] at hrd
   rw [List.getElem?_set_self hil]
   simp only at hrd ⊢
   rw [Nat.mul_one] at hrd ⊢
   rw [if_pos (by omega)] at hrd
   have hx:xs=(cs.drop k).take len:=(Option.some.inj hrd).symm
   rw [if_pos (by rw [spl_length]; omega),spl_append _ _ _ hfit,spl_append _ _ _ hj]
   congr 1
   have hxd:xs.take j=(cs.drop k).take j:=by rw [hx,List.take_take,Nat.min_eq_left (by omega)]
   have hxr:xs.drop (j+new.length)=(cs.drop (k+(j+new.length))).take (len - (j+new.length)):=by rw [hx,List.drop_take,List.drop_drop]
   rw [hxd,hxr]
   have hl1:((cs.drop k).take j).length=j:=by rw [List.length_take,List.length_drop]; omega
   rw [List.append_assoc,List.append_assoc,List.drop_append_of_le_length (by rw [List.length_take]; omega),List.drop_take,show k+j - k=j by omega,List.take_append,hl1,List.take_take,Nat.min_eq_right (by omega),List.take_append,List.take_of_length_le (l:=new) (by omega),show len - j - new.length=len - (j+new.length) by omega,show k+j+new.length=k+(j+new.length) by omega]
theorem QueR.setB {S K:AH} {q a:Nat} {ws:List AV} {vc vm vs:AV} {f:Con} {cs:List Cod} {ss:List (List Itm)} {ad:List Nat} {m:List (List Int)} {rc:List Bool} (h:QueR S K q a ws vc vm vs f cs ss ad m rc) {d:Nat} (hd:d < m.length) {K':AH} {i:Nat} (hi:blkO (ws.getD d uA)=some i) (hK:∀ c,c≠i->K'[c]? =K[c]?) {b':List Int} (ho:Own 0 K' 1 21 (ws.getD d uA) (i32s b')) (hl:b'.length=(bufOf m d).length) (hi32:∀ x∈b',i32R x):QueR S K' q a ws vc vm vs f cs ss ad (m.set d b') rc:=by
 have hdw:d < ws.length:=by rw [h.lw]; exact hd
 have hmw:=getD_mem' hdw uA
 have hqi:i≠q:=fun e=>(h.qw _ hmw).1 (by rw [hi,e])
 have hai:i≠a:=fun e=>(h.qw _ hmw).2 (by rw [hi,e])
 have hgi:=h.gw _ hmw i hi
 refine { h with sub:=fun j o hj hoo=>?_,kq:=by rw [hK _ (Ne.symm hqi)]; exact h.kq,ka:=by rw [hK _ (Ne.symm hai)]; exact h.ka,lw:=by rw [List.length_set]; exact h.lw,own:=fun j hj=>?_,nm:=by rw [List.length_set]; exact h.nm,nb:=fun b hb=>?_,im:=fun b hb=>?_ }
 · rw [hK j fun e=>(hgi.ne (by rw [<-e]; exact hj) hoo) rfl]; exact h.sub j o hj hoo
 · rw [List.length_set] at hj
   rw [bufOf_set hd]
   split
   · rename_i e; subst e; exact ho
   · rename_i e
     refine (h.own j hj).other fun b k e1 l c x hv=>hK b fun hb=>e (h.ww j d i (by rw [h.lw]; exact hj) hdw (by rw [hv,hb]; rfl) hi)
 · rcases List.mem_or_eq_of_mem_set hb with h1 | h1
   · exact h.nb b h1
   · subst h1; rw [hl]; exact h.nb _ (bufOf_mem hd)
 · rcases List.mem_or_eq_of_mem_set hb with h1 | h1
   · exact h.im b h1
   · subst h1; exact hi32
end Go.Dv
