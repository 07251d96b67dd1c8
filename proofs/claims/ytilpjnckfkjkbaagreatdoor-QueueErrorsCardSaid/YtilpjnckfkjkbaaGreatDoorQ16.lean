/- Part 16 of the walks (own work). -/
import Derived.Test.YtilpjnckfkjkbaaGreatDoorQ15
import Derived.Test.YtilpjnckfkjkbaaGreatDoorQ14
set_option maxRecDepth 100000
set_option maxHeartbeats 4000000
set_option linter.unusedSimpArgs false
set_option linter.unusedVariables false
namespace Go.Dv.Qu
def isRecB (x:Item) (e:Int):Bool:=x.kind == 3 && x.event == e
def recs (S:Streams) (e:Int):List Nat:=(List.range S.flatten.length).filter fun n=>((S.flatten[n]?).map fun x=>isRecB x e).getD false
def nxt (S:Streams) (n:Nat):List Nat:=match (places S)[n]? with
 | some p=>if p.2+1 < (S.getD p.1 []).length then [n+1] else []
 | none=>[]
def waits (S:Streams) (n m:Nat):Bool:=match S.flatten[m]? with
 | some y=>y.kind == 4 && recs S y.event == [n]
 | none=>false
def aftTo (S:Streams) (m n:Nat):List Nat:=nxt S n++(List.range m).filter (waits S n)
def aft (S:Streams):List (List Nat):=(List.range S.flatten.length).map (aftTo S S.flatten.length)
def baseB (S:Streams) (i k:Nat):Bool:=match (places S)[i]?,(places S)[k]?,S.flatten[i]?,S.flatten[k]? with
 | some p,some q,some x,some y=>(p.1 == q.1 && decide (p.2 < q.2)) || (x.kind == 3 && y.kind == 4 && x.event == y.event && (recs S x.event).length == 1)
 | _,_,_,_=>false
def bef (S:Streams) (i k:Nat):Bool:=wn (baseB S) S.flatten.length i k
def num (S:Streams) (p:Place):Nat:=off S p.1+p.2
theorem num_places {S:Streams} {p:Place} {x:Item} (h:at? S p=some x):(places S)[num S p]? =some p:=places_get h
theorem num_flat {S:Streams} {p:Place} {x:Item} (h:at? S p=some x):S.flatten[num S p]? =some x:=flat_at S p.1 p.2 x h
theorem num_lt {S:Streams} {p:Place} {x:Item} (h:at? S p=some x):num S p < S.flatten.length:=by
 have:=num_flat h
 rcases Nat.lt_or_ge (num S p) S.flatten.length with c | c
 · exact c
 · rw [List.getElem?_eq_none c] at this; cases this
theorem num_inj {S:Streams} {p q:Place} {x y:Item} (h:at? S p=some x) (h':at? S q=some y) (e:num S p=num S q):p=q:=by
 obtain ⟨a,b⟩:=off_inj h h' e
 exact Prod.ext a b
theorem mem_recs {S:Streams} {e:Int} {n:Nat}:n∈recs S e↔∃ p,isRec S e p/\num S p=n:=by
 unfold recs
 rw [List.mem_filter,List.mem_range]
 constructor
 · rintro ⟨hn,h⟩
   obtain ⟨p,x,hp,hx,hf,e2⟩:=flat_spec hn
   rw [hf] at h
   simp only [Option.map_some,Option.getD_some,isRecB,Bool.and_eq_true,beq_iff_eq] at h
   exact ⟨p,⟨x,hx,h.1,h.2⟩,e2.symm⟩
 · rintro ⟨p,⟨x,hx,h3,he⟩,rfl⟩
   refine ⟨num_lt hx,?_⟩
   rw [num_flat hx]
   simp [isRecB,h3,he]
theorem recs_nodup (S:Streams) (e:Int):(recs S e).Nodup:=List.nodup_range.sublist List.filter_sublist
theorem one_of {l:List Nat} {n:Nat} (hn:l.Nodup) (hm:n∈l) (h:∀ r∈l,r=n):l=[n]:=by
 cases l with
 | nil=>simp at hm
 | cons a l =>
   have ha:=h a (by simp)
   subst ha
   cases l with
   | nil=>rfl
   | cons b l =>
     have hb:=h b (by simp)
     subst hb
     simp at hn
theorem recs_one {S:Streams} {p:Place} {x:Item} (h:at? S p=some x) (h3:x.kind=3):recs S x.event=[num S p]↔∀ r,isRec S x.event r->r=p:=by
 constructor
 · intro e r hr
   have:num S r∈recs S x.event:=mem_recs.2 ⟨r,hr,rfl⟩
   rw [e,List.mem_singleton] at this
   obtain ⟨y,hy,_⟩:=hr
   exact num_inj hy h this
 · intro hu
   refine one_of (recs_nodup S _) (mem_recs.2 ⟨p,⟨x,h,h3,rfl⟩,rfl⟩) fun r hr=>?_
   obtain ⟨q,hq,rfl⟩:=mem_recs.1 hr
   rw [hu q hq]
theorem aft_edge {S:Streams} {n m:Nat}:EA (aft S) n m↔∃ p q,Edge S p q/\num S p=n/\num S q=m:=by
 unfold EA aft
 rw [gde,List.getElem?_map]
 rcases Nat.lt_or_ge n S.flatten.length with hn | hn
 · rw [List.getElem?_range hn]
   simp only [Option.map_some,Option.getD_some,aftTo,List.mem_append,List.mem_filter,List.mem_range]
   obtain ⟨p,x,hp,hx,hf,e⟩:=flat_spec hn
   constructor
   · rintro (h | ⟨hm,h⟩)
     · unfold nxt at h
       rw [hp] at h
       simp only at h
       split at h
       · rename_i hlt
         rw [List.mem_singleton] at h
         obtain ⟨z,hz⟩:=item_of hlt
         exact ⟨p,(p.1,p.2+1),.inl ⟨⟨x,z,hx,hz⟩,rfl,rfl⟩,e.symm,by rw [h,e]; simp only [num]; omega⟩
       · simp at h
     · obtain ⟨q,y,hq,hy,hf',e'⟩:=flat_spec hm
       unfold waits at h
       rw [hf'] at h
       simp only [Bool.and_eq_true,beq_iff_eq] at h
       have hmem:n∈recs S y.event:=by rw [h.2]; simp
       obtain ⟨r,hr,hrn⟩:=mem_recs.1 hmem
       obtain ⟨z,hz,h3,he⟩:=hr
       have hrp:r=p:=num_inj hz hx (by rw [hrn,e]; rfl)
       subst hrp
       rw [hx] at hz; cases hz
       refine ⟨r,q,.inr ⟨x,y,hx,hy,h3,h.1,he,?_⟩,hrn,e'.symm⟩
       have:=h.2
       rw [<-he,<-hrn] at this
       exact (recs_one hx h3).1 this
   · rintro ⟨p',q,he,hpn,hqm⟩
     rcases he with ⟨⟨x',y,hx',hy⟩,e1,e2⟩ | ⟨x',y,hx',hy,h3,h4,he,hu⟩
     · have:p'=p:=num_inj hx' hx (by rw [hpn,e]; rfl)
       subst this
       left
       unfold nxt
       rw [hp]
       have:=(at_lt hy).2
       rw [<-e1,e2] at this
       simp only
       rw [if_pos this,List.mem_singleton,<-hqm,e]
       simp only [num,<-e1,e2]; omega
     · have:p'=p:=num_inj hx' hx (by rw [hpn,e]; rfl)
       subst this
       right
       refine ⟨by rw [<-hqm]; exact num_lt hy,?_⟩
       unfold waits
       rw [<-hqm,num_flat hy]
       simp only [Bool.and_eq_true,beq_iff_eq]
       refine ⟨h4,?_⟩
       rw [<-he,(recs_one hx' h3).2 hu,hpn]
 · rw [List.getElem?_eq_none (by simpa using hn)]
   simp only [Option.map_none,Option.getD_none,List.not_mem_nil,false_iff]
   rintro ⟨p,q,he,hpn,_⟩
   obtain ⟨x,hx⟩:=(edge_at he).1
   have:=num_lt hx
   omega
theorem aft_lt {S:Streams}:∀ l∈aft S,∀ y∈l,y < S.flatten.length:=by
 intro l hl y hy
 obtain ⟨n,hn⟩:=List.getElem?_of_mem hl
 have:EA (aft S) n y:=by unfold EA; rw [gde,hn]; exact hy
 obtain ⟨p,q,he,_,hq⟩:=aft_edge.1 this
 obtain ⟨z,hz⟩:=(edge_at he).2
 rw [<-hq]; exact num_lt hz
theorem aft_len (S:Streams):(aft S).length=S.flatten.length:=by simp [aft]
theorem aft_before {S:Streams} {n m:Nat}:TG (EA (aft S)) n m↔∃ p q,Before S p q/\num S p=n/\num S q=m:=by
 constructor
 · intro h
   induction h with
   | one h =>
     obtain ⟨p,q,he,a,b⟩:=aft_edge.1 h
     exact ⟨p,q,.one he,a,b⟩
   | step h _ ih =>
     obtain ⟨p,q,he,a,b⟩:=aft_edge.1 h
     obtain ⟨p',q',he',a',b'⟩:=ih
     obtain ⟨x,hx⟩:=(before_at he').1
     obtain ⟨y,hy⟩:=(edge_at he).2
     have:p'=q:=num_inj hx hy (a'.trans b.symm)
     subst this
     exact ⟨p,q',.step he he',a,b'⟩
 · rintro ⟨p,q,h,rfl,rfl⟩
   exact TG.map (num S) (fun a b e=>aft_edge.2 ⟨a,b,e,rfl,rfl⟩) h
theorem base_spec {S:Streams} {i k:Nat}:baseB S i k=true↔∃ p q,Base S p q/\num S p=i/\num S q=k:=by
 unfold baseB
 constructor
 · intro h
   split at h
   · rename_i p q x y hp hq hx hy
     have hi:i < S.flatten.length:=by
       rcases Nat.lt_or_ge i S.flatten.length with c | c
       · exact c
       · rw [List.getElem?_eq_none c] at hx; cases hx
     have hk:k < S.flatten.length:=by
       rcases Nat.lt_or_ge k S.flatten.length with c | c
       · exact c
       · rw [List.getElem?_eq_none c] at hy; cases hy
     obtain ⟨p',x',hp',hx',hf,e⟩:=flat_spec hi
     obtain ⟨q',y',hq',hy',hf',e'⟩:=flat_spec hk
     rw [hp] at hp'; cases hp'
     rw [hq] at hq'; cases hq'
     rw [hx] at hf; cases hf
     rw [hy] at hf'; cases hf'
     simp only [Bool.or_eq_true,Bool.and_eq_true,beq_iff_eq,decide_eq_true_eq] at h
     refine ⟨p,q,?_,e.symm,e'.symm⟩
     rcases h with ⟨a,b⟩ | ⟨⟨⟨a,b⟩,c⟩,d⟩
     · exact .inl ⟨⟨x,y,hx',hy'⟩,a,b⟩
     · refine .inr ⟨x,y,hx',hy',a,b,c,(recs_one hx' a).1 ?_⟩
       have hm:num S p∈recs S x.event:=mem_recs.2 ⟨p,⟨x,hx',a,rfl⟩,rfl⟩
       rw [List.length_eq_one_iff] at d
       obtain ⟨r,hr⟩:=d
       rw [hr,List.mem_singleton] at hm
       rw [hr,hm]
   · cases h
 · rintro ⟨p,q,h,rfl,rfl⟩
   rcases h with ⟨⟨x,y,hx,hy⟩,a,b⟩ | ⟨x,y,hx,hy,h3,h4,he,hu⟩
   · rw [num_places hx,num_places hy,num_flat hx,num_flat hy]
     simp [a,b]
   · rw [num_places hx,num_places hy,num_flat hx,num_flat hy]
     simp [h3,h4,he]
     right
     rw [<-he,(recs_one hx h3).2 hu]; rfl
theorem bef_before {S:Streams} {i k:Nat} (hi:i < S.flatten.length) (hk:k < S.flatten.length):bef S i k=true↔∃ p q,Before S p q/\num S p=i/\num S q=k:=by
 unfold bef
 rw [wn_spec hi hk]
 constructor
 · intro h
   have key:∀ a b,TG (fun a b=>a < S.flatten.length/\b < S.flatten.length/\baseB S a b=true) a b->∃ p q,TG (Base S) p q/\num S p=a/\num S q=b:=by
     intro a b h
     induction h with
     | one h =>
       obtain ⟨p,q,he,a,b⟩:=base_spec.1 h.2.2
       exact ⟨p,q,.one he,a,b⟩
     | step h _ ih =>
       obtain ⟨p,q,he,a,b⟩:=base_spec.1 h.2.2
       obtain ⟨p',q',he',a',b'⟩:=ih
       obtain ⟨x,hx⟩:=(before_at (before_base.2 he')).1
       obtain ⟨y,hy⟩:=(before_at (before_base.2 (.one he))).2
       have:p'=q:=num_inj hx hy (a'.trans b.symm)
       subst this
       exact ⟨p,q',.step he he',a,b'⟩
   obtain ⟨p,q,h,a,b⟩:=key i k h
   exact ⟨p,q,before_base.2 h,a,b⟩
 · rintro ⟨p,q,h,rfl,rfl⟩
   have h:=before_base.1 h
   have key:∀ a b,TG (Base S) a b->TG (fun a b=>a < S.flatten.length/\b < S.flatten.length/\baseB S a b=true) (num S a) (num S b):=by
     intro a b h
     refine TG.map (num S) (fun a b h=>?_) h
     obtain ⟨⟨x,hx⟩,⟨y,hy⟩⟩:=before_at (before_base.2 (.one h))
     exact ⟨num_lt hx,num_lt hy,base_spec.2 ⟨a,b,h,rfl,rfl⟩⟩
   exact key p q h
theorem reach_bef {S:Streams} {i k:Nat} (hi:i < S.flatten.length) (hk:k < S.flatten.length):TG (EA (aft S)) i k↔bef S i k=true:=by
 rw [aft_before,bef_before hi hk]
end Go.Dv.Qu
namespace Go.Dv.Qu
def doI (m:List (List Int)) (x:Item):List (List Int):=
 if x.kind=1 then m.set x.dst.toNat (m.getD x.frm.toNat [])
 else if x.kind=2 then m.set x.dst.toNat (List.replicate (m.getD x.dst.toNat []).length x.word) else m
inductive RT (S:Streams):List Nat->(Int->Bool)->List Place->Prop
 | init:RT S (List.replicate S.length 0) (fun _=>false) []
 | step {a:List Nat} {R:Int->Bool} {L:List Place} {s:Nat} {x:Item}:RT S a R L->s∈ready S a R->item? S s (a.getD s 0)=some x->RT S (a.set s (a.getD s 0+1)) (recd R x) (L++[(s,a.getD s 0)])
theorem RT.reach {S:Streams} {a:List Nat} {R:Int->Bool} {L:List Place} (h:RT S a R L):Reach S a R:=by
 induction h with
 | init=>exact .init
 | step _ hs hx ih=>exact .step ih hs hx
def doP (S:Streams) (m:List (List Int)) (p:Place):List (List Int):=doI m ((at? S p).getD default)
end Go.Dv.Qu
namespace Go.Dv
open Go.Proofs
attribute [local congr] bind_congr_first cb_congr condA_congr gd_congr br_congr
def qi (x:Itm):Qu.Item:=⟨x.kind,x.code,x.grid,x.block,x.src,x.dst,x.ev,x.args,x.word⟩
def qS (ss:List (List Itm)):Qu.Streams:=ss.map (·.map qi)
def rF (rc:List Bool):Int->Bool:=fun e=>decide (0<=e) && rc.getD e.toNat false
theorem qS_len (ss:List (List Itm)):(qS ss).length=ss.length:=by unfold qS; rw [List.length_map]
theorem strAt_lt {ss:List (List Itm)} {s:Nat} (h:s < ss.length):ss[s]? =some (strAt ss s):=by
 unfold strAt; rw [gde,List.getElem?_eq_getElem h]; rfl
theorem strAt_ge {ss:List (List Itm)} {s:Nat} (h:ss.length<=s):strAt ss s=[]:=by
 unfold strAt; rw [gde,List.getElem?_eq_none h]; rfl
theorem itmAt_lt {xs:List Itm} {k:Nat} (h:k < xs.length):xs[k]? =some (itmAt xs k):=by
 unfold itmAt; rw [gde,List.getElem?_eq_getElem h]; rfl
theorem qS_getD (ss:List (List Itm)) (s:Nat):(qS ss).getD s []=(strAt ss s).map qi:=by
 unfold qS
 rw [gde,List.getElem?_map]
 rcases Nat.lt_or_ge s ss.length with h | h
 · rw [strAt_lt h]; rfl
 · rw [List.getElem?_eq_none h,strAt_ge h]; rfl
theorem item_qS {ss:List (List Itm)} {s k:Nat} (h:k < (strAt ss s).length):Qu.item? (qS ss) s k=some (qi (itmAt (strAt ss s) k)):=by
 have hs:s < ss.length:=by
   rcases Nat.lt_or_ge s ss.length with c | c
   · exact c
   · rw [strAt_ge c] at h; simp at h
 unfold Qu.item? qS
 rw [List.getElem?_map,strAt_lt hs,Option.map_some,Option.bind_some,List.getElem?_map,itmAt_lt h]; rfl
theorem item_qS_none {ss:List (List Itm)} {s k:Nat} (h:(strAt ss s).length<=k):Qu.item? (qS ss) s k=none:=by
 unfold Qu.item? qS
 rw [List.getElem?_map]
 rcases Nat.lt_or_ge s ss.length with c | c
 · rw [strAt_lt c,Option.map_some,Option.bind_some,List.getElem?_map,List.getElem?_eq_none h]; rfl
 · rw [List.getElem?_eq_none c]; rfl
def EvOk (ss:List (List Itm)):Prop:=∀ l∈ss,∀ x∈l,(x.kind=3∨x.kind=4)->0<=x.ev/\x.ev < 16
theorem strAt_mem {ss:List (List Itm)} {s:Nat} (h:s < ss.length):strAt ss s∈ss:=List.mem_of_getElem? (strAt_lt h)
theorem itmAt_mem {xs:List Itm} {k:Nat} (h:k < xs.length):itmAt xs k∈xs:=List.mem_of_getElem? (itmAt_lt h)
theorem EvOk.at {ss:List (List Itm)} (h:EvOk ss) {s k:Nat} (hk:k < (strAt ss s).length) (hx:(itmAt (strAt ss s) k).kind=3∨(itmAt (strAt ss s) k).kind=4):0<=(itmAt (strAt ss s) k).ev/\(itmAt (strAt ss s) k).ev < 16:=by
 have hs:s < ss.length:=by
   rcases Nat.lt_or_ge s ss.length with c | c
   · exact c
   · rw [strAt_ge c] at hk; simp at hk
 exact h _ (strAt_mem hs) _ (itmAt_mem hk) hx
theorem okAt_eq {ss:List (List Itm)} (hev:EvOk ss) (ad:List Nat) (rc:List Bool) (s:Nat):Qu.okAt (qS ss) ad (rF rc) s=okS ss ad rc s:=by
 unfold Qu.okAt okS
 rcases Nat.lt_or_ge (ad.getD s 0) (strAt ss s).length with c | c
 · rw [item_qS c,ltB_t (by omega),Bool.true_and]
   show ((itmAt (strAt ss s) (ad.getD s 0)).kind != 4 || rF rc (itmAt (strAt ss s) (ad.getD s 0)).ev)=_
   unfold eqB
   cases hk:((itmAt (strAt ss s) (ad.getD s 0)).kind == 4) with
   | false=>rw [bne,hk]; rfl
   | true =>
     have h4:(itmAt (strAt ss s) (ad.getD s 0)).kind=4:=by simpa using hk
     have:=hev.at c (.inr h4)
     simp only [bne,hk,Bool.not_true,Bool.false_or,rF]
     rw [decide_eq_true this.1,Bool.true_and]
 · rw [item_qS_none c,ltB_f (by omega),Bool.false_and]
theorem ready_eq {ss:List (List Itm)} (hev:EvOk ss) (ad:List Nat) (rc:List Bool):Qu.ready (qS ss) ad (rF rc)=readyS ss ad rc ss.length:=by
 unfold Qu.ready readyS
 rw [qS_len,show Qu.okAt (qS ss) ad (rF rc)=okS ss ad rc from funext fun s=>okAt_eq hev ad rc s]
theorem left_eq (ss:List (List Itm)) (ad:List Nat):Qu.left (qS ss) ad=leftS ss ad ss.length:=by
 unfold Qu.left leftS
 rw [qS_len]
 refine List.map_congr_left fun s _=>?_
 rw [qS_getD,List.length_map]
def doM (m:List (List Int)) (x:Itm):List (List Int):=
 if x.kind=1 then m.set x.dst.toNat (bufOf m x.src.toNat)
 else if x.kind=2 then m.set x.dst.toNat (List.replicate (bufOf m x.dst.toNat).length x.word) else m
def doR (rc:List Bool) (x:Itm):List Bool:=if x.kind=3 then rc.set x.ev.toNat true else rc
def doA (ad:List Nat) (s:Nat):List Nat:=ad.set s (ad.getD s 0+1)
theorem doR_eq {rc:List Bool} (hl:rc.length=16) {x:Itm} (hx:x.kind=3->0<=x.ev/\x.ev < 16):rF (doR rc x)=Qu.recd (rF rc) (qi x):=by
 unfold doR Qu.recd
 show _=if x.kind=3 then (fun e=>rF rc e || e == x.ev) else rF rc
 by_cases h:x.kind=3
 · rw [if_pos h,if_pos h]
   obtain ⟨h0,h1⟩:=hx h
   funext e
   unfold rF
   rw [Bool.eq_iff_iff]
   simp only [Bool.and_eq_true,Bool.or_eq_true,decide_eq_true_iff,beq_iff_eq,gde,List.getElem?_set]
   by_cases he:x.ev.toNat=e.toNat
   · rw [if_pos he,if_pos (by omega)]
     simp only [Option.getD_some,and_true]
     constructor
     · intro h; exact .inr (by omega)
     · rintro (⟨h,_⟩ | h) <;> omega
   · rw [if_neg he]
     constructor
     · intro h; exact .inl h
     · rintro (h | h)
       · exact h
       · exact absurd (by rw [h]) he
 · rw [if_neg h,if_neg h]
theorem rF_init:rF (List.replicate 16 false)=fun _=>false:=by
 funext e
 unfold rF
 rw [gde,List.getElem?_replicate]
 by_cases h:e.toNat < 16
 · rw [if_pos h]; simp
 · rw [if_neg h]; simp
theorem readyS_mem {ss:List (List Itm)} {ad:List Nat} {rc:List Bool} {n s:Nat} (h:s∈readyS ss ad rc n):s < n/\okS ss ad rc s=true:=by
 unfold readyS at h
 rw [List.mem_filter,List.mem_range] at h; exact h
theorem okS_lt {ss:List (List Itm)} {ad:List Nat} {rc:List Bool} {s:Nat} (h:okS ss ad rc s=true):ad.getD s 0 < (strAt ss s).length:=by
 unfold okS at h
 rw [Bool.and_eq_true,ltB_iff] at h
 exact Int.ofNat_lt.1 h.1
theorem rt_step {ss:List (List Itm)} (hev:EvOk ss) {ad:List Nat} {rc:List Bool} {L:List Qu.Place} (hl:rc.length=16) (h:Qu.RT (qS ss) ad (rF rc) L) {s:Nat} (hs:s∈readyS ss ad rc ss.length) :
   Qu.RT (qS ss) (doA ad s) (rF (doR rc (itmAt (strAt ss s) (ad.getD s 0)))) (L++[(s,ad.getD s 0)]):=by
 have hk:=okS_lt (readyS_mem hs).2
 rw [doR_eq hl fun h3=>hev.at hk (.inl h3)]
 exact .step h (by rw [ready_eq hev]; exact hs) (item_qS hk)
def cloneV (es n:Nat) (v:AV) (b:Nat):AV:=match v with
 | .nilSlice=>.nilSlice
 | _=>if n=0 then .slice b 0 es 0 0 true else .slice (b+1) 0 es n n false
def cloneL (E:TypeId) (v:AV) (xs:List AV):AH:=match v with
 | .nilSlice=>[]
 | _=>if xs=[] then [.cells [] E] else [.cells [] E,.cells xs E]
theorem flat_nil {es:Nat} (hes:0 < es) {rows:List (List AV)} (hr:∀ r∈rows,r.length=es):rows.flatten=[]↔rows.length=0:=by
 rw [<-List.length_eq_zero_iff,flat_len hr,Nat.mul_eq_zero]
 exact ⟨fun h=>h.elim id fun h=>by omega,.inl⟩
theorem clone_app {T E es:Nat} (A:AppT Tryz.prog T (some T) E es) (hes:0 < es) {H:AH} {v:AV} {rows:List (List AV)} (h:SlS T es H v rows) (hr:∀ r∈rows,r.length=es) (hv:v≠.nilSlice) (hg:growOk (Tryz.prog.bytesOf E) rows.length=true) (L:AH) :
   appendA Tryz.prog none T (some T) (.slice (H.length+L.length) 0 es 0 0 true) v (H++(L++[.cells [] E]))=some (cloneV es rows.length v (H.length+L.length),H++(L++cloneL E v rows.flatten)):=by
 obtain ⟨z,hz,hzl,hzn⟩:=A.z
 have hrow:=(h.app (L++[AObj.cells [] E])).row
 have hln:=h.lenOf
 have hsrc:∃ f,srcA (H++(L++[.cells [] E])) es v=some (rows.length,f)/\f rows.length=some rows.flatten:=by
   generalize hxs:rows.flatten=xs at hrow
   cases hrow with
   | nil=>exact absurd rfl hv
   | «at» i k len cap ex xs h' =>
     rw [lenOfA_slice] at hln
     subst hln
     exact ⟨fun n=>if n<=rows.length then rdCells (H++(L++[AObj.cells [] E])) i k (n * es) else none,by simp [srcA],by simp [h']⟩
 obtain ⟨f,hf,hfn⟩:=hsrc
 unfold appendA
 rw [if_neg (by rw [A.x]; simp),A.el,Option.bind_some,hz,Option.bind_some,A.sz,hf,Option.bind_some]
 simp only [hfn,Option.bind_some]
 rw [if_pos ⟨by rw [hzl,A.sz],hzn⟩]
 try simp only [if_true]
 have hc:∀ b,cloneV es rows.length v b=if rows.length=0 then .slice b 0 es 0 0 true else .slice (b+1) 0 es rows.length rows.length false:=fun b=>by
   cases v <;> first | rfl | exact absurd rfl hv
 have hL:cloneL E v rows.flatten=if rows.flatten=[] then [.cells [] E] else [.cells [] E,.cells rows.flatten E]:=by
   cases v <;> first | rfl | exact absurd rfl hv
 rw [hc,hL]
 by_cases h0:rows.length=0
 · rw [if_pos h0,if_pos h0,if_pos ((flat_nil hes hr).2 h0)]
 · rw [if_neg h0,if_neg h0,if_neg fun e=>h0 ((flat_nil hes hr).1 e),if_neg (by omega),Nat.zero_add,if_pos hg]
   have hrd:rdCells (H++(L++[AObj.cells [] E])) (H.length+L.length) 0 (0 * es)=some []:=by
     rw [rd_app,Nat.zero_mul]
     unfold rdCells
     rw [List.getElem?_append_right (Nat.le_refl _),Nat.sub_self]; rfl
   rw [hrd,Option.bind_some]
   simp only [put,Option.map_some,List.nil_append,List.length_append,List.length_singleton,List.append_assoc,List.cons_append,Nat.add_assoc]
theorem cloneV_own {E es:Nat} {G:AH} {v:AV} {xs:List AV} {n:Nat} (hes:0 < es) (hn:xs.length=n * es) (hv:v=.nilSlice->xs=[]):Own G.length (G++cloneL E v xs) es E (cloneV es n v G.length) xs:=by
 by_cases hvn:v=.nilSlice
 · rw [hvn,hv hvn]; exact .nil
 · have hc:cloneV es n v G.length=if n=0 then .slice G.length 0 es 0 0 true else .slice (G.length+1) 0 es n n false:=by
     cases v <;> first | rfl | exact absurd rfl hvn
   have hL:cloneL E v xs=if xs=[] then [.cells [] E] else [.cells [] E,.cells xs E]:=by
     cases v <;> first | rfl | exact absurd rfl hvn
   rw [hc,hL]
   by_cases h0:n=0
   · have hx:xs=[]:=List.length_eq_zero_iff.1 (by rw [hn,h0,Nat.zero_mul])
     rw [if_pos h0,if_pos hx]
     subst hx
     exact .at _ _ _ _ _ [] _ (Nat.le_refl _) (by simp) (Nat.le_refl _) (by simp) (by rw [rd_app0,Nat.zero_mul]; rfl)
   · have hx:xs≠[]:=fun e=>h0 (by
       rw [e,List.length_nil] at hn
       rcases Nat.mul_eq_zero.1 hn.symm with h | h
       · exact h
       · omega)
     rw [if_neg h0,if_neg hx]
     have hg:(G++[AObj.cells [] E,.cells xs E])[G.length+1]? =some (.cells xs E):=by
       rw [List.getElem?_append_right (Nat.le_add_right _ _),Nat.add_sub_cancel_left]; rfl
     refine .at _ _ _ _ _ xs _ (Nat.le_add_right _ _) hg (Nat.le_refl _) (by rw [hn,Nat.zero_add]; exact Nat.le_refl _) ?_
     unfold rdCells
     rw [hg]
     simp only
     rw [if_pos (by omega),List.drop_zero,List.take_of_length_le (by omega)]
theorem cloneV_cells (es n:Nat) (v:AV) (b:Nat):(cloneV es n v b).cells=[cloneV es n v b]/\(cloneV es n v b).one=true:=by
 unfold cloneV
 split
 · exact ⟨rfl,rfl⟩
 · split <;> exact ⟨rfl,rfl⟩
theorem at22c:AppT Tryz.prog 22 (some 22) 66 5:=⟨by kernel_rfl,⟨(zeroA Tryz.prog 66).getD uA,by kernel_rfl,by kernel_rfl,by (have h:((zeroA Tryz.prog 66).getD uA).cells.length=5:=by kernel_rfl); intro e; rw [e] at h; cases h⟩,by kernel_rfl,by kernel_rfl⟩
theorem bs22e' (H:AH):buildSliceA Tryz.prog none 22 0 [] H=some (.slice H.length 0 5 0 0 true,H++[.cells [] 66]):=by kernel_rfl
theorem bs22e (H L:AH):buildSliceA Tryz.prog none 22 0 [] (H++L)=some (.slice (H.length+L.length) 0 5 0 0 true,H++(L++[.cells [] 66])):=by rw [bs22e',List.length_append,List.append_assoc]
theorem nil22e (H:AH) (i k e l c:Nat) (x:Bool) (fb:Option AV):binV .eql 22 (.slice i k e l c x) .nilSlice H fb=some (.bool false):=by
 have h:eqA Tryz.prog 22 H (.slice i k e l c x) .nilSlice=some false:=by kernel_rfl
 unfold binV; simp only [h]; try rfl
theorem nil22n (H:AH) (fb:Option AV):binV .eql 22 .nilSlice .nilSlice H fb=some (.bool true):=by
 have h:eqA Tryz.prog 22 H .nilSlice .nilSlice=some true:=by kernel_rfl
 unfold binV; simp only [h]
theorem ev27 {H:AH} {v:AV} {rows:List (List AV)} (h:SlS 22 5 H v rows) (hr:∀ r∈rows,r.length=5) (hg:growOk (Tryz.prog.bytesOf 66) rows.length=true) (L:AH):Ev Tryz.prog C0 W0 27 [v] (H++L)=some (cloneV 5 rows.length v (H.length+L.length),H++(L++cloneL 66 v rows.flatten)):=by
 rcases h.old with ⟨rfl,rfl⟩ | ⟨i,k,c,e,rfl,_,_⟩
 · clear hg hr
   obtain ⟨tm,ht,g0,g1⟩:=tm1 (.nilSlice) 8 (by decide)
   rw [fe27,ht]
   simp -implicitDefEqProofs only [c27,Tryz.f27,aP,g0,g1,↓nil22n,↓evDn,evUp,eu,sevalprocAttr]
   simp only [cloneV,cloneL,List.append_nil]
 · obtain ⟨tm,ht,g0,g1⟩:=tm1 (.slice i k 5 rows.length c e) 8 (by decide)
   rw [fe27,ht]
   have he:=clone_app at22c (by decide) h hr (by simp) hg L
   simp -implicitDefEqProofs only [c27,Tryz.f27,aP,g0,g1,↓nil22e,bs22e,↓callA_append,he,↓evDn,evUp,eu,sevalprocAttr]
theorem at62c:AppT Tryz.prog 62 (some 62) 74 2:=⟨by kernel_rfl,⟨(zeroA Tryz.prog 74).getD uA,by kernel_rfl,by kernel_rfl,by (have h:((zeroA Tryz.prog 74).getD uA).cells.length=2:=by kernel_rfl); intro e; rw [e] at h; cases h⟩,by kernel_rfl,by kernel_rfl⟩
theorem bs62e' (H:AH):buildSliceA Tryz.prog none 62 0 [] H=some (.slice H.length 0 2 0 0 true,H++[.cells [] 74]):=by kernel_rfl
theorem bs62e (H L:AH):buildSliceA Tryz.prog none 62 0 [] (H++L)=some (.slice (H.length+L.length) 0 2 0 0 true,H++(L++[.cells [] 74])):=by rw [bs62e',List.length_append,List.append_assoc]
theorem nil62e (H:AH) (i k e l c:Nat) (x:Bool) (fb:Option AV):binV .eql 62 (.slice i k e l c x) .nilSlice H fb=some (.bool false):=by
 have h:eqA Tryz.prog 62 H (.slice i k e l c x) .nilSlice=some false:=by kernel_rfl
 unfold binV; simp only [h]; try rfl
theorem nil62n (H:AH) (fb:Option AV):binV .eql 62 .nilSlice .nilSlice H fb=some (.bool true):=by
 have h:eqA Tryz.prog 62 H .nilSlice .nilSlice=some true:=by kernel_rfl
 unfold binV; simp only [h]
theorem ev29 {H:AH} {v:AV} {rows:List (List AV)} (h:SlS 62 2 H v rows) (hr:∀ r∈rows,r.length=2) (hg:growOk (Tryz.prog.bytesOf 74) rows.length=true) (L:AH):Ev Tryz.prog C0 W0 29 [v] (H++L)=some (cloneV 2 rows.length v (H.length+L.length),H++(L++cloneL 74 v rows.flatten)):=by
 rcases h.old with ⟨rfl,rfl⟩ | ⟨i,k,c,e,rfl,_,_⟩
 · clear hg hr
   obtain ⟨tm,ht,g0,g1⟩:=tm1 (.nilSlice) 8 (by decide)
   rw [fe29,ht]
   simp -implicitDefEqProofs only [c29,Tryz.f29,aP,g0,g1,↓nil62n,↓evDn,evUp,eu,sevalprocAttr]
   simp only [cloneV,cloneL,List.append_nil]
 · obtain ⟨tm,ht,g0,g1⟩:=tm1 (.slice i k 2 rows.length c e) 8 (by decide)
   rw [fe29,ht]
   have he:=clone_app at62c (by decide) h hr (by simp) hg L
   simp -implicitDefEqProofs only [c29,Tryz.f29,aP,g0,g1,↓nil62e,bs62e,↓callA_append,he,↓evDn,evUp,eu,sevalprocAttr]
theorem at63c:AppT Tryz.prog 63 (some 63) 77 2:=⟨by kernel_rfl,⟨(zeroA Tryz.prog 77).getD uA,by kernel_rfl,by kernel_rfl,by (have h:((zeroA Tryz.prog 77).getD uA).cells.length=2:=by kernel_rfl); intro e; rw [e] at h; cases h⟩,by kernel_rfl,by kernel_rfl⟩
theorem bs63e' (H:AH):buildSliceA Tryz.prog none 63 0 [] H=some (.slice H.length 0 2 0 0 true,H++[.cells [] 77]):=by kernel_rfl
theorem bs63e (H L:AH):buildSliceA Tryz.prog none 63 0 [] (H++L)=some (.slice (H.length+L.length) 0 2 0 0 true,H++(L++[.cells [] 77])):=by rw [bs63e',List.length_append,List.append_assoc]
theorem nil63e (H:AH) (i k e l c:Nat) (x:Bool) (fb:Option AV):binV .eql 63 (.slice i k e l c x) .nilSlice H fb=some (.bool false):=by
 have h:eqA Tryz.prog 63 H (.slice i k e l c x) .nilSlice=some false:=by kernel_rfl
 unfold binV; simp only [h]; try rfl
theorem nil63n (H:AH) (fb:Option AV):binV .eql 63 .nilSlice .nilSlice H fb=some (.bool true):=by
 have h:eqA Tryz.prog 63 H .nilSlice .nilSlice=some true:=by kernel_rfl
 unfold binV; simp only [h]
theorem ev30 {H:AH} {v:AV} {rows:List (List AV)} (h:SlS 63 2 H v rows) (hr:∀ r∈rows,r.length=2) (hg:growOk (Tryz.prog.bytesOf 77) rows.length=true) (L:AH):Ev Tryz.prog C0 W0 30 [v] (H++L)=some (cloneV 2 rows.length v (H.length+L.length),H++(L++cloneL 77 v rows.flatten)):=by
 rcases h.old with ⟨rfl,rfl⟩ | ⟨i,k,c,e,rfl,_,_⟩
 · clear hg hr
   obtain ⟨tm,ht,g0,g1⟩:=tm1 (.nilSlice) 8 (by decide)
   rw [fe30,ht]
   simp -implicitDefEqProofs only [c30,Tryz.f30,aP,g0,g1,↓nil63n,↓evDn,evUp,eu,sevalprocAttr]
   simp only [cloneV,cloneL,List.append_nil]
 · obtain ⟨tm,ht,g0,g1⟩:=tm1 (.slice i k 2 rows.length c e) 8 (by decide)
   rw [fe30,ht]
   have he:=clone_app at63c (by decide) h hr (by simp) hg L
   simp -implicitDefEqProofs only [c30,Tryz.f30,aP,g0,g1,↓nil63e,bs63e,↓callA_append,he,↓evDn,evUp,eu,sevalprocAttr]
theorem at64c:AppT Tryz.prog 64 (some 64) 80 8:=⟨by kernel_rfl,⟨(zeroA Tryz.prog 80).getD uA,by kernel_rfl,by kernel_rfl,by (have h:((zeroA Tryz.prog 80).getD uA).cells.length=8:=by kernel_rfl); intro e; rw [e] at h; cases h⟩,by kernel_rfl,by kernel_rfl⟩
theorem bs64e' (H:AH):buildSliceA Tryz.prog none 64 0 [] H=some (.slice H.length 0 8 0 0 true,H++[.cells [] 80]):=by kernel_rfl
theorem bs64e (H L:AH):buildSliceA Tryz.prog none 64 0 [] (H++L)=some (.slice (H.length+L.length) 0 8 0 0 true,H++(L++[.cells [] 80])):=by rw [bs64e',List.length_append,List.append_assoc]
theorem nil64e (H:AH) (i k e l c:Nat) (x:Bool) (fb:Option AV):binV .eql 64 (.slice i k e l c x) .nilSlice H fb=some (.bool false):=by
 have h:eqA Tryz.prog 64 H (.slice i k e l c x) .nilSlice=some false:=by kernel_rfl
 unfold binV; simp only [h]; try rfl
theorem nil64n (H:AH) (fb:Option AV):binV .eql 64 .nilSlice .nilSlice H fb=some (.bool true):=by
 have h:eqA Tryz.prog 64 H .nilSlice .nilSlice=some true:=by kernel_rfl
 unfold binV; simp only [h]
theorem ev31 {H:AH} {v:AV} {rows:List (List AV)} (h:SlS 64 8 H v rows) (hr:∀ r∈rows,r.length=8) (hg:growOk (Tryz.prog.bytesOf 80) rows.length=true) (L:AH):Ev Tryz.prog C0 W0 31 [v] (H++L)=some (cloneV 8 rows.length v (H.length+L.length),H++(L++cloneL 80 v rows.flatten)):=by
 rcases h.old with ⟨rfl,rfl⟩ | ⟨i,k,c,e,rfl,_,_⟩
 · clear hg hr
   obtain ⟨tm,ht,g0,g1⟩:=tm1 (.nilSlice) 8 (by decide)
   rw [fe31,ht]
   simp -implicitDefEqProofs only [c31,Tryz.f31,aP,g0,g1,↓nil64n,↓evDn,evUp,eu,sevalprocAttr]
   simp only [cloneV,cloneL,List.append_nil]
 · obtain ⟨tm,ht,g0,g1⟩:=tm1 (.slice i k 8 rows.length c e) 8 (by decide)
   rw [fe31,ht]
   have he:=clone_app at64c (by decide) h hr (by simp) hg L
   simp -implicitDefEqProofs only [c31,Tryz.f31,aP,g0,g1,↓nil64e,bs64e,↓callA_append,he,↓evDn,evUp,eu,sevalprocAttr]
theorem at32c:AppT Tryz.prog 32 (some 32) 21 1:=⟨by kernel_rfl,⟨(zeroA Tryz.prog 21).getD uA,by kernel_rfl,by kernel_rfl,by (have h:((zeroA Tryz.prog 21).getD uA).cells.length=1:=by kernel_rfl); intro e; rw [e] at h; cases h⟩,by kernel_rfl,by kernel_rfl⟩
theorem bs32e' (H:AH):buildSliceA Tryz.prog none 32 0 [] H=some (.slice H.length 0 1 0 0 true,H++[.cells [] 21]):=by kernel_rfl
theorem bs32e (H L:AH):buildSliceA Tryz.prog none 32 0 [] (H++L)=some (.slice (H.length+L.length) 0 1 0 0 true,H++(L++[.cells [] 21])):=by rw [bs32e',List.length_append,List.append_assoc]
theorem nil32e (H:AH) (i k e l c:Nat) (x:Bool) (fb:Option AV):binV .eql 32 (.slice i k e l c x) .nilSlice H fb=some (.bool false):=by
 have h:eqA Tryz.prog 32 H (.slice i k e l c x) .nilSlice=some false:=by kernel_rfl
 unfold binV; simp only [h]; try rfl
theorem nil32n (H:AH) (fb:Option AV):binV .eql 32 .nilSlice .nilSlice H fb=some (.bool true):=by
 have h:eqA Tryz.prog 32 H .nilSlice .nilSlice=some true:=by kernel_rfl
 unfold binV; simp only [h]
theorem ev32 {H:AH} {v:AV} {rows:List (List AV)} (h:SlS 32 1 H v rows) (hr:∀ r∈rows,r.length=1) (hg:growOk (Tryz.prog.bytesOf 21) rows.length=true) (L:AH):Ev Tryz.prog C0 W0 32 [v] (H++L)=some (cloneV 1 rows.length v (H.length+L.length),H++(L++cloneL 21 v rows.flatten)):=by
 rcases h.old with ⟨rfl,rfl⟩ | ⟨i,k,c,e,rfl,_,_⟩
 · clear hg hr
   obtain ⟨tm,ht,g0,g1⟩:=tm1 (.nilSlice) 8 (by decide)
   rw [fe32,ht]
   simp -implicitDefEqProofs only [c32,Tryz.f32,aP,g0,g1,↓nil32n,↓evDn,evUp,eu,sevalprocAttr]
   simp only [cloneV,cloneL,List.append_nil]
 · obtain ⟨tm,ht,g0,g1⟩:=tm1 (.slice i k 1 rows.length c e) 8 (by decide)
   rw [fe32,ht]
   have he:=clone_app at32c (by decide) h hr (by simp) hg L
   simp -implicitDefEqProofs only [c32,Tryz.f32,aP,g0,g1,↓nil32e,bs32e,↓callA_append,he,↓evDn,evUp,eu,sevalprocAttr]
theorem at31c:AppT Tryz.prog 31 (some 31) 34 9:=⟨by kernel_rfl,⟨(zeroA Tryz.prog 34).getD uA,by kernel_rfl,by kernel_rfl,by (have h:((zeroA Tryz.prog 34).getD uA).cells.length=9:=by kernel_rfl); intro e; rw [e] at h; cases h⟩,by kernel_rfl,by kernel_rfl⟩
theorem bs31e' (H:AH):buildSliceA Tryz.prog none 31 0 [] H=some (.slice H.length 0 9 0 0 true,H++[.cells [] 34]):=by kernel_rfl
theorem bs31e (H L:AH):buildSliceA Tryz.prog none 31 0 [] (H++L)=some (.slice (H.length+L.length) 0 9 0 0 true,H++(L++[.cells [] 34])):=by rw [bs31e',List.length_append,List.append_assoc]
theorem nil31e (H:AH) (i k e l c:Nat) (x:Bool) (fb:Option AV):binV .eql 31 (.slice i k e l c x) .nilSlice H fb=some (.bool false):=by
 have h:eqA Tryz.prog 31 H (.slice i k e l c x) .nilSlice=some false:=by kernel_rfl
 unfold binV; simp only [h]; try rfl
theorem nil31n (H:AH) (fb:Option AV):binV .eql 31 .nilSlice .nilSlice H fb=some (.bool true):=by
 have h:eqA Tryz.prog 31 H .nilSlice .nilSlice=some true:=by kernel_rfl
 unfold binV; simp only [h]
theorem ev46 {H:AH} {v:AV} {rows:List (List AV)} (h:SlS 31 9 H v rows) (hr:∀ r∈rows,r.length=9) (hg:growOk (Tryz.prog.bytesOf 34) rows.length=true) (L:AH):Ev Tryz.prog C0 W0 46 [v] (H++L)=some (cloneV 9 rows.length v (H.length+L.length),H++(L++cloneL 34 v rows.flatten)):=by
 rcases h.old with ⟨rfl,rfl⟩ | ⟨i,k,c,e,rfl,_,_⟩
 · clear hg hr
   obtain ⟨tm,ht,g0,g1⟩:=tm1 (.nilSlice) 8 (by decide)
   rw [fe46,ht]
   simp -implicitDefEqProofs only [c46,Tryz.f46,aP,g0,g1,↓nil31n,↓evDn,evUp,eu,sevalprocAttr]
   simp only [cloneV,cloneL,List.append_nil]
 · obtain ⟨tm,ht,g0,g1⟩:=tm1 (.slice i k 9 rows.length c e) 8 (by decide)
   rw [fe46,ht]
   have he:=clone_app at31c (by decide) h hr (by simp) hg L
   simp -implicitDefEqProofs only [c46,Tryz.f46,aP,g0,g1,↓nil31e,bs31e,↓callA_append,he,↓evDn,evUp,eu,sevalprocAttr]
theorem cp_loop {HK HK':Nat->AH} {n N:Nat} {vm:AV} {w w':Nat->AV} (hix:∀ j,j < n->∃ i k,(∀ kk,indexAddrA Tryz.prog 24 vm (.int kk (j:Int))=some (.ptr i k))/\rdCells (HK j) i k 1=some [w j])
   (h32:∀ j,j < n->Ev Tryz.prog C0 W0 32 [w j] (HK j)=some (w' j,HK' j)) (hc:∀ j,j < n->(w' j).cells=[w' j]) (hwr:∀ j,j < n->wrCells (HK' j) N j [w' j]=some (HK (j+1))) (hn:n < 2 ^ 60) :
   ∀ (d j:Nat) (tm:List AV),n - j=d->j<=n->tm.length=23->tm.getD 3 uA=.slice N 0 1 n n true->tm.getD 9 uA=vm->tm.getD 10 uA=I n->tm.getD 11 uA=I (j:Int) ->
   ∃ X,EvC Tryz.prog C0 W0 plN l28_0 (tm,HK j)=some (.exit 0,(X,HK n))/\X.length=23/\X.getD 3 uA=.slice N 0 1 n n true:=by
 intro d
 induction d with
 | zero =>
   intro j tm hd hj hlen h3 h9 h10 h11
   have hjl:j=n:=by omega
   subst hjl
   have hlt:ltB (j:Int) (j:Nat)=false:=ltB_f (by omega)
   rw [el28_0]
   simp -implicitDefEqProofs only [b28_0,Tryz.f28,aP,hlen,h3,h9,h10,h11,hlt,↓evDn,evUp,eu,sevalprocAttr]
   exact ⟨_,rfl,by first | exact hlen | simp only [List.length_set,hlen],by first | exact h3 | simp only [hlen,h3,gB,sevalprocAttr]⟩
 | succ d ih =>
   intro j tm hd hj hlen h3 h9 h10 h11
   have hjn:j < n:=by omega
   have hlt:ltB (j:Int) (n:Nat)=true:=ltB_t (by omega)
   have hw:=inc_i (j:=j) (by omega)
   obtain ⟨i,k,hi,hr⟩:=hix j hjn
   have h1:=h32 j hjn
   have h2:=hc j hjn
   have h4:=hwr j hjn
   have hia:∀ kk,indexAddrA Tryz.prog 24 (.slice N 0 1 n n true) (.int kk (j:Int))=some (.ptr N j):=fun kk=>by
     rw [ia24,if_pos ⟨by omega,by omega,rfl⟩,Int.toNat_natCast,Nat.mul_one,Nat.zero_add]
   rw [el28_0]
   simp -implicitDefEqProofs only [b28_0,Tryz.f28,aP,hlen,h3,h9,h10,h11,hlt,hw,hi,hr,↓fc32,h1,↓h2,h4,hia,st32,r5,↓evLd,↓evDn,evUp,eu,sevalprocAttr]
   generalize hX:EvC Tryz.prog C0 W0 _ _ _=Z
   have key:∀ (tm1:List AV),EvC Tryz.prog C0 W0 plN l28_0 (tm1,HK (j+1))=Z->tm1.length=23->tm1.getD 3 uA=.slice N 0 1 n n true->tm1.getD 9 uA=vm->tm1.getD 10 uA=I n->tm1.getD 11 uA=I ((j+1:Nat):Int)->∃ X,Z=some (.exit 0,(X,HK n))/\X.length=23/\X.getD 3 uA=.slice N 0 1 n n true:=by
     intro tm1 h hl1 h3 h9 h10 h11
     obtain ⟨X,he,hr⟩:=ih (j+1) tm1 (by omega) (by omega) hl1 h3 h9 h10 h11
     exact ⟨X,h.symm.trans he,hr⟩
   exact key _ hX (by simp only [ls,hlen]) (by simp only [hlen,h3,gB,sevalprocAttr]) (by simp only [hlen,h9,gB,sevalprocAttr]) (by simp only [hlen,h10,gB,sevalprocAttr]) (by simp only [hlen,h11,gB,sevalprocAttr])
theorem zrow1 (z:AV) (n:Nat):zrow [z] n=List.replicate n z:=by
 unfold zrow
 refine List.ext_getElem (by simp) fun i h1 h2=>?_
 simp [Nat.mod_one]
def memStep (N:Nat) (p:List AV × AH) (b:List Int × AV):List AV × AH:=(p.1++[cloneV 1 b.1.length b.2 (N+1+p.2.length)],p.2++cloneL 21 b.2 (b.1.map fun x=>.int .i32 x))
def memW (N:Nat) (l:List (List Int × AV)):List AV × AH:=l.foldl (memStep N) ([],[])
theorem memW_snoc (N:Nat) (l:List (List Int × AV)) (b:List Int × AV):memW N (l++[b])=memStep N (memW N l) b:=by
 unfold memW; rw [List.foldl_append]; rfl
theorem memW_len (N:Nat) (l:List (List Int × AV)):(memW N l).1.length=l.length:=by
 have key:∀ (l:List (List Int × AV)) (p:List AV × AH),(l.foldl (memStep N) p).1.length=p.1.length+l.length:=by
   intro l
   induction l with
   | nil=>intro p; rfl
   | cons b l ih=>intro p; rw [List.foldl_cons,ih]; simp [memStep]; omega
 unfold memW
 rw [key]; simp
theorem wr_obj {K:AH} {b:Nat} {cs:List AV} {e:TypeId} (h:K[b]? =some (.cells cs e)) {k:Nat} {x:AV} (hk:k < cs.length) (hx:x.one=true):wrCells K b k [x]=some (K.set b (.cells (cs.set k x) e)):=by
 unfold wrCells
 rw [h]
 simp only
 rw [if_pos ⟨by simp; omega,by simp [hx]⟩]; rfl
theorem ms24 (n:Nat) (hn:n<=1000) (H:AH):makeSliceA Tryz.prog none 24 (I n) (I n) H=some (.slice H.length 0 1 n n true,H++[.cells (List.replicate n .nilSlice) 32]):=by
 have hz:zeroA Tryz.prog 32=some .nilSlice:=by kernel_rfl
 have hs:sliceElem Tryz.prog 24=some 32:=by kernel_rfl
 have hb:Tryz.prog.bytesOf 32=24:=by kernel_rfl
 have hc:Tryz.prog.cellsOf 32=1:=by kernel_rfl
 unfold makeSliceA
 simp only [hs,hz,Option.bind_some]
 rw [if_pos ⟨by omega,by omega,by omega,by rw [hb]; omega,by simp [AV.cells]⟩]
 rw [hc,Nat.mul_one,Int.toNat_natCast]
 show Option.map _ (put none H (.cells (zrow [.nilSlice] n) 32))=_
 rw [zrow1]; rfl
theorem by21:Tryz.prog.bytesOf 21=4:=by kernel_rfl
theorem grow21 {n:Nat} (h:n<=1000):growOk (Tryz.prog.bytesOf 21) n=true:=by
 rw [by21]; unfold growOk; rw [Bool.and_eq_true,decide_eq_true_iff,decide_eq_true_iff]; constructor <;> omega
theorem row1_flat (l:List Int):(l.map row1).flatten=l.map fun x=>AV.int .i32 x:=flat1 _ l
theorem row1_len (l:List Int):∀ r∈l.map row1,r.length=1:=by
 intro r hr
 obtain ⟨n,_,rfl⟩:=List.mem_map.1 hr
 rfl
theorem ev32i {H:AH} {v:AV} {b:List Int} (h:SlS 32 1 H v (b.map row1)) (hb:b.length<=1000) (L:AH):Ev Tryz.prog C0 W0 32 [v] (H++L)=some (cloneV 1 b.length v (H.length+L.length),H++(L++cloneL 21 v (b.map fun x=>.int .i32 x))):=by
 have:=ev32 h (row1_len b) (by rw [List.length_map]; exact grow21 hb) L
 rwa [List.length_map,row1_flat] at this
theorem ev28 {H:AH} {l:List (List Int × AV)} {vm:AV} (hs:SlS 24 1 H vm (l.map fun p=>[p.2])) (hp:∀ p∈l,SlS 32 1 H p.2 (p.1.map row1)) (hn:l.length<=100) (hb:∀ p∈l,p.1.length<=1000) (L:AH) :
   Ev Tryz.prog C0 W0 28 [vm] (H++L)=some (.slice (H.length+L.length) 0 1 l.length l.length true,H++(L++(.cells (memW (H.length+L.length) l).1 32::(memW (H.length+L.length) l).2))):=by
 have hlen0:∀ G,lenA Tryz.prog 24 G vm=some (I l.length):=fun G=>by have:=hs.len G; rwa [List.length_map] at this
 have hvc:=hs.cells
 have hvo:=hs.one
 have hms:=ms24 l.length (by omega) (H++L)
 generalize hN:H.length+L.length=N
 rw [List.length_append,hN] at hms
 let HK:Nat->AH:=fun j=>H++(L++(.cells ((memW N (l.take j)).1++List.replicate (l.length - j) .nilSlice) 32::(memW N (l.take j)).2))
 let w:Nat->AV:=fun j=>(l.getD j ([],uA)).2
 let bb:Nat->List Int:=fun j=>(l.getD j ([],uA)).1
 let w':Nat->AV:=fun j=>cloneV 1 (bb j).length (w j) (N+1+(memW N (l.take j)).2.length)
 let HK':Nat->AH:=fun j=>H++(L++(.cells ((memW N (l.take j)).1++List.replicate (l.length - j) .nilSlice) 32::((memW N (l.take j)).2++cloneL 21 (w j) ((bb j).map fun x=>.int .i32 x))))
 have hl:∀ j (hj:j < l.length),l.getD j ([],uA)=l[j]:=fun j hj=>by rw [gde,List.getElem?_eq_getElem hj]; rfl
 have hix:∀ j,j < l.length->∃ i k,(∀ kk,indexAddrA Tryz.prog 24 vm (.int kk (j:Int))=some (.ptr i k))/\rdCells (HK j) i k 1=some [w j]:=fun j hj=>by
   obtain ⟨i,k,h1,h2⟩:=hs.ix j [w j] (by rw [List.getElem?_map,List.getElem?_eq_getElem hj]; show some [(l[j]).2]=some [(l.getD j ([],uA)).2]; rw [hl j hj])
   exact ⟨i,k,h1,rd_same (Agree.app H _) h2⟩
 have h32:∀ j,j < l.length->Ev Tryz.prog C0 W0 32 [w j] (HK j)=some (w' j,HK' j):=fun j hj=>by
   have hmem:l.getD j ([],uA)∈l:=by rw [hl j hj]; exact List.getElem_mem _
   have:=ev32i (hp _ hmem) (hb _ hmem) (L++(.cells ((memW N (l.take j)).1++List.replicate (l.length - j) .nilSlice) 32::(memW N (l.take j)).2))
   rw [List.length_append,List.length_cons,<-Nat.add_assoc,hN,Nat.add_comm (memW N (l.take j)).2.length 1,<-Nat.add_assoc,List.append_assoc,List.cons_append] at this
   exact this
 have hc:∀ j,j < l.length->(w' j).cells=[w' j]:=fun j _=>(cloneV_cells _ _ _ _).1
 have hwr:∀ j,j < l.length->wrCells (HK' j) N j [w' j]=some (HK (j+1)):=fun j hj=>by
   have hml:(memW N (l.take j)).1.length=j:=by rw [memW_len,List.length_take,Nat.min_eq_left (Nat.le_of_lt hj)]
   have hg:(HK' j)[N]? =some (.cells ((memW N (l.take j)).1++List.replicate (l.length - j) .nilSlice) 32):=by
     show (H++(L++_))[N]? =_
     rw [<-hN,List.getElem?_append_right (Nat.le_add_right _ _),Nat.add_sub_cancel_left,List.getElem?_append_right (Nat.le_refl _),Nat.sub_self]; rfl
   rw [wr_obj hg (by rw [List.length_append,hml,List.length_replicate]; omega) (cloneV_cells _ _ _ _).2]
   congr 1
   have ht:l.take (j+1)=l.take j++[l.getD j ([],uA)]:=by rw [List.take_add_one,List.getElem?_eq_getElem hj,hl j hj]; rfl
   show (H++(L++_)).set N _=H++(L++_)
   rw [<-hN,List.set_append_right _ _ (Nat.le_add_right _ _),Nat.add_sub_cancel_left,List.set_append_right _ _ (Nat.le_refl _),Nat.sub_self,List.set_cons_zero]
   rw [hN,ht,memW_snoc]
   show H++(L++_)=H++(L++(AObj.cells ((_++[_])++_) 32::(_++_)))
   congr 3
   rw [List.set_append_right _ _ (by rw [hml]; exact Nat.le_refl _),hml,Nat.sub_self,show l.length - j=(l.length - (j+1))+1 by omega,List.replicate_succ,List.set_cons_zero,List.append_assoc]; rfl
 have hloop:=cp_loop (N:=N) hix h32 hc hwr (by omega) l.length 0
 have hK0:HK 0=H++(L++[.cells (List.replicate l.length .nilSlice) 32]):=by
   show H++(L++(.cells ((memW N (l.take 0)).1++_) 32::(memW N (l.take 0)).2))=_
   rw [List.take_zero]; rfl
 have hKn:HK l.length=H++(L++(.cells (memW N l).1 32::(memW N l).2)):=by
   show H++(L++(.cells ((memW N (l.take l.length)).1++List.replicate (l.length - l.length) _) 32::(memW N (l.take l.length)).2))=_
   rw [List.take_length,Nat.sub_self,List.replicate_zero,List.append_nil]
 rw [<-hKn]
 rw [hK0] at hloop
 rw [List.append_assoc] at hms
 clear_value HK HK' w w'
 generalize H++L=HL at *
 obtain ⟨tm,ht,g0,g1⟩:=tm1 vm 23 (by decide)
 rw [fe28,ht]
 generalize H++(L++[.cells (List.replicate l.length .nilSlice) 32])=H1 at *
 simp -implicitDefEqProofs only [c28,Tryz.f28,aP,g0,g1,hlen0,↓aop_makeSlice,hms,r5,↓evLd,↓evDn,evUp,eu,sevalprocAttr]
 generalize hX:EvC Tryz.prog C0 W0 _ (Code.loop _) _=Z
 obtain ⟨X,he,x0,x3⟩:∃ X,Z=some (.exit 0,(X,HK l.length))/\X.length=23/\X.getD 3 uA=.slice N 0 1 l.length l.length true:=by
   rw [<-hX]
   refine hloop _ (by omega) (by omega) ?_ ?_ ?_ ?_ ?_
   · simp only [List.length_set,g0]
   · simp only [g0,gB,sevalprocAttr]
   · simp only [g0,g1,gB,sevalprocAttr]
   · simp only [g0,gB,sevalprocAttr]
   · simp only [g0,gB,sevalprocAttr]; try rfl
 subst he
 simp -implicitDefEqProofs only [x0,x3,↓evDn,evUp,eu,sevalprocAttr]
end Go.Dv
