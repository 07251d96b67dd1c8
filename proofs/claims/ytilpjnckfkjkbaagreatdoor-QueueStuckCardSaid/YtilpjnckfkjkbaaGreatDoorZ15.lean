/- Part 15 of the walks (own work). -/
import Derived.Test.YtilpjnckfkjkbaaGreatDoorZ14
set_option maxRecDepth 100000
set_option maxHeartbeats 4000000
set_option linter.unusedSimpArgs false
set_option linter.unusedVariables false
namespace Go.Dv.Qu
inductive TG {α:Type} (R:α->α->Prop):α->α->Prop
 | one {a b:α}:R a b->TG R a b
 | step {a b c:α}:R a b->TG R b c->TG R a c
theorem TG.trans {α:Type} {R:α->α->Prop} {a b c:α} (h:TG R a b) (k:TG R b c):TG R a c:=by
 induction h with
 | one h=>exact .step h k
 | step h _ ih=>exact .step h (ih k)
theorem TG.mono {α:Type} {R Q:α->α->Prop} (h:∀ a b,R a b->TG Q a b) {a b:α} (k:TG R a b):TG Q a b:=by
 induction k with
 | one k=>exact h _ _ k
 | step k _ ih=>exact (h _ _ k).trans ih
theorem TG.map {α β:Type} {R:α->α->Prop} {Q:β->β->Prop} (f:α->β) (h:∀ a b,R a b->Q (f a) (f b)) {a b:α} (k:TG R a b):TG Q (f a) (f b):=by
 induction k with
 | one k=>exact .one (h _ _ k)
 | step k _ ih=>exact .step (h _ _ k) ih
abbrev Place:=Nat × Nat
def at? (S:Streams) (p:Place):Option Item:=item? S p.1 p.2
def places (S:Streams):List Place:=(List.range S.length).flatMap fun s=>(List.range (S.getD s []).length).map fun k=>(s,k)
def isRec (S:Streams) (e:Int) (p:Place):Prop:=∃ x,at? S p=some x/\x.kind=3/\x.event=e
def RW (S:Streams) (p q:Place):Prop:=∃ x y,at? S p=some x/\at? S q=some y/\x.kind=3/\y.kind=4/\x.event=y.event/\∀ r,isRec S x.event r->r=p
def Edge (S:Streams) (p q:Place):Prop:=((∃ x y,at? S p=some x/\at? S q=some y)/\p.1=q.1/\q.2=p.2+1)∨RW S p q
def Base (S:Streams) (p q:Place):Prop:=((∃ x y,at? S p=some x/\at? S q=some y)/\p.1=q.1/\p.2 < q.2)∨RW S p q
def Before (S:Streams):Place->Place->Prop:=TG (Edge S)
theorem at_lt {S:Streams} {p:Place} {x:Item} (h:at? S p=some x):p.1 < S.length/\p.2 < (S.getD p.1 []).length:=item_lt h
theorem base_edge {S:Streams} {p q:Place} (h:Base S p q):TG (Edge S) p q:=by
 rcases h with ⟨⟨x,y,hx,hy⟩,e,hlt⟩ | h
 · obtain ⟨s,j⟩:=p
   obtain ⟨t,k⟩:=q
   simp only at e hlt
   subst e
   have hk:=(at_lt hy).2
   simp only at hk
   have key:∀ d j,k - j=d+1->TG (Edge S) (s,j) (s,k):=by
     intro d
     induction d with
     | zero =>
       intro j hd
       obtain ⟨z,hz⟩:=item_of (S:=S) (s:=s) (k:=j) (by omega)
       exact .one (.inl ⟨⟨z,y,hz,hy⟩,rfl,by simp only; omega⟩)
     | succ d ih =>
       intro j hd
       obtain ⟨z,hz⟩:=item_of (S:=S) (s:=s) (k:=j) (by omega)
       obtain ⟨z',hz'⟩:=item_of (S:=S) (s:=s) (k:=j+1) (by omega)
       exact .step (b:=(s,j+1)) (.inl ⟨⟨z,z',hz,hz'⟩,rfl,rfl⟩) (ih (j+1) (by omega))
   exact key (k - j - 1) j (by omega)
 · exact .one (.inr h)
theorem edge_base {S:Streams} {p q:Place} (h:Edge S p q):Base S p q:=by
 rcases h with ⟨h,e,e2⟩ | h
 · exact .inl ⟨h,e,by omega⟩
 · exact .inr h
theorem before_base {S:Streams} {p q:Place}:Before S p q↔TG (Base S) p q:=
 ⟨fun h=>h.mono fun _ _ h=>.one (edge_base h),fun h=>h.mono fun _ _ h=>base_edge h⟩
theorem edge_at {S:Streams} {p q:Place} (h:Edge S p q):(∃ x,at? S p=some x)/\∃ y,at? S q=some y:=by
 rcases h with ⟨⟨x,y,hx,hy⟩,_⟩ | ⟨x,y,hx,hy,_⟩ <;> exact ⟨⟨x,hx⟩,⟨y,hy⟩⟩
theorem before_at {S:Streams} {p q:Place} (h:Before S p q):(∃ x,at? S p=some x)/\∃ y,at? S q=some y:=by
 unfold Before at h
 induction h with
 | one h=>exact edge_at h
 | step h _ ih=>exact ⟨(edge_at h).1,ih.2⟩
def off (S:Streams) (s:Nat):Nat:=((S.take s).map List.length).sum
theorem off_succ {S:Streams} {s:Nat} (h:s < S.length):off S (s+1)=off S s+(S.getD s []).length:=by
 unfold off
 rw [List.take_add_one,List.getElem?_eq_getElem h,List.map_append,List.sum_append,gde,List.getElem?_eq_getElem h]
 simp
theorem off_cons (l:List Item) (S:Streams) (s:Nat):off (l::S) (s+1)=l.length+off S s:=by simp [off]
theorem flat_at:∀ (S:Streams) (s k:Nat) (x:Item),item? S s k=some x->S.flatten[off S s+k]? =some x
 | [],s,k,x,h=>by simp [item?] at h
 | l::S,0,k,x,h=>by
   simp only [item?,List.getElem?_cons_zero,Option.bind_some] at h
   have:k < l.length:=by
     rcases Nat.lt_or_ge k l.length with h' | h'
     · exact h'
     · rw [List.getElem?_eq_none h'] at h; cases h
   simp only [off,List.take_zero,List.map_nil,List.sum_nil,List.flatten_cons,Nat.zero_add]
   rw [List.getElem?_append_left this]; exact h
 | l::S,s+1,k,x,h=>by
   have h':item? S s k=some x:=by simpa [item?] using h
   have:=flat_at S s k x h'
   rw [off_cons,List.flatten_cons,List.getElem?_append_right (by omega)]
   rw [<-this]; congr 1; omega
theorem flat_len (S:Streams):S.flatten.length=off S S.length:=by simp [off,List.length_flatten]
theorem flat_back:∀ (S:Streams) (n:Nat),n < S.flatten.length->∃ s k x,item? S s k=some x/\n=off S s+k
 | [],n,h=>by simp at h
 | l::S,n,h=>by
   rw [List.flatten_cons,List.length_append] at h
   rcases Nat.lt_or_ge n l.length with h' | h'
   · exact ⟨0,n,l[n],by simp [item?,List.getElem?_eq_getElem h'],by simp [off]⟩
   · obtain ⟨s,k,x,hx,e⟩:=flat_back S (n - l.length) (by omega)
     exact ⟨s+1,k,x,by simpa [item?] using hx,by rw [off_cons]; omega⟩
theorem off_mono {S:Streams} {s t:Nat} (h:s<=t):off S s<=off S t:=by
 induction h with
 | refl=>exact Nat.le_refl _
 | @step t _ ih =>
   rcases Nat.lt_or_ge t S.length with hl | hl
   · rw [off_succ hl]; omega
   · unfold off at *
     rw [List.take_of_length_le (l:=S) (i:=t+1) (by omega)]
     rw [List.take_of_length_le (l:=S) (i:=t) (by omega)] at ih
     exact ih
theorem off_inj {S:Streams} {s t j k:Nat} {x y:Item} (h:item? S s j=some x) (h':item? S t k=some y) (e:off S s+j=off S t+k):s=t/\j=k:=by
 have h1:=item_lt h
 have h2:=item_lt h'
 have a1:=off_succ h1.1
 have a2:=off_succ h2.1
 rcases Nat.lt_trichotomy s t with c | c | c
 · have:=off_mono (S:=S) (show s+1<=t from c); omega
 · subst c; exact ⟨rfl,by omega⟩
 · have:=off_mono (S:=S) (show t+1<=s from c); omega
theorem places_get {S:Streams} {s k:Nat} {x:Item} (h:item? S s k=some x):(places S)[off S s+k]? =some (s,k):=by
 have hb:=item_lt h
 have key:∀ n,n<=S.length->((List.range n).flatMap fun s=>(List.range (S.getD s []).length).map fun k=>(s,k)).length=off S n:=by
   intro n
   induction n with
   | zero=>intro _; simp [off]
   | succ n ih =>
     intro hn
     rw [List.range_succ,List.flatMap_append,List.length_append,ih (by omega),off_succ (by omega)]
     simp
 have e:places S=((List.range s).flatMap fun s=>(List.range (S.getD s []).length).map fun k=>(s,k))++(((List.range (S.getD s []).length).map fun k=>(s,k))++((List.range' (s+1) (S.length - (s+1))).flatMap fun s=>(List.range (S.getD s []).length).map fun k=>(s,k))):=by
   unfold places
   rw [show List.range S.length=List.range s++([s]++List.range' (s+1) (S.length - (s+1))) by
     rw [List.range_eq_range',List.range_eq_range',show [s]=List.range' s 1 from rfl,List.range'_append_1]
     have:=List.range'_append_1 (s:=0) (m:=s) (n:=1+(S.length - (s+1)))
     rw [Nat.zero_add] at this
     rw [this]; congr 1; omega]
   simp only [List.flatMap_append,List.flatMap_cons,List.flatMap_nil,List.append_nil]
 rw [e,List.getElem?_append_right (by rw [key s (by omega)]; omega),key s (by omega),Nat.add_sub_cancel_left,List.getElem?_append_left (by simpa using hb.2)]
 rw [List.getElem?_map,List.getElem?_range hb.2]; rfl
theorem places_len (S:Streams):(places S).length=S.flatten.length:=by
 rw [flat_len]
 have key:∀ n,n<=S.length->((List.range n).flatMap fun s=>(List.range (S.getD s []).length).map fun k=>(s,k)).length=off S n:=by
   intro n
   induction n with
   | zero=>intro _; simp [off]
   | succ n ih =>
     intro hn
     rw [List.range_succ,List.flatMap_append,List.length_append,ih (by omega),off_succ (by omega)]
     simp
 exact key _ (Nat.le_refl _)
theorem flat_spec {S:Streams} {n:Nat} (h:n < S.flatten.length):∃ p x,(places S)[n]? =some p/\at? S p=some x/\S.flatten[n]? =some x/\n=off S p.1+p.2:=by
 obtain ⟨s,k,x,hx,e⟩:=flat_back S n h
 exact ⟨(s,k),x,by rw [e]; exact places_get hx,hx,by rw [e]; exact flat_at S s k x hx,e⟩
end Go.Dv.Qu
namespace Go.Dv.Qu
def wn (M:Nat->Nat->Bool):Nat->Nat->Nat->Bool
 | 0,i,k=>M i k
 | j+1,i,k=>wn M j i k || (wn M j i j && wn M j j k)
theorem wn_mono {M:Nat->Nat->Bool} {j i k:Nat} (h:wn M j i k=true):wn M (j+1) i k=true:=by simp [wn,h]
theorem wn_monos {M:Nat->Nat->Bool} {J i k:Nat} (h:M i k=true):wn M J i k=true:=by
 induction J with
 | zero=>exact h
 | succ J ih=>exact wn_mono ih
theorem wn_sound {M:Nat->Nat->Bool} {N:Nat}:∀ (J:Nat),J<=N->∀ i k,i < N->k < N->wn M J i k=true->TG (fun a b=>a < N/\b < N/\M a b=true) i k
 | 0,_,i,k,hi,hk,h=>.one ⟨hi,hk,h⟩
 | J+1,hJ,i,k,hi,hk,h=>by
   simp only [wn,Bool.or_eq_true,Bool.and_eq_true] at h
   rcases h with h | ⟨h1,h2⟩
   · exact wn_sound J (by omega) i k hi hk h
   · exact (wn_sound J (by omega) i J hi (by omega) h1).trans (wn_sound J (by omega) J k (by omega) hk h2)
theorem wn_closed {M:Nat->Nat->Bool}:∀ (J:Nat),∀ j,j < J->∀ i k,wn M J i j=true->wn M J j k=true->wn M J i k=true
 | 0,j,hj,_,_,_,_=>by omega
 | J+1,j,hj,i,k,h1,h2=>by
   have ih:=wn_closed (M:=M) J
   simp only [wn,Bool.or_eq_true,Bool.and_eq_true] at h1 h2 ⊢
   by_cases e:j=J
   · subst e
     rcases h1 with h1 | ⟨h1,_⟩ <;> rcases h2 with h2 | ⟨_,h2⟩ <;> exact .inr ⟨h1,h2⟩
   · have hjJ:j < J:=by omega
     rcases h1 with h1 | ⟨h1,h1'⟩ <;> rcases h2 with h2 | ⟨h2,h2'⟩
     · exact .inl (ih j hjJ i k h1 h2)
     · exact .inr ⟨ih j hjJ i J h1 h2,h2'⟩
     · exact .inr ⟨h1,ih j hjJ J k h1' h2⟩
     · exact .inr ⟨h1,h2'⟩
theorem wn_spec {M:Nat->Nat->Bool} {N i k:Nat} (hi:i < N) (hk:k < N):wn M N i k=true↔TG (fun a b=>a < N/\b < N/\M a b=true) i k:=by
 refine ⟨wn_sound N (Nat.le_refl N) i k hi hk,fun h=>?_⟩
 clear hi hk
 induction h with
 | one h=>exact wn_monos h.2.2
 | step h _ ih=>exact wn_closed N _ h.2.1 _ _ (wn_monos h.2.2) ih
theorem nodup_le:∀ (N:Nat) (l:List Nat),l.Nodup->(∀ x∈l,x < N)->l.length<=N
 | 0,l,_,h=>by
   cases l with
   | nil=>simp
   | cons x l=>have:=h x (by simp); omega
 | N+1,l,hn,h=>by
   have h1:=nodup_le N (l.erase N) (hn.erase N) fun x hx=>by
     have h2:=h x (List.mem_of_mem_erase hx)
     have:x≠N:=fun e=>by subst e; exact (hn.mem_erase_iff.1 hx).1 rfl
     omega
   have:=List.length_erase (a:=N) (l:=l)
   split at this <;> omega
def rl (M:Nat->Nat->Bool) (o:List Nat) (k i:Nat):List Nat:=if M i k then o.set k (max (o.getD k 0) (o.getD i 0+1)) else o
section
variable {M:Nat->Nat->Bool} {N:Nat} {w:Nat->Nat}
end
section
variable {A:List (List Nat)} {N:Nat}
def EA (A:List (List Nat)) (x y:Nat):Prop:=y∈A.getD x []
def rem (A:List (List Nat)) (N:Nat) (D:List Nat) (y:Nat):Nat:=(((List.range N).filter fun x=>!D.contains x).map fun x=>(A.getD x []).count y).sum
end
structure RI (A:List (List Nat)) (N n:Nat) (seen todo:List Nat) (x q:Nat):Prop where
 s1:∀ y∈seen,TG (EA A) n y
 s2:∀ t∈todo,t=n∨t∈seen
 s3:∀ z,(z=n∨z∈seen)->z∉todo->∀ y∈(if z=x then (A.getD z []).take q else A.getD z []),y∈seen
 sn:seen.Nodup
 sN:∀ y∈seen,y < N
 sx:x=n∨x∈seen
structure RO (A:List (List Nat)) (N n:Nat) (seen todo:List Nat):Prop where
 s1:∀ y∈seen,TG (EA A) n y
 s2:∀ t∈todo,t=n∨t∈seen
 s3:∀ z,(z=n∨z∈seen)->z∉todo->∀ y∈A.getD z [],y∈seen
 sn:seen.Nodup
 sN:∀ y∈seen,y < N
theorem RO.init (A:List (List Nat)) (N n:Nat):RO A N n [] [n]:=
 ⟨by simp,by simp,fun z h h'=>by simp at h h'; exact absurd h h',by simp,by simp⟩
theorem RO.pop {A:List (List Nat)} {N n x:Nat} {seen todo:List Nat} (h:RO A N n seen (x::todo)):RI A N n seen todo x 0:=
 ⟨h.s1,fun t ht=>h.s2 t (List.mem_cons_of_mem _ ht),fun z hz hz' y hy=>by
   split at hy
   · simp at hy
   · rename_i e
     exact h.s3 z hz (by simp [e,hz']) y hy,h.sn,h.sN,h.s2 x (by simp)⟩
theorem RI.step {A:List (List Nat)} {N n x q y:Nat} {seen todo:List Nat} (h:RI A N n seen todo x q) (hA:∀ l∈A,∀ y∈l,y < N) (hy:(A.getD x [])[q]? =some y) :
   (y∈seen->RI A N n seen todo x (q+1))/\(y∉seen->RI A N n (seen++[y]) (todo++[y]) x (q+1)):=by
 have hmem:y∈A.getD x []:=List.mem_of_getElem? hy
 have hyN:y < N:=by
   rw [gde] at hmem
   cases hx:A[x]? with
   | none=>rw [hx] at hmem; simp at hmem
   | some l=>rw [hx] at hmem; exact hA l (List.mem_of_getElem? hx) y hmem
 have htk:(A.getD x []).take (q+1)=(A.getD x []).take q++[y]:=by rw [List.take_add_one,hy]; rfl
 constructor
 · intro hs
   refine ⟨h.s1,h.s2,fun z hz hz' v hv=>?_,h.sn,h.sN,h.sx⟩
   by_cases e:z=x
   · subst e
     rw [if_pos rfl,htk,List.mem_append,List.mem_singleton] at hv
     rcases hv with hv | rfl
     · exact h.s3 z hz hz' v (by rw [if_pos rfl]; exact hv)
     · exact hs
   · rw [if_neg e] at hv
     exact h.s3 z hz hz' v (by rw [if_neg e]; exact hv)
 · intro hs
   refine ⟨fun v hv=>?_,fun t ht=>?_,fun z hz hz' v hv=>?_,List.nodup_append.2 ⟨h.sn,by simp,fun a ha b hb e=>?_⟩,fun v hv=>?_,h.sx.imp id fun h=>List.mem_append_left _ h⟩
   · rw [List.mem_append,List.mem_singleton] at hv
     rcases hv with hv | rfl
     · exact h.s1 v hv
     · rcases h.sx with e | hx
       · rw [e] at hmem; exact .one hmem
       · exact (h.s1 x hx).trans (.one hmem)
   · rw [List.mem_append,List.mem_singleton] at ht ⊢
     rcases ht with ht | rfl
     · exact (h.s2 t ht).imp id .inl
     · exact .inr (.inr rfl)
   · rw [List.mem_append,not_or,List.mem_singleton] at hz'
     rw [List.mem_append,List.mem_singleton] at hz ⊢
     have hz2:z=n∨z∈seen:=by
       rcases hz with hz | hz | hz
       · exact .inl hz
       · exact .inr hz
       · exact absurd hz hz'.2
     by_cases e:z=x
     · subst e
       rw [if_pos rfl,htk,List.mem_append,List.mem_singleton] at hv
       exact hv.imp (fun hv=>h.s3 z hz2 hz'.1 v (by rw [if_pos rfl]; exact hv)) id
     · rw [if_neg e] at hv
       exact .inl (h.s3 z hz2 hz'.1 v (by rw [if_neg e]; exact hv))
   · rw [List.mem_singleton] at hb
     subst hb; subst e; exact hs ha
   · rw [List.mem_append,List.mem_singleton] at hv
     rcases hv with hv | rfl
     · exact h.sN v hv
     · exact hyN
theorem RI.out {A:List (List Nat)} {N n x q:Nat} {seen todo:List Nat} (h:RI A N n seen todo x q) (hq:(A.getD x []).length<=q):RO A N n seen todo:=
 ⟨h.s1,h.s2,fun z hz hz' y hy=>h.s3 z hz hz' y (by
   split
   · rename_i e; subst e; rw [List.take_of_length_le hq]; exact hy
   · exact hy),h.sn,h.sN⟩
theorem RO.fin {A:List (List Nat)} {N n:Nat} {seen:List Nat} (h:RO A N n seen []) (y:Nat):y∈seen↔TG (EA A) n y:=by
 refine ⟨h.s1 y,fun k=>?_⟩
 have:∀ a b,TG (EA A) a b->(a=n∨a∈seen)->b∈seen:=by
   intro a b k
   induction k with
   | one e=>intro ha; exact h.s3 _ ha (by simp) _ e
   | step e _ ih=>intro ha; exact ih (.inr (h.s3 _ ha (by simp) _ e))
 exact this n y k (.inl rfl)
theorem RI.le {A:List (List Nat)} {N n x q:Nat} {seen todo:List Nat} (h:RI A N n seen todo x q):seen.length<=N:=nodup_le N seen h.sn h.sN
end Go.Dv.Qu
namespace Go.Dv.Qu
def isRecB (x:Item) (e:Int):Bool:=x.kind == 3 && x.event == e
def recs (S:Streams) (e:Int):List Nat:=(List.range S.flatten.length).filter fun n=>((S.flatten[n]?).map fun x=>isRecB x e).getD false
def nxt (S:Streams) (n:Nat):List Nat:=match (places S)[n]? with
 | some p=>if p.2+1 < (S.getD p.1 []).length then [n+1] else []
 | none=>[]
def waits (S:Streams) (n m:Nat):Bool:=match S.flatten[m]? with
 | some y=>y.kind == 4 && recs S y.event == [n]
 | none=>false
def aftTo (S:Streams) (m n:Nat):List Nat:=nxt S n++(List.range m).filter (waits S n)
def aft (S:Streams):List (List Nat):=(List.range S.flatten.length).map (aftTo S S.flatten.length)
def baseB (S:Streams) (i k:Nat):Bool:=match (places S)[i]?,(places S)[k]?,S.flatten[i]?,S.flatten[k]? with
 | some p,some q,some x,some y=>(p.1 == q.1 && decide (p.2 < q.2)) || (x.kind == 3 && y.kind == 4 && x.event == y.event && (recs S x.event).length == 1)
 | _,_,_,_=>false
def bef (S:Streams) (i k:Nat):Bool:=wn (baseB S) S.flatten.length i k
def num (S:Streams) (p:Place):Nat:=off S p.1+p.2
theorem num_places {S:Streams} {p:Place} {x:Item} (h:at? S p=some x):(places S)[num S p]? =some p:=places_get h
theorem num_flat {S:Streams} {p:Place} {x:Item} (h:at? S p=some x):S.flatten[num S p]? =some x:=flat_at S p.1 p.2 x h
theorem num_lt {S:Streams} {p:Place} {x:Item} (h:at? S p=some x):num S p < S.flatten.length:=by
 have:=num_flat h
 rcases Nat.lt_or_ge (num S p) S.flatten.length with c | c
 · exact c
 · rw [List.getElem?_eq_none c] at this; cases this
theorem num_inj {S:Streams} {p q:Place} {x y:Item} (h:at? S p=some x) (h':at? S q=some y) (e:num S p=num S q):p=q:=by
 obtain ⟨a,b⟩:=off_inj h h' e
 exact Prod.ext a b
theorem mem_recs {S:Streams} {e:Int} {n:Nat}:n∈recs S e↔∃ p,isRec S e p/\num S p=n:=by
 unfold recs
 rw [List.mem_filter,List.mem_range]
 constructor
 · rintro ⟨hn,h⟩
   obtain ⟨p,x,hp,hx,hf,e2⟩:=flat_spec hn
   rw [hf] at h
   simp only [Option.map_some,Option.getD_some,isRecB,Bool.and_eq_true,beq_iff_eq] at h
   exact ⟨p,⟨x,hx,h.1,h.2⟩,e2.symm⟩
 · rintro ⟨p,⟨x,hx,h3,he⟩,rfl⟩
   refine ⟨num_lt hx,?_⟩
   rw [num_flat hx]
   simp [isRecB,h3,he]
theorem recs_nodup (S:Streams) (e:Int):(recs S e).Nodup:=List.nodup_range.sublist List.filter_sublist
theorem one_of {l:List Nat} {n:Nat} (hn:l.Nodup) (hm:n∈l) (h:∀ r∈l,r=n):l=[n]:=by
 cases l with
 | nil=>simp at hm
 | cons a l =>
   have ha:=h a (by simp)
   subst ha
   cases l with
   | nil=>rfl
   | cons b l =>
     have hb:=h b (by simp)
     subst hb
     simp at hn
theorem recs_one {S:Streams} {p:Place} {x:Item} (h:at? S p=some x) (h3:x.kind=3):recs S x.event=[num S p]↔∀ r,isRec S x.event r->r=p:=by
 constructor
 · intro e r hr
   have:num S r∈recs S x.event:=mem_recs.2 ⟨r,hr,rfl⟩
   rw [e,List.mem_singleton] at this
   obtain ⟨y,hy,_⟩:=hr
   exact num_inj hy h this
 · intro hu
   refine one_of (recs_nodup S _) (mem_recs.2 ⟨p,⟨x,h,h3,rfl⟩,rfl⟩) fun r hr=>?_
   obtain ⟨q,hq,rfl⟩:=mem_recs.1 hr
   rw [hu q hq]
theorem aft_edge {S:Streams} {n m:Nat}:EA (aft S) n m↔∃ p q,Edge S p q/\num S p=n/\num S q=m:=by
 unfold EA aft
 rw [gde,List.getElem?_map]
 rcases Nat.lt_or_ge n S.flatten.length with hn | hn
 · rw [List.getElem?_range hn]
   simp only [Option.map_some,Option.getD_some,aftTo,List.mem_append,List.mem_filter,List.mem_range]
   obtain ⟨p,x,hp,hx,hf,e⟩:=flat_spec hn
   constructor
   · rintro (h | ⟨hm,h⟩)
     · unfold nxt at h
       rw [hp] at h
       simp only at h
       split at h
       · rename_i hlt
         rw [List.mem_singleton] at h
         obtain ⟨z,hz⟩:=item_of hlt
         exact ⟨p,(p.1,p.2+1),.inl ⟨⟨x,z,hx,hz⟩,rfl,rfl⟩,e.symm,by rw [h,e]; simp only [num]; omega⟩
       · simp at h
     · obtain ⟨q,y,hq,hy,hf',e'⟩:=flat_spec hm
       unfold waits at h
       rw [hf'] at h
       simp only [Bool.and_eq_true,beq_iff_eq] at h
       have hmem:n∈recs S y.event:=by rw [h.2]; simp
       obtain ⟨r,hr,hrn⟩:=mem_recs.1 hmem
       obtain ⟨z,hz,h3,he⟩:=hr
       have hrp:r=p:=num_inj hz hx (by rw [hrn,e]; rfl)
       subst hrp
       rw [hx] at hz; cases hz
       refine ⟨r,q,.inr ⟨x,y,hx,hy,h3,h.1,he,?_⟩,hrn,e'.symm⟩
       have:=h.2
       rw [<-he,<-hrn] at this
       exact (recs_one hx h3).1 this
   · rintro ⟨p',q,he,hpn,hqm⟩
     rcases he with ⟨⟨x',y,hx',hy⟩,e1,e2⟩ | ⟨x',y,hx',hy,h3,h4,he,hu⟩
     · have:p'=p:=num_inj hx' hx (by rw [hpn,e]; rfl)
       subst this
       left
       unfold nxt
       rw [hp]
       have:=(at_lt hy).2
       rw [<-e1,e2] at this
       simp only
       rw [if_pos this,List.mem_singleton,<-hqm,e]
       simp only [num,<-e1,e2]; omega
     · have:p'=p:=num_inj hx' hx (by rw [hpn,e]; rfl)
       subst this
       right
       refine ⟨by rw [<-hqm]; exact num_lt hy,?_⟩
       unfold waits
       rw [<-hqm,num_flat hy]
       simp only [Bool.and_eq_true,beq_iff_eq]
       refine ⟨h4,?_⟩
       rw [<-he,(recs_one hx' h3).2 hu,hpn]
 · rw [List.getElem?_eq_none (by simpa using hn)]
   simp only [Option.map_none,Option.getD_none,List.not_mem_nil,false_iff]
   rintro ⟨p,q,he,hpn,_⟩
   obtain ⟨x,hx⟩:=(edge_at he).1
   have:=num_lt hx
   omega
theorem aft_lt {S:Streams}:∀ l∈aft S,∀ y∈l,y < S.flatten.length:=by
 intro l hl y hy
 obtain ⟨n,hn⟩:=List.getElem?_of_mem hl
 have:EA (aft S) n y:=by unfold EA; rw [gde,hn]; exact hy
 obtain ⟨p,q,he,_,hq⟩:=aft_edge.1 this
 obtain ⟨z,hz⟩:=(edge_at he).2
 rw [<-hq]; exact num_lt hz
theorem aft_len (S:Streams):(aft S).length=S.flatten.length:=by simp [aft]
theorem aft_before {S:Streams} {n m:Nat}:TG (EA (aft S)) n m↔∃ p q,Before S p q/\num S p=n/\num S q=m:=by
 constructor
 · intro h
   induction h with
   | one h =>
     obtain ⟨p,q,he,a,b⟩:=aft_edge.1 h
     exact ⟨p,q,.one he,a,b⟩
   | step h _ ih =>
     obtain ⟨p,q,he,a,b⟩:=aft_edge.1 h
     obtain ⟨p',q',he',a',b'⟩:=ih
     obtain ⟨x,hx⟩:=(before_at he').1
     obtain ⟨y,hy⟩:=(edge_at he).2
     have:p'=q:=num_inj hx hy (a'.trans b.symm)
     subst this
     exact ⟨p,q',.step he he',a,b'⟩
 · rintro ⟨p,q,h,rfl,rfl⟩
   exact TG.map (num S) (fun a b e=>aft_edge.2 ⟨a,b,e,rfl,rfl⟩) h
theorem base_spec {S:Streams} {i k:Nat}:baseB S i k=true↔∃ p q,Base S p q/\num S p=i/\num S q=k:=by
 unfold baseB
 constructor
 · intro h
   split at h
   · rename_i p q x y hp hq hx hy
     have hi:i < S.flatten.length:=by
       rcases Nat.lt_or_ge i S.flatten.length with c | c
       · exact c
       · rw [List.getElem?_eq_none c] at hx; cases hx
     have hk:k < S.flatten.length:=by
       rcases Nat.lt_or_ge k S.flatten.length with c | c
       · exact c
       · rw [List.getElem?_eq_none c] at hy; cases hy
     obtain ⟨p',x',hp',hx',hf,e⟩:=flat_spec hi
     obtain ⟨q',y',hq',hy',hf',e'⟩:=flat_spec hk
     rw [hp] at hp'; cases hp'
     rw [hq] at hq'; cases hq'
     rw [hx] at hf; cases hf
     rw [hy] at hf'; cases hf'
     simp only [Bool.or_eq_true,Bool.and_eq_true,beq_iff_eq,decide_eq_true_eq] at h
     refine ⟨p,q,?_,e.symm,e'.symm⟩
     rcases h with ⟨a,b⟩ | ⟨⟨⟨a,b⟩,c⟩,d⟩
     · exact .inl ⟨⟨x,y,hx',hy'⟩,a,b⟩
     · refine .inr ⟨x,y,hx',hy',a,b,c,(recs_one hx' a).1 ?_⟩
       have hm:num S p∈recs S x.event:=mem_recs.2 ⟨p,⟨x,hx',a,rfl⟩,rfl⟩
       rw [List.length_eq_one_iff] at d
       obtain ⟨r,hr⟩:=d
       rw [hr,List.mem_singleton] at hm
       rw [hr,hm]
   · cases h
 · rintro ⟨p,q,h,rfl,rfl⟩
   rcases h with ⟨⟨x,y,hx,hy⟩,a,b⟩ | ⟨x,y,hx,hy,h3,h4,he,hu⟩
   · rw [num_places hx,num_places hy,num_flat hx,num_flat hy]
     simp [a,b]
   · rw [num_places hx,num_places hy,num_flat hx,num_flat hy]
     simp [h3,h4,he]
     right
     rw [<-he,(recs_one hx h3).2 hu]; rfl
theorem bef_before {S:Streams} {i k:Nat} (hi:i < S.flatten.length) (hk:k < S.flatten.length):bef S i k=true↔∃ p q,Before S p q/\num S p=i/\num S q=k:=by
 unfold bef
 rw [wn_spec hi hk]
 constructor
 · intro h
   have key:∀ a b,TG (fun a b=>a < S.flatten.length/\b < S.flatten.length/\baseB S a b=true) a b->∃ p q,TG (Base S) p q/\num S p=a/\num S q=b:=by
     intro a b h
     induction h with
     | one h =>
       obtain ⟨p,q,he,a,b⟩:=base_spec.1 h.2.2
       exact ⟨p,q,.one he,a,b⟩
     | step h _ ih =>
       obtain ⟨p,q,he,a,b⟩:=base_spec.1 h.2.2
       obtain ⟨p',q',he',a',b'⟩:=ih
       obtain ⟨x,hx⟩:=(before_at (before_base.2 he')).1
       obtain ⟨y,hy⟩:=(before_at (before_base.2 (.one he))).2
       have:p'=q:=num_inj hx hy (a'.trans b.symm)
       subst this
       exact ⟨p,q',.step he he',a,b'⟩
   obtain ⟨p,q,h,a,b⟩:=key i k h
   exact ⟨p,q,before_base.2 h,a,b⟩
 · rintro ⟨p,q,h,rfl,rfl⟩
   have h:=before_base.1 h
   have key:∀ a b,TG (Base S) a b->TG (fun a b=>a < S.flatten.length/\b < S.flatten.length/\baseB S a b=true) (num S a) (num S b):=by
     intro a b h
     refine TG.map (num S) (fun a b h=>?_) h
     obtain ⟨⟨x,hx⟩,⟨y,hy⟩⟩:=before_at (before_base.2 (.one h))
     exact ⟨num_lt hx,num_lt hy,base_spec.2 ⟨a,b,h,rfl,rfl⟩⟩
   exact key p q h
theorem reach_bef {S:Streams} {i k:Nat} (hi:i < S.flatten.length) (hk:k < S.flatten.length):TG (EA (aft S)) i k↔bef S i k=true:=by
 rw [aft_before,bef_before hi hk]
end Go.Dv.Qu
namespace Go.Dv.Qu
def doI (m:List (List Int)) (x:Item):List (List Int):=
 if x.kind=1 then m.set x.dst.toNat (m.getD x.frm.toNat [])
 else if x.kind=2 then m.set x.dst.toNat (List.replicate (m.getD x.dst.toNat []).length x.word) else m
inductive RT (S:Streams):List Nat->(Int->Bool)->List Place->Prop
 | init:RT S (List.replicate S.length 0) (fun _=>false) []
 | step {a:List Nat} {R:Int->Bool} {L:List Place} {s:Nat} {x:Item}:RT S a R L->s∈ready S a R->item? S s (a.getD s 0)=some x->RT S (a.set s (a.getD s 0+1)) (recd R x) (L++[(s,a.getD s 0)])
theorem RT.reach {S:Streams} {a:List Nat} {R:Int->Bool} {L:List Place} (h:RT S a R L):Reach S a R:=by
 induction h with
 | init=>exact .init
 | step _ hs hx ih=>exact .step ih hs hx
def doP (S:Streams) (m:List (List Int)) (p:Place):List (List Int):=doI m ((at? S p).getD default)
end Go.Dv.Qu
namespace Go.Dv
open Go.Proofs
attribute [local congr] bind_congr_first cb_congr condA_congr gd_congr br_congr
def qi (x:Itm):Qu.Item:=⟨x.kind,x.code,x.grid,x.block,x.src,x.dst,x.ev,x.args,x.word⟩
def qS (ss:List (List Itm)):Qu.Streams:=ss.map (·.map qi)
def rF (rc:List Bool):Int->Bool:=fun e=>decide (0<=e) && rc.getD e.toNat false
theorem qS_len (ss:List (List Itm)):(qS ss).length=ss.length:=by unfold qS; rw [List.length_map]
theorem strAt_lt {ss:List (List Itm)} {s:Nat} (h:s < ss.length):ss[s]? =some (strAt ss s):=by
 unfold strAt; rw [gde,List.getElem?_eq_getElem h]; rfl
theorem strAt_ge {ss:List (List Itm)} {s:Nat} (h:ss.length<=s):strAt ss s=[]:=by
 unfold strAt; rw [gde,List.getElem?_eq_none h]; rfl
theorem itmAt_lt {xs:List Itm} {k:Nat} (h:k < xs.length):xs[k]? =some (itmAt xs k):=by
 unfold itmAt; rw [gde,List.getElem?_eq_getElem h]; rfl
theorem qS_getD (ss:List (List Itm)) (s:Nat):(qS ss).getD s []=(strAt ss s).map qi:=by
 unfold qS
 rw [gde,List.getElem?_map]
 rcases Nat.lt_or_ge s ss.length with h | h
 · rw [strAt_lt h]; rfl
 · rw [List.getElem?_eq_none h,strAt_ge h]; rfl
theorem item_qS {ss:List (List Itm)} {s k:Nat} (h:k < (strAt ss s).length):Qu.item? (qS ss) s k=some (qi (itmAt (strAt ss s) k)):=by
 have hs:s < ss.length:=by
   rcases Nat.lt_or_ge s ss.length with c | c
   · exact c
   · rw [strAt_ge c] at h; simp at h
 unfold Qu.item? qS
 rw [List.getElem?_map,strAt_lt hs,Option.map_some,Option.bind_some,List.getElem?_map,itmAt_lt h]; rfl
theorem item_qS_none {ss:List (List Itm)} {s k:Nat} (h:(strAt ss s).length<=k):Qu.item? (qS ss) s k=none:=by
 unfold Qu.item? qS
 rw [List.getElem?_map]
 rcases Nat.lt_or_ge s ss.length with c | c
 · rw [strAt_lt c,Option.map_some,Option.bind_some,List.getElem?_map,List.getElem?_eq_none h]; rfl
 · rw [List.getElem?_eq_none c]; rfl
def EvOk (ss:List (List Itm)):Prop:=∀ l∈ss,∀ x∈l,(x.kind=3∨x.kind=4)->0<=x.ev/\x.ev < 16
theorem strAt_mem {ss:List (List Itm)} {s:Nat} (h:s < ss.length):strAt ss s∈ss:=List.mem_of_getElem? (strAt_lt h)
theorem itmAt_mem {xs:List Itm} {k:Nat} (h:k < xs.length):itmAt xs k∈xs:=List.mem_of_getElem? (itmAt_lt h)
theorem EvOk.at {ss:List (List Itm)} (h:EvOk ss) {s k:Nat} (hk:k < (strAt ss s).length) (hx:(itmAt (strAt ss s) k).kind=3∨(itmAt (strAt ss s) k).kind=4):0<=(itmAt (strAt ss s) k).ev/\(itmAt (strAt ss s) k).ev < 16:=by
 have hs:s < ss.length:=by
   rcases Nat.lt_or_ge s ss.length with c | c
   · exact c
   · rw [strAt_ge c] at hk; simp at hk
 exact h _ (strAt_mem hs) _ (itmAt_mem hk) hx
theorem okAt_eq {ss:List (List Itm)} (hev:EvOk ss) (ad:List Nat) (rc:List Bool) (s:Nat):Qu.okAt (qS ss) ad (rF rc) s=okS ss ad rc s:=by
 unfold Qu.okAt okS
 rcases Nat.lt_or_ge (ad.getD s 0) (strAt ss s).length with c | c
 · rw [item_qS c,ltB_t (by omega),Bool.true_and]
   show ((itmAt (strAt ss s) (ad.getD s 0)).kind != 4 || rF rc (itmAt (strAt ss s) (ad.getD s 0)).ev)=_
   unfold eqB
   cases hk:((itmAt (strAt ss s) (ad.getD s 0)).kind == 4) with
   | false=>rw [bne,hk]; rfl
   | true =>
     have h4:(itmAt (strAt ss s) (ad.getD s 0)).kind=4:=by simpa using hk
     have:=hev.at c (.inr h4)
     simp only [bne,hk,Bool.not_true,Bool.false_or,rF]
     rw [decide_eq_true this.1,Bool.true_and]
 · rw [item_qS_none c,ltB_f (by omega),Bool.false_and]
theorem ready_eq {ss:List (List Itm)} (hev:EvOk ss) (ad:List Nat) (rc:List Bool):Qu.ready (qS ss) ad (rF rc)=readyS ss ad rc ss.length:=by
 unfold Qu.ready readyS
 rw [qS_len,show Qu.okAt (qS ss) ad (rF rc)=okS ss ad rc from funext fun s=>okAt_eq hev ad rc s]
def doM (m:List (List Int)) (x:Itm):List (List Int):=
 if x.kind=1 then m.set x.dst.toNat (bufOf m x.src.toNat)
 else if x.kind=2 then m.set x.dst.toNat (List.replicate (bufOf m x.dst.toNat).length x.word) else m
def doR (rc:List Bool) (x:Itm):List Bool:=if x.kind=3 then rc.set x.ev.toNat true else rc
def doA (ad:List Nat) (s:Nat):List Nat:=ad.set s (ad.getD s 0+1)
theorem doR_eq {rc:List Bool} (hl:rc.length=16) {x:Itm} (hx:x.kind=3->0<=x.ev/\x.ev < 16):rF (doR rc x)=Qu.recd (rF rc) (qi x):=by
 unfold doR Qu.recd
 show _=if x.kind=3 then (fun e=>rF rc e || e == x.ev) else rF rc
 by_cases h:x.kind=3
 · rw [if_pos h,if_pos h]
   obtain ⟨h0,h1⟩:=hx h
   funext e
   unfold rF
   rw [Bool.eq_iff_iff]
   simp only [Bool.and_eq_true,Bool.or_eq_true,decide_eq_true_iff,beq_iff_eq,gde,List.getElem?_set]
   by_cases he:x.ev.toNat=e.toNat
   · rw [if_pos he,if_pos (by omega)]
     simp only [Option.getD_some,and_true]
     constructor
     · intro h; exact .inr (by omega)
     · rintro (⟨h,_⟩ | h) <;> omega
   · rw [if_neg he]
     constructor
     · intro h; exact .inl h
     · rintro (h | h)
       · exact h
       · exact absurd (by rw [h]) he
 · rw [if_neg h,if_neg h]
theorem rF_init:rF (List.replicate 16 false)=fun _=>false:=by
 funext e
 unfold rF
 rw [gde,List.getElem?_replicate]
 by_cases h:e.toNat < 16
 · rw [if_pos h]; simp
 · rw [if_neg h]; simp
theorem readyS_mem {ss:List (List Itm)} {ad:List Nat} {rc:List Bool} {n s:Nat} (h:s∈readyS ss ad rc n):s < n/\okS ss ad rc s=true:=by
 unfold readyS at h
 rw [List.mem_filter,List.mem_range] at h; exact h
theorem okS_lt {ss:List (List Itm)} {ad:List Nat} {rc:List Bool} {s:Nat} (h:okS ss ad rc s=true):ad.getD s 0 < (strAt ss s).length:=by
 unfold okS at h
 rw [Bool.and_eq_true,ltB_iff] at h
 exact Int.ofNat_lt.1 h.1
theorem rt_step {ss:List (List Itm)} (hev:EvOk ss) {ad:List Nat} {rc:List Bool} {L:List Qu.Place} (hl:rc.length=16) (h:Qu.RT (qS ss) ad (rF rc) L) {s:Nat} (hs:s∈readyS ss ad rc ss.length) :
   Qu.RT (qS ss) (doA ad s) (rF (doR rc (itmAt (strAt ss s) (ad.getD s 0)))) (L++[(s,ad.getD s 0)]):=by
 have hk:=okS_lt (readyS_mem hs).2
 rw [doR_eq hl fun h3=>hev.at hk (.inl h3)]
 exact .step h (by rw [ready_eq hev]; exact hs) (item_qS hk)
end Go.Dv
