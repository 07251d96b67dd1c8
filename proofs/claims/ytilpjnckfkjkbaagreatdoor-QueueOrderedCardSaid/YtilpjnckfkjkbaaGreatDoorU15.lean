/- Part 15 of the walks (own work). -/
import Derived.Test.YtilpjnckfkjkbaaGreatDoorU12
open Bool renaming and_eq_true→az,or_eq_true→ic
open List renaming count_cons_self→D9,filter_congr→Jf,filter_cons_of_neg→kn,filter_cons_of_pos→km,flatMap_append→r8,flatten_cons→fF,getElem?_append_left→ar,getElem?_append_right→al,getElem?_eq_getElem→aj,getElem?_eq_none→aE,getElem?_map→aO,getElem?_replicate→kL,getElem?_set→cV,length_append→ai,length_cons→cR,mem_append→cA,mem_cons→bW,mem_cons_of_mem→jy,mem_filter→fm,mem_map→bI,mem_of_getElem?→jw,mem_range→eX,mem_singleton→bJ,nodup_append→Jd,nodup_cons→xq,range→bp,range'→xp,range'_append_1→D7,range_eq_range'→D6,range_succ→jf,replicate→au,sum_cons→AF,take_add_one→ez,take_of_length_le→bt
open Nat renaming le_refl→aw,le_trans→bh,lt_or_ge→bc,max_eq_left→O5,zero_add→cZ
open Option renaming bind_eq_some_iff→ae,bind_some→ax,getD_some→fE,toList_some→rH
open Option.some renaming inj→aB
set_option maxRecDepth 100000
set_option maxHeartbeats 4000000
set_option linter.unusedSimpArgs false
set_option linter.unusedVariables false
namespace Go.Dv.Qu
structure Item where
 kind:Int
 code:Int
 grid:Int
 block:Int
 frm:Int
 dst:Int
 event:Int
 args:List Int
 word:Int
 deriving DecidableEq,Inhabited
abbrev aW:=List (List Item)
def di (S:aW) (s k:Nat):Option Item:=(S[s]?).bind (·[k]?)
inductive kj (S:aW):Nat->Nat->Prop
 | free (s k:Nat) (x:Item):di S s k=some x->(∀ j,j < k->kj S s j)->x.kind≠4->kj S s k
 | wait (s k:Nat) (x:Item) (t i:Nat) (y:Item):di S s k=some x->(∀ j,j < k->kj S s j)->di S t i=some y->y.kind=3->y.event=x.event->kj S t i->kj S s k
theorem kj.mk {S:aW} (s k:Nat) (x:Item) (h:di S s k=some x) (hj:∀ j,j < k->kj S s j)
   (hw:x.kind=4->∃ t j y,di S t j=some y/\y.kind=3/\y.event=x.event/\kj S t j):kj S s k:=by
 by_cases e:x.kind=4
 · obtain ⟨t,i,y,h1,h2,h3,h4⟩:=hw e;exact .wait s k x t i y h hj h1 h2 h3 h4
 · exact .free s k x h hj e
theorem kj.ind {S:aW} {P:Nat->Nat->Prop} (step:∀ s k x,di S s k=some x->(∀ j,j < k->kj S s j)->(x.kind=4->∃ t j y,di S t j=some y/\y.kind=3/\y.event=x.event/\kj S t j) ->
     (∀ j,j < k->P s j)->(x.kind=4->∃ t j y,di S t j=some y/\y.kind=3/\y.event=x.event/\P t j)->P s k) {s k:Nat} (h:kj S s k):P s k:=by
 induction h with
 | free s k x h hj hn ih=>exact step s k x h hj (fun e=>absurd e hn) ih fun e=>absurd e hn
 | wait s k x t i y h hj h1 h2 h3 h4 ih ih2=>exact step s k x h hj (fun _=>⟨t,i,y,h1,h2,h3,h4⟩) ih fun _=>⟨t,i,y,h1,h2,h3,ih2⟩
def ja (S:aW):Prop:=∀ s k x,di S s k=some x->kj S s k
def Lq (S:aW) (a:List Nat) (R:Int->Bool) (s:Nat):Bool:=match di S s (a.getD s 0) with
 | some x=>x.kind != 4 || R x.event
 | none=>false
def ready (S:aW) (a:List Nat) (R:Int->Bool):List Nat:=(bp S.length).filter (Lq S a R)
def Cc (R:Int->Bool) (x:Item):Int->Bool:=if x.kind=3 then fun e=>R e || e == x.event else R
inductive Reach (S:aW):List Nat->(Int->Bool)->Prop
 | init:Reach S (au S.length 0) (fun _=>false)
 | step {a:List Nat} {R:Int->Bool} {s:Nat} {x:Item}:Reach S a R->s∈ready S a R->di S s (a.getD s 0)=some x->Reach S (a.set s (a.getD s 0+1)) (Cc R x)
theorem jN {S:aW} {s k:Nat} {x:Item} (h:di S s k=some x):s < S.length/\k < (S.getD s []).length:=by
 unfold di at h;rcases bc s S.length with hs | hs
 · rw [aj hs] at h;simp only [ax] at h;refine ⟨hs,?_⟩;rw [gde,aj hs,fE];rcases bc k S[s].length with hk | hk
   · exact hk
   · rw [aE hk] at h; cases h
 · rw [aE hs] at h; cases h
theorem tE {S:aW} {s k:Nat} (h:k < (S.getD s []).length):∃ x,di S s k=some x:=by
 unfold di;rcases bc s S.length with hs | hs
 · rw [gde,aj hs,fE] at h;rw [aj hs];exact ⟨_,aj h⟩
 · rw [gde,aE hs] at h; simp at h
theorem mem_ready {S:aW} {a:List Nat} {R:Int->Bool} {s:Nat}:s∈ready S a R↔∃ x,di S s (a.getD s 0)=some x/\(x.kind=4->R x.event=true):=by
 unfold ready Lq;rw [fm,eX];constructor
 · rintro ⟨_,h⟩;split at h
   · rename_i x hx;refine ⟨x,hx,fun e=>?_⟩;simpa [e] using h
   · cases h
 · rintro ⟨x,hx,h⟩;refine ⟨(jN hx).1,?_⟩;rw [hx];by_cases e:x.kind=4 <;> simp [e];exact h e
theorem Reach.length {S:aW} {a:List Nat} {R:Int->Bool} (h:Reach S a R):a.length=S.length:=by
 induction h with
 | init=>simp
 | step _ _ _ ih=>simp [ih]
theorem ov {a:List Nat} {s t n:Nat} (h:s < a.length):(a.set s n).getD t 0=if t=s then n else a.getD t 0:=by
 rw [gde,gde,cV];by_cases e:s=t
 · subst e; simp [h]
 · simp [e,Ne.symm e]
theorem Reach.inv {S:aW} {a:List Nat} {R:Int->Bool} (h:Reach S a R) :
   (∀ s,a.getD s 0<=(S.getD s []).length)/\(∀ s k,k < a.getD s 0->kj S s k) /\
   (∀ e,R e=true↔∃ s k x,k < a.getD s 0/\di S s k=some x/\x.kind=3/\x.event=e):=by
 induction h with
 | init =>
   have h0:∀ s,(au S.length 0).getD s 0=0:=fun s=>by rw [gde,kL]; split <;> rfl
   refine ⟨fun s=>by rw [h0]; omega,fun s k hk=>by rw [h0] at hk; omega,fun e=>⟨fun h=>by simp at h,?_⟩⟩;rintro ⟨s,k,x,hk,_⟩;rw [h0] at hk; omega
 | @step a R s x hr hs hx ih =>
   obtain ⟨i1,i2,i3⟩:=ih;have hsl:s < a.length:=by rw [hr.length]; exact (jN hx).1
   have hk:=(jN hx).2;obtain ⟨y,hy,hw⟩:=mem_ready.1 hs;rw [hx] at hy; cases hy;have hex:kj S s (a.getD s 0):=.mk s _ x hx (fun j hj=>i2 s j hj) fun h4=>by obtain ⟨t,j,y,hj,hy,h3,he⟩:=(i3 x.event).1 (hw h4);exact ⟨t,j,y,hy,h3,he,i2 t j hj⟩
   refine ⟨fun t=>?_,fun t k htk=>?_,fun e=>?_⟩
   · rw [ov hsl]; split
     · rename_i e; subst e; omega
     · exact i1 t
   · rw [ov hsl] at htk;split at htk
     · rename_i e; subst e;rcases bc k (a.getD t 0) with h | h
       · exact i2 t k h
       · have:k=a.getD t 0:=by omega
         subst this; exact hex
     · exact i2 t k htk
   · have key:Cc R x e=true↔R e=true∨(x.kind=3/\x.event=e):=by
       unfold Cc
       by_cases h3:x.kind=3
       · rw [if_pos h3,ic,beq_iff_eq]
         exact ⟨fun h=>h.imp id fun h=>⟨h3,h.symm⟩,fun h=>h.imp id fun h=>h.2.symm⟩
       · rw [if_neg h3]
         exact ⟨.inl,fun h=>h.elim id fun h=>absurd h.1 h3⟩
     rw [key,i3]
     constructor
     · rintro (⟨t,k,y,hk',hy,h3,he⟩ | ⟨h3,he⟩)
       · refine ⟨t,k,y,?_,hy,h3,he⟩
         rw [ov hsl]; split
         · rename_i e'; subst e'; omega
         · exact hk'
       · refine ⟨s,_,x,?_,hx,h3,he⟩
         rw [ov hsl,if_pos rfl]; omega
     · rintro ⟨t,k,y,hk',hy,h3,he⟩
       rw [ov hsl] at hk'
       split at hk'
       · rename_i e'; subst e'
         rcases bc k (a.getD t 0) with h | h
         · exact .inl ⟨t,k,y,h,hy,h3,he⟩
         · have:k=a.getD t 0:=by omega
           subst this
           rw [hx] at hy; cases hy
           exact .inr ⟨h3,he⟩
       · exact .inl ⟨t,k,y,hk',hy,h3,he⟩
theorem Reach.done {S:aW} {a:List Nat} {R:Int->Bool} (h:Reach S a R) (h0:ready S a R=[]):∀ {s k},kj S s k->k < a.getD s 0:=by
 obtain ⟨i1,i2,i3⟩:=h.inv;intro s k he;refine kj.ind (P:=fun s k=>k < a.getD s 0) ?_ he;intro s k x hx hj hw ih1 ih2
 · rcases bc k (a.getD s 0) with h | h
   · exact h
   · exfalso;have hk:a.getD s 0=k:=by
       rcases bc (a.getD s 0) k with h' | h'
       · exact absurd (ih1 _ h') (by omega)
       · omega
     have:s∈ready S a R:=mem_ready.2 ⟨x,by rw [hk]; exact hx,fun h4=>by obtain ⟨t,j,y,hy,h3,hev,_⟩:=hw h4;obtain ⟨t',j',y',hy',h3',hev',hlt⟩:=ih2 h4;exact (i3 _).2 ⟨t',j',y',hlt,hy',h3',hev'⟩⟩;rw [h0] at this; simp at this
def left (S:aW) (a:List Nat):List Nat:=(bp S.length).map fun s=>(S.getD s []).length - a.getD s 0
theorem uY {S:aW} {a:List Nat}:(left S a).sum=0↔∀ s k x,di S s k=some x->k < a.getD s 0:=by
 have hz:(left S a).sum=0↔∀ n∈left S a,n=0:=by
   generalize left S a=l;induction l with
   | nil=>simp
   | cons n l ih=>simp only [AF,bW,forall_eq_or_imp]; rw [<-ih]; omega
 rw [hz];constructor
 · intro hh s k x hx;have:=hh ((S.getD s []).length - a.getD s 0) (bI.2 ⟨s,eX.2 (jN hx).1,rfl⟩);have:=(jN hx).2;omega
 · intro hh n hn;obtain ⟨s,_,rfl⟩:=bI.1 hn;rcases bc (a.getD s 0) (S.getD s []).length with h' | h'
   · obtain ⟨x,hx⟩:=tE h';exact absurd (hh s _ x hx) (by omega)
   · omega
theorem LI {S:aW} {a:List Nat} {R:Int->Bool} (h:Reach S a R) (h0:ready S a R=[]):(left S a).sum=0↔ja S:=by rw [uY];exact ⟨fun hh s k x hx=>h.inv.2.1 s k (hh s k x hx),fun hh s k x hx=>h.done h0 (hh s k x hx)⟩
def kept (p:Item->Bool) (l:List Item) (k:Nat):Nat:=((l.take k).filter p).length
theorem kU (p:Item->Bool):∀ (l:List Item) (k:Nat) (x:Item),l[k]? =some x->p x=true->(l.filter p)[kept p l k]? =some x
 | [],k,x,h,_=>by simp at h
 | y::l,0,x,h,hp=>by simp at h; subst h; simp [kept,hp]
 | y::l,k+1,x,h,hp=>by
   have:=kU p l k x (by simpa using h) hp
   unfold kept at this ⊢
   by_cases hy:p y <;> simp [hy,this]
theorem lH (p:Item->Bool):∀ (l:List Item) (j:Nat) (x:Item),(l.filter p)[j]? =some x->∃ k,l[k]? =some x/\p x=true/\kept p l k=j
 | [],j,x,h=>by simp at h
 | y::l,j,x,h=>by
   by_cases hy:p y=true
   · rw [km hy] at h
     cases j with
     | zero=>simp at h; subst h; exact ⟨0,by simp,hy,by simp [kept]⟩
     | succ j =>
       obtain ⟨k,hk,hp,e⟩:=lH p l j x (by simpa using h)
       exact ⟨k+1,by simpa using hk,hp,by unfold kept at e ⊢; simp [hy,e]⟩
   · rw [kn hy] at h
     obtain ⟨k,hk,hp,e⟩:=lH p l j x h
     exact ⟨k+1,by simpa using hk,hp,by unfold kept at e ⊢; simp [hy,e]⟩
theorem Aa (p:Item->Bool) (l:List Item) {j k:Nat} (h:j<=k):kept p l j<=kept p l k:=by unfold kept;rw [show l.take j=(l.take k).take j by rw [List.take_take]; congr 1; omega];exact ((List.take_sublist j (l.take k)).filter p).length_le
theorem Q3 (p:Item->Bool):∀ (l:List Item) (j k:Nat) (x:Item),l[j]? =some x->p x=true->j < k->kept p l j < kept p l k:=by
 intro l j k x h hp hjk;have h1:kept p l (j+1)=kept p l j+1:=by unfold kept;rw [ez,h];simp [hp]
 have:=Aa p l (show j+1<=k from hjk);omega
def nM (p:Item->Bool) (S:aW):aW:=S.map (·.filter p)
theorem kg (p:Item->Bool) (S:aW) (s j:Nat):di (nM p S) s j=(S[s]?).bind fun l=>(l.filter p)[j]?:=by unfold di nM;rw [aO];cases S[s]? <;> rfl
theorem CY {p:Item->Bool} (hp:∀ x,x.kind=3∨x.kind=4->p x=true) {S:aW} {s k:Nat} (h:kj S s k) :
   ∀ l x,S[s]? =some l->l[k]? =some x->p x=true->kj (nM p S) s (kept p l k):=by
 refine kj.ind (P:=fun s k=>∀ l x,S[s]? =some l->l[k]? =some x->p x=true->kj (nM p S) s (kept p l k)) ?_ h
 · intro s k y hy hj hw ih1 ih2 l x hl hx hpx;have hxy:y=x:=by unfold di at hy; rw [hl] at hy; simp [hx] at hy; exact hy.symm
   subst hxy;refine .mk s _ y (by rw [kg,hl]; exact kU p l k y hx hpx) (fun j hjk=>?_) fun h4=>?_
   · have:∃ z,(l.filter p)[j]? =some z:=by
       have h1:=kU p l k y hx hpx
       have:kept p l k < (l.filter p).length:=by
         rcases bc (kept p l k) (l.filter p).length with h | h
         · exact h
         · rw [aE h] at h1; cases h1
       exact ⟨_,aj (by omega)⟩
     obtain ⟨z,hz⟩:=this
     obtain ⟨i,hi,hpz,e⟩:=lH p l j z hz
     have hik:i < k:=by
       rcases bc i k with h | h
       · exact h
       · have:=Aa p l h; omega
     rw [<-e]
     exact ih1 i hik l z hl hi hpz
   · obtain ⟨t,j,z,hz,h3,he,_⟩:=hw h4;obtain ⟨t',j',z',hz',h3',he',ih⟩:=ih2 h4;obtain ⟨m,hm⟩:∃ m,S[t']? =some m:=by have:=(jN hz').1;exact ⟨_,aj this⟩
     have hz2:m[j']? =some z':=by unfold di at hz'; rw [hm] at hz'; simpa using hz'
     have hpz:=hp z' (.inl h3');exact ⟨t',_,z',by rw [kg,hm]; exact kU p m j' z' hz2 hpz,h3',he',ih m z' hm hz2 hpz⟩
theorem Ao {p:Item->Bool} (hp:∀ x,x.kind=4->p x=true) {S:aW} {s:Nat} {l:List Item} (hl:S[s]? =some l) (K:Nat)
   (h:∀ k x,k < K->l[k]? =some x->p x=true->kj S s k):∀ k,k < K->k < l.length->kj S s k:=by
 intro k;induction k using Nat.strongRecOn with
 | ind k ih =>
   intro hk hkl;have hx:=aj hkl;by_cases e:p l[k]=true
   · exact h k _ hk hx e
   · exact .mk s k l[k] (by unfold di; rw [hl]; exact hx) (fun j hj=>ih j hj (by omega) (by omega)) fun h4=>absurd (hp _ h4) e
theorem zB {p:Item->Bool} (hp:∀ x,x.kind=3∨x.kind=4->p x=true) {S:aW} {s j:Nat} (h:kj (nM p S) s j) :
   ∀ l k x,S[s]? =some l->l[k]? =some x->p x=true->kept p l k=j->kj S s k:=by
 refine kj.ind (P:=fun s j=>∀ l k x,S[s]? =some l->l[k]? =some x->p x=true->kept p l k=j->kj S s k) ?_ h
 · intro s j y hy hj hw ih1 ih2 l k x hl hx hpx hkj;have hkl:k < l.length:=by
     rcases bc k l.length with h | h
     · exact h
     · rw [aE h] at hx; cases hx
   have hyx:y=x:=by rw [kg,hl] at hy;simp only [ax] at hy;rw [<-hkj,kU p l k x hx hpx] at hy;exact (aB hy).symm
   subst hyx;refine .mk s k y (by unfold di; rw [hl]; exact hx) (fun i hi=>?_) fun h4=>?_
   · refine Ao (p:=p) (fun x h=>hp x (.inr h)) hl k (fun i z hik hz hpz=>?_) i hi (by omega);exact ih1 (kept p l i) (by rw [<-hkj]; exact Q3 p l i k z hz hpz hik) l i z hl hz hpz rfl
   · obtain ⟨t,i,z,hz,h3,he,_⟩:=hw h4;obtain ⟨t',i',z',hz',h3',he',ih⟩:=ih2 h4;rw [kg] at hz';obtain ⟨m,hm,hz'⟩:=ae.1 hz';obtain ⟨k',hk',hpz,e⟩:=lH p m i' z' hz';exact ⟨t',k',z',by unfold di; rw [hm]; exact hk',h3',he',ih m k' z' hm hk' hpz e⟩
theorem zg {p:Item->Bool} (hp:∀ x,x.kind=3∨x.kind=4->p x=true) (S:aW):ja (nM p S)↔ja S:=by
 constructor
 · intro h s k x hx;obtain ⟨l,hl,hx'⟩:=ae.1 (show (S[s]?).bind (·[k]?)=some x from hx);refine Ao (p:=p) (fun x h=>hp x (.inr h)) hl (k+1) (fun i z hik hz hpz=>?_) k (by omega) ?_
   · exact zB hp (h s (kept p l i) z (by rw [kg,hl]; exact kU p l i z hz hpz)) l i z hl hz hpz rfl
   · rcases bc k l.length with h | h
     · exact h
     · rw [aE h] at hx'; cases hx'
 · intro h s j x hx;rw [kg] at hx;obtain ⟨l,hl,hx'⟩:=ae.1 hx;obtain ⟨k,hk,hpx,e⟩:=lH p l j x hx';rw [<-e];exact CY hp (h s k x (by unfold di; rw [hl]; exact hk)) l x hl hk hpx
end Go.Dv.Qu
namespace Go.Dv.Qu
inductive TG {α:Type} (R:α->α->Prop):α->α->Prop
 | one {a b:α}:R a b->TG R a b
 | step {a b c:α}:R a b->TG R b c->TG R a c
theorem TG.trans {α:Type} {R:α->α->Prop} {a b c:α} (h:TG R a b) (k:TG R b c):TG R a c:=by
 induction h with
 | one h=>exact .step h k
 | step h _ ih=>exact .step h (ih k)
theorem TG.mono {α:Type} {R Q:α->α->Prop} (h:∀ a b,R a b->TG Q a b) {a b:α} (k:TG R a b):TG Q a b:=by
 induction k with
 | one k=>exact h _ _ k
 | step k _ ih=>exact (h _ _ k).trans ih
theorem TG.map {α β:Type} {R:α->α->Prop} {Q:β->β->Prop} (f:α->β) (h:∀ a b,R a b->Q (f a) (f b)) {a b:α} (k:TG R a b):TG Q (f a) (f b):=by
 induction k with
 | one k=>exact .one (h _ _ k)
 | step k _ ih=>exact .step (h _ _ k) ih
abbrev Place:=Nat × Nat
def at? (S:aW) (p:Place):Option Item:=di S p.1 p.2
def places (S:aW):List Place:=(bp S.length).flatMap fun s=>(bp (S.getD s []).length).map fun k=>(s,k)
def isRec (S:aW) (e:Int) (p:Place):Prop:=∃ x,at? S p=some x/\x.kind=3/\x.event=e
def RW (S:aW) (p q:Place):Prop:=∃ x y,at? S p=some x/\at? S q=some y/\x.kind=3/\y.kind=4/\x.event=y.event/\∀ r,isRec S x.event r->r=p
def Edge (S:aW) (p q:Place):Prop:=((∃ x y,at? S p=some x/\at? S q=some y)/\p.1=q.1/\q.2=p.2+1)∨RW S p q
def Jb (S:aW) (p q:Place):Prop:=((∃ x y,at? S p=some x/\at? S q=some y)/\p.1=q.1/\p.2 < q.2)∨RW S p q
def zl (S:aW):Place->Place->Prop:=TG (Edge S)
theorem TN {S:aW} {p:Place} {x:Item} (h:at? S p=some x):p.1 < S.length/\p.2 < (S.getD p.1 []).length:=jN h
theorem I3 {S:aW} {p q:Place} (h:Jb S p q):TG (Edge S) p q:=by
 rcases h with ⟨⟨x,y,hx,hy⟩,e,hlt⟩ | h
 · obtain ⟨s,j⟩:=p;obtain ⟨t,k⟩:=q;simp only at e hlt;subst e;have hk:=(TN hy).2;simp only at hk;have key:∀ d j,k - j=d+1->TG (Edge S) (s,j) (s,k):=by
     intro d;induction d with
     | zero =>intro j hd;obtain ⟨z,hz⟩:=tE (S:=S) (s:=s) (k:=j) (by omega);exact .one (.inl ⟨⟨z,y,hz,hy⟩,rfl,by simp only; omega⟩)
     | succ d ih =>intro j hd;obtain ⟨z,hz⟩:=tE (S:=S) (s:=s) (k:=j) (by omega);obtain ⟨z',hz'⟩:=tE (S:=S) (s:=s) (k:=j+1) (by omega);exact .step (b:=(s,j+1)) (.inl ⟨⟨z,z',hz,hz'⟩,rfl,rfl⟩) (ih (j+1) (by omega))
   exact key (k - j - 1) j (by omega)
 · exact .one (.inr h)
theorem IW {S:aW} {p q:Place} (h:Edge S p q):Jb S p q:=by
 rcases h with ⟨h,e,e2⟩ | h
 · exact .inl ⟨h,e,by omega⟩
 · exact .inr h
theorem lI {S:aW} {p q:Place}:zl S p q↔TG (Jb S) p q:=
 ⟨fun h=>h.mono fun _ _ h=>.one (IW h),fun h=>h.mono fun _ _ h=>I3 h⟩
theorem mf {S:aW} {p q:Place} (h:Edge S p q):(∃ x,at? S p=some x)/\∃ y,at? S q=some y:=by rcases h with ⟨⟨x,y,hx,hy⟩,_⟩ | ⟨x,y,hx,hy,_⟩ <;> exact ⟨⟨x,hx⟩,⟨y,hy⟩⟩
theorem qV {S:aW} {p q:Place} (h:zl S p q):(∃ x,at? S p=some x)/\∃ y,at? S q=some y:=by
 unfold zl at h;induction h with
 | one h=>exact mf h
 | step h _ ih=>exact ⟨(mf h).1,ih.2⟩
theorem DU {S:aW} {s k:Nat} (h:kj S s k):Acc (Edge S) (s,k):=by
 refine kj.ind (P:=fun s k=>Acc (Edge S) (s,k)) ?_ h;intro s k x hx hj hw ih1 ih2;refine ⟨_,fun p hp=>?_⟩;rcases hp with ⟨_,e,e2⟩ | ⟨y,z,hy,hz,h3,h4,he,hu⟩
 · obtain ⟨t,j⟩:=p;simp only at e e2;subst e;exact ih1 j (by omega)
 · have hzx:z=x:=by
     have:di S s k=some z:=hz
     rw [hx] at this
     exact (aB this).symm
   subst hzx
   obtain ⟨t,j,v,hv,h3',he',hacc⟩:=ih2 h4
   have:=hu (t,j) ⟨v,hv,h3',by rw [he',he]⟩
   rw [<-this]; exact hacc
def off (S:aW) (s:Nat):Nat:=((S.take s).map List.length).sum
theorem lA {S:aW} {s:Nat} (h:s < S.length):off S (s+1)=off S s+(S.getD s []).length:=by unfold off;rw [ez,aj h,List.map_append,List.sum_append,gde,aj h];simp
theorem Ct (l:List Item) (S:aW) (s:Nat):off (l::S) (s+1)=l.length+off S s:=by simp [off]
theorem oZ:∀ (S:aW) (s k:Nat) (x:Item),di S s k=some x->S.flatten[off S s+k]? =some x
 | [],s,k,x,h=>by simp [di] at h
 | l::S,0,k,x,h=>by
   simp only [di,List.getElem?_cons_zero,ax] at h
   have:k < l.length:=by
     rcases bc k l.length with h' | h'
     · exact h'
     · rw [aE h'] at h; cases h
   simp only [off,List.take_zero,List.map_nil,List.sum_nil,fF,cZ]
   rw [ar this]; exact h
 | l::S,s+1,k,x,h=>by
   have h':di S s k=some x:=by simpa [di] using h
   have:=oZ S s k x h'
   rw [Ct,fF,al (by omega)]
   rw [<-this]; congr 1; omega
theorem d5 (S:aW):S.flatten.length=off S S.length:=by simp [off,List.length_flatten]
theorem Ah:∀ (S:aW) (n:Nat),n < S.flatten.length->∃ s k x,di S s k=some x/\n=off S s+k
 | [],n,h=>by simp at h
 | l::S,n,h=>by
   rw [fF,ai] at h
   rcases bc n l.length with h' | h'
   · exact ⟨0,n,l[n],by simp [di,aj h'],by simp [off]⟩
   · obtain ⟨s,k,x,hx,e⟩:=Ah S (n - l.length) (by omega)
     exact ⟨s+1,k,x,by simpa [di] using hx,by rw [Ct]; omega⟩
theorem yg {S:aW} {s t:Nat} (h:s<=t):off S s<=off S t:=by
 induction h with
 | refl=>exact aw _
 | @step t _ ih =>
   rcases bc t S.length with hl | hl
   · rw [lA hl]; omega
   · unfold off at *;rw [bt (l:=S) (i:=t+1) (by omega)];rw [bt (l:=S) (i:=t) (by omega)] at ih;exact ih
theorem F2 {S:aW} {s t j k:Nat} {x y:Item} (h:di S s j=some x) (h':di S t k=some y) (e:off S s+j=off S t+k):s=t/\j=k:=by
 have h1:=jN h;have h2:=jN h';have a1:=lA h1.1;have a2:=lA h2.1;rcases Nat.lt_trichotomy s t with c | c | c
 · have:=yg (S:=S) (show s+1<=t from c); omega
 · subst c; exact ⟨rfl,by omega⟩
 · have:=yg (S:=S) (show t+1<=s from c); omega
theorem oP {S:aW} {s k:Nat} {x:Item} (h:di S s k=some x):(places S)[off S s+k]? =some (s,k):=by
 have hb:=jN h;have key:∀ n,n<=S.length->((bp n).flatMap fun s=>(bp (S.getD s []).length).map fun k=>(s,k)).length=off S n:=by
   intro n;induction n with
   | zero=>intro _; simp [off]
   | succ n ih =>intro hn;rw [jf,r8,ai,ih (by omega),lA (by omega)];simp
 have e:places S=((bp s).flatMap fun s=>(bp (S.getD s []).length).map fun k=>(s,k))++(((bp (S.getD s []).length).map fun k=>(s,k))++((xp (s+1) (S.length - (s+1))).flatMap fun s=>(bp (S.getD s []).length).map fun k=>(s,k))):=by unfold places;rw [show bp S.length=bp s++([s]++xp (s+1) (S.length - (s+1))) by rw [D6,D6,show [s]=xp s 1 from rfl,D7];have:=D7 (s:=0) (m:=s) (n:=1+(S.length - (s+1)));rw [cZ] at this;rw [this]; congr 1; omega];simp only [r8,List.flatMap_cons,List.flatMap_nil,List.append_nil]
 rw [e,al (by rw [key s (by omega)]; omega),key s (by omega),Nat.add_sub_cancel_left,ar (by simpa using hb.2)];rw [aO,List.getElem?_range hb.2]; rfl
theorem oO (S:aW):(places S).length=S.flatten.length:=by
 rw [d5];have key:∀ n,n<=S.length->((bp n).flatMap fun s=>(bp (S.getD s []).length).map fun k=>(s,k)).length=off S n:=by
   intro n;induction n with
   | zero=>intro _; simp [off]
   | succ n ih =>intro hn;rw [jf,r8,ai,ih (by omega),lA (by omega)];simp
 exact key _ (aw _)
theorem kT {S:aW} {n:Nat} (h:n < S.flatten.length):∃ p x,(places S)[n]? =some p/\at? S p=some x/\S.flatten[n]? =some x/\n=off S p.1+p.2:=by obtain ⟨s,k,x,hx,e⟩:=Ah S n h;exact ⟨(s,k),x,by rw [e]; exact oP hx,hx,by rw [e]; exact oZ S s k x hx,e⟩
end Go.Dv.Qu
namespace Go.Dv.Qu
def wn (M:Nat->Nat->Bool):Nat->Nat->Nat->Bool
 | 0,i,k=>M i k
 | j+1,i,k=>wn M j i k || (wn M j i j && wn M j j k)
theorem Pc {M:Nat->Nat->Bool} {j i k:Nat} (h:wn M j i k=true):wn M (j+1) i k=true:=by simp [wn,h]
theorem BV {M:Nat->Nat->Bool} {J i k:Nat} (h:M i k=true):wn M J i k=true:=by
 induction J with
 | zero=>exact h
 | succ J ih=>exact Pc ih
theorem sP {M:Nat->Nat->Bool} {N:Nat}:∀ (J:Nat),J<=N->∀ i k,i < N->k < N->wn M J i k=true->TG (fun a b=>a < N/\b < N/\M a b=true) i k
 | 0,_,i,k,hi,hk,h=>.one ⟨hi,hk,h⟩
 | J+1,hJ,i,k,hi,hk,h=>by
   simp only [wn,ic,az] at h
   rcases h with h | ⟨h1,h2⟩
   · exact sP J (by omega) i k hi hk h
   · exact (sP J (by omega) i J hi (by omega) h1).trans (sP J (by omega) J k (by omega) hk h2)
theorem zI {M:Nat->Nat->Bool}:∀ (J:Nat),∀ j,j < J->∀ i k,wn M J i j=true->wn M J j k=true->wn M J i k=true
 | 0,j,hj,_,_,_,_=>by omega
 | J+1,j,hj,i,k,h1,h2=>by
   have ih:=zI (M:=M) J
   simp only [wn,ic,az] at h1 h2 ⊢
   by_cases e:j=J
   · subst e
     rcases h1 with h1 | ⟨h1,_⟩ <;> rcases h2 with h2 | ⟨_,h2⟩ <;> exact .inr ⟨h1,h2⟩
   · have hjJ:j < J:=by omega
     rcases h1 with h1 | ⟨h1,h1'⟩ <;> rcases h2 with h2 | ⟨h2,h2'⟩
     · exact .inl (ih j hjJ i k h1 h2)
     · exact .inr ⟨ih j hjJ i J h1 h2,h2'⟩
     · exact .inr ⟨h1,ih j hjJ J k h1' h2⟩
     · exact .inr ⟨h1,h2'⟩
theorem Pb {M:Nat->Nat->Bool} {N i k:Nat} (hi:i < N) (hk:k < N):wn M N i k=true↔TG (fun a b=>a < N/\b < N/\M a b=true) i k:=by
 refine ⟨sP N (aw N) i k hi hk,fun h=>?_⟩;clear hi hk;induction h with
 | one h=>exact BV h.2.2
 | step h _ ih=>exact zI N _ h.2.1 _ _ (BV h.2.2) ih
theorem Ud (M:Nat->Nat->Bool) (j i:Nat):wn M (j+1) i j=wn M j i j:=by simp [wn]; intro h _; exact h
theorem Ue (M:Nat->Nat->Bool) (j k:Nat):wn M (j+1) j k=wn M j j k:=by simp [wn]
theorem gU {a:List Nat} {s t n:Nat}:(a.set s n).getD t 0=if t=s/\s < a.length then n else a.getD t 0:=by
 rw [gde,gde,cV];by_cases e:s=t
 · subst e;by_cases h:s < a.length
   · simp [h]
   · simp [h]
 · simp [e,Ne.symm e]
theorem mP:∀ (N:Nat) (l:List Nat),l.Nodup->(∀ x∈l,x < N)->l.length<=N
 | 0,l,_,h=>by
   cases l with
   | nil=>simp
   | cons x l=>have:=h x (by simp); omega
 | N+1,l,hn,h=>by
   have h1:=mP N (l.erase N) (hn.erase N) fun x hx=>by
     have h2:=h x (List.mem_of_mem_erase hx)
     have:x≠N:=fun e=>by subst e; exact (hn.mem_erase_iff.1 hx).1 rfl
     omega
   have:=List.length_erase (a:=N) (l:=l)
   split at this <;> omega
def rl (M:Nat->Nat->Bool) (o:List Nat) (k i:Nat):List Nat:=if M i k then o.set k (max (o.getD k 0) (o.getD i 0+1)) else o
def rI (M:Nat->Nat->Bool) (o:List Nat) (k:Nat):Nat->List Nat
 | 0=>o
 | i+1=>rl M (rI M o k i) k i
def rK (M:Nat->Nat->Bool) (N:Nat) (o:List Nat):Nat->List Nat
 | 0=>o
 | k+1=>rI M (rK M N o k) k N
def rR (M:Nat->Nat->Bool) (N:Nat):Nat->List Nat
 | 0=>au N 0
 | r+1=>rK M N (rR M N r) N
section
variable {M:Nat->Nat->Bool} {N:Nat} {w:Nat->Nat}
def Low (N:Nat) (w:Nat->Nat) (o:List Nat):Prop:=o.length=N/\∀ k,k < N->o.getD k 0<=w k
theorem UI (h1:∀ i k,i < N->k < N->M i k=true->w i+1<=w k) {o:List Nat} {k i:Nat} (hk:k < N) (hi:i < N) (h:Low N w o):Low N w (rl M o k i):=by
 unfold rl;split
 · rename_i hm;refine ⟨by simp [h.1],fun t ht=>?_⟩;rw [gU];split
   · rename_i e;have a1:=h.2 k hk;have a2:=h.2 i hi;have a3:=h1 i k hi hk hm;rw [e.1]; omega
   · exact h.2 t ht
 · exact h
theorem FP (o:List Nat) (k i t:Nat):o.getD t 0<=(rl M o k i).getD t 0:=by
 unfold rl;split
 · rw [gU];split
   · rename_i e; rw [e.1]; omega
   · exact aw _
 · exact aw _
theorem UJ (o:List Nat) (k i:Nat):(rl M o k i).length=o.length:=by unfold rl; split <;> simp
theorem Et (h1:∀ i k,i < N->k < N->M i k=true->w i+1<=w k) {o:List Nat} {k:Nat} (hk:k < N) (h:Low N w o):∀ i,i<=N->Low N w (rI M o k i)
 | 0,_=>h
 | i+1,hi=>UI h1 hk (by omega) (Et h1 hk h i (by omega))
theorem wM (o:List Nat) (k t:Nat):∀ i,o.getD t 0<=(rI M o k i).getD t 0
 | 0=>aw _
 | i+1=>bh (wM o k t i) (FP _ k i t)
theorem Eu (o:List Nat) (k:Nat):∀ i,(rI M o k i).length=o.length
 | 0=>rfl
 | i+1=>by rw [rI,UJ,Eu o k i]
theorem Sf {o:List Nat} {k:Nat} (hl:o.length=N) (hk:k < N):∀ i j,j < i->i<=N->M j k=true->o.getD j 0+1<=(rI M o k i).getD k 0
 | 0,_,h,_,_=>by omega
 | i+1,j,h,hi,hm=>by
   by_cases e:j=i
   · subst e
     rw [rI,rl,if_pos hm,gU,if_pos ⟨rfl,by rw [Eu,hl]; exact hk⟩]
     have:=wM (M:=M) o k j j
     omega
   · exact bh (Sf hl hk i j (by omega) (by omega) hm) (FP _ k i k)
theorem A0 (h1:∀ i k,i < N->k < N->M i k=true->w i+1<=w k) {o:List Nat} (h:Low N w o):∀ k,k<=N->Low N w (rK M N o k)
 | 0,_=>h
 | k+1,hk=>Et h1 (by omega) (A0 h1 h k (by omega)) N (aw N)
theorem FV (o:List Nat) (t:Nat):∀ k,o.getD t 0<=(rK M N o k).getD t 0
 | 0=>aw _
 | k+1=>bh (FV o t k) (wM _ k t N)
theorem Es (o:List Nat):∀ k,(rK M N o k).length=o.length
 | 0=>rfl
 | k+1=>by rw [rK,Eu,Es o k]
theorem Se {o:List Nat} (hl:o.length=N) {k j:Nat} (hj:j < N) (hm:M j k=true):∀ n,k < n->n<=N->o.getD j 0+1<=(rK M N o n).getD k 0
 | 0,h,_=>by omega
 | n+1,h,hn=>by
   by_cases e:k=n
   · subst e
     have a1:=Sf (M:=M) (N:=N) (o:=rK M N o k) (k:=k) (by rw [Es]; exact hl) (by omega) N j hj (aw N) hm
     have a2:=FV (M:=M) (N:=N) o j k
     rw [rK]; omega
   · exact bh (Se hl hj hm n (by omega) (by omega)) (wM _ n k N)
theorem Er (r:Nat):(rR M N r).length=N:=by
 induction r with
 | zero=>simp [rR]
 | succ r ih=>rw [rR,Es,ih]
theorem PK (h1:∀ i k,i < N->k < N->M i k=true->w i+1<=w k) (h2:∀ k,k < N->w k=0∨∃ i,i < N/\M i k=true/\w k=w i+1) :
   ∀ r,Low N w (rR M N r)/\∀ k,k < N->w k<=r->(rR M N r).getD k 0=w k:=by
 intro r;induction r with
 | zero =>
   have h0:∀ s,(au N 0).getD s 0=0:=fun s=>by rw [gde,kL]; split <;> rfl
   refine ⟨⟨by simp [rR],fun k _=>by rw [rR,h0]; omega⟩,fun k _ h=>by rw [rR,h0]; omega⟩
 | succ r ih =>
   obtain ⟨hlow,heq⟩:=ih;have hlow':=A0 h1 hlow N (aw N);refine ⟨hlow',fun k hk hw=>?_⟩;have hle:=hlow'.2 k hk;rw [rR];rcases h2 k hk with h0 | ⟨i,hi,hm,e⟩
   · omega
   · have a1:=Se (M:=M) (N:=N) (o:=rR M N r) hlow.1 hi hm N hk (aw N);rw [heq i hi (by omega)] at a1;omega
end
section
variable {A:List (List Nat)} {N:Nat}
def EA (A:List (List Nat)) (x y:Nat):Prop:=y∈A.getD x []
def rem (A:List (List Nat)) (N:Nat) (D:List Nat) (y:Nat):Nat:=(((bp N).filter fun x=>!D.contains x).map fun x=>(A.getD x []).count y).sum
theorem zL (f:Nat->Nat) (x:Nat) (p:Nat->Bool) (hp:p x=true):∀ (l:List Nat),l.Nodup->x∈l->((l.filter p).map f).sum=((l.filter fun z=>p z && z != x).map f).sum+f x
 | [],_,h=>by simp at h
 | z::l,hn,h=>by
   have hn':=xq.1 hn
   by_cases e:z=x
   · subst e
     have:(l.filter fun y=>p y && y != z)=l.filter p:=Jf fun y hy=>by
       have:y≠z:=fun e=>by subst e; exact hn'.1 hy
       simp [this]
     rw [km hp,kn (by simp),this]
     simp; omega
   · have ih:=zL f x p hp l hn'.2 (by simpa [Ne.symm e] using h)
     by_cases hz:p z=true
     · rw [km hz,km (by simp [hz,e])]
       simp only [List.map_cons,AF,ih]; omega
     · rw [kn hz,kn (by simp [hz])]
       exact ih
theorem JY {D:List Nat} {x:Nat} (hx:x < N) (hD:x∉D) (y:Nat):rem A N D y=rem A N (x::D) y+(A.getD x []).count y:=by
 unfold rem;rw [zL (fun x=>(A.getD x []).count y) x _ (by simpa using hD) _ List.nodup_range (eX.2 hx)];congr 2;congr 1;refine Jf fun z _=>?_;by_cases e:z=x
 · subst e; simp
 · simp [e]
theorem JX {D:List Nat} {y:Nat} (h:∀ x,x < N->EA A x y->x∈D):rem A N D y=0:=by
 unfold rem;have:∀ l:List Nat,(∀ n∈l,n=0)->l.sum=0:=by
   intro l hl;induction l with
   | nil=>rfl
   | cons n l ih=>rw [AF,hl n (by simp),ih fun m hm=>hl m (by simp [hm])]
 refine this _ fun n hn=>?_;obtain ⟨x,hx,rfl⟩:=bI.1 hn;rw [fm,eX] at hx;rw [List.count_eq_zero];intro hy;have:=h x hx.1 hy;simp [this] at hx
structure KI (A:List (List Nat)) (N:Nat) (D:List Nat) (x q:Nat) (w b T:List Nat):Prop where
 lw:w.length=N
 lb:b.length=N
 nd:D.Nodup
 dN:∀ d∈D,d < N
 xD:x∈D
 d0:∀ d∈D,b.getD d 0=0
 hb:∀ y,y < N->b.getD y 0=rem A N D y+((A.getD x []).drop q).count y
 tn:T.Nodup
 tm:∀ y,y∈T↔y < N/\b.getD y 0=0/\y∉D
 w1:∀ d∈D,∀ y,y∈(if d=x then (A.getD d []).take q else A.getD d [])->w.getD d 0+1<=w.getD y 0
 w2:∀ y,y < N->w.getD y 0=0∨∃ d∈D,y∈A.getD d []/\w.getD y 0=w.getD d 0+1
 w3:∀ y,y < N->w.getD y 0<=D.length
 wx:w.getD x 0+1<=D.length
structure KO (A:List (List Nat)) (N:Nat) (D:List Nat) (w b T:List Nat):Prop where
 lw:w.length=N
 lb:b.length=N
 nd:D.Nodup
 dN:∀ d∈D,d < N
 d0:∀ d∈D,b.getD d 0=0
 hb:∀ y,y < N->b.getD y 0=rem A N D y
 tn:T.Nodup
 tm:∀ y,y∈T↔y < N/\b.getD y 0=0/\y∉D
 w1:∀ d∈D,∀ y,y∈A.getD d []->w.getD d 0+1<=w.getD y 0
 w2:∀ y,y < N->w.getD y 0=0∨∃ d∈D,y∈A.getD d []/\w.getD y 0=w.getD d 0+1
 w3:∀ y,y < N->w.getD y 0<=D.length
theorem KO.perm {D w b T T':List Nat} (h:KO A N D w b T) (p:T.Perm T'):KO A N D w b T':=
 { h with tn:=p.nodup_iff.1 h.tn,tm:=fun y=>by rw [<-p.mem_iff]; exact h.tm y }
theorem KI.perm {D w b T T':List Nat} {x q:Nat} (h:KI A N D x q w b T) (p:T.Perm T'):KI A N D x q w b T':=
 { h with tn:=p.nodup_iff.1 h.tn,tm:=fun y=>by rw [<-p.mem_iff]; exact h.tm y }
theorem KO.pop {D w b T:List Nat} {x:Nat} (h:KO A N D w b (x::T)):KI A N (x::D) x 0 w b T:=by
 have hx:=(h.tm x).1 (by simp);have hn:=xq.1 h.tn;refine { lw:=h.lw,lb:=h.lb,nd:=xq.2 ⟨hx.2.2,h.nd⟩,dN:=?_,xD:=by simp,d0:=?_,hb:=?_,tn:=hn.2,tm:=?_,w1:=?_,w2:=?_,w3:=?_,wx:=?_ }
 · intro d hd;rcases bW.1 hd with rfl | hd
   · exact hx.1
   · exact h.dN d hd
 · intro d hd;rcases bW.1 hd with rfl | hd
   · exact hx.2.1
   · exact h.d0 d hd
 · intro y hy;rw [h.hb y hy,JY hx.1 hx.2.2,List.drop_zero]
 · intro y;have:=h.tm y;rw [bW] at this;rw [bW,not_or];constructor
   · intro hy;obtain ⟨a,b,c⟩:=this.1 (.inr hy);exact ⟨a,b,fun e=>hn.1 (e ▸ hy),c⟩
   · rintro ⟨a,b,c,d⟩;exact (this.2 ⟨a,b,d⟩).resolve_left c
 · intro d hd y hy;split at hy
   · simp at hy
   · rename_i e;rcases bW.1 hd with rfl | hd
     · exact absurd rfl e
     · exact h.w1 d hd y hy
 · intro y hy;exact (h.w2 y hy).imp id fun ⟨d,hd,r⟩=>⟨d,jy _ hd,r⟩
 · intro y hy;have:=h.w3 y hy;rw [cR]; omega
 · have:=h.w3 x hx.1;rw [cR]; omega
theorem KI.step {D w b T:List Nat} {x q y:Nat} (h:KI A N D x q w b T) (hA:∀ l∈A,∀ y∈l,y < N) (hy:(A.getD x [])[q]? =some y) :
   1<=b.getD y 0/\y < N/\KI A N D x (q+1) (w.set y (max (w.getD y 0) (w.getD x 0+1))) (b.set y (b.getD y 0 - 1)) (if b.getD y 0 - 1=0 then T++[y] else T):=by
 have hmem:y∈A.getD x []:=jw hy;have hyN:y < N:=by
   rw [gde] at hmem;cases hx:A[x]? with
   | none=>rw [hx] at hmem; simp at hmem
   | some l=>rw [hx] at hmem; exact hA l (jw hx) y hmem
 have hdrop:(A.getD x []).drop q=y::(A.getD x []).drop (q+1):=by
   have hq:q < (A.getD x []).length:=by
     rcases bc q (A.getD x []).length with c | c
     · exact c
     · rw [aE c] at hy; cases hy
   rw [List.drop_eq_getElem_cons hq];rw [aj hq] at hy;rw [aB hy]
 have hb1:1<=b.getD y 0:=by rw [h.hb y hyN,hdrop,D9]; omega
 have hyD:y∉D:=fun hd=>by have:=h.d0 y hd; omega
 have hyx:x≠y:=fun e=>hyD (e ▸ h.xD);have hwD:∀ d∈D,(w.set y (max (w.getD y 0) (w.getD x 0+1))).getD d 0=w.getD d 0:=fun d hd=>by rw [gU,if_neg];rintro ⟨e,_⟩; exact hyD (e ▸ hd)
 have hwy:∀ z,w.getD z 0<=(w.set y (max (w.getD y 0) (w.getD x 0+1))).getD z 0:=fun z=>by
   rw [gU]; split
   · rename_i e; rw [e.1]; omega
   · exact aw _
 have hbs:∀ z,(b.set y (b.getD y 0 - 1)).getD z 0=if z=y then b.getD y 0 - 1 else b.getD z 0:=fun z=>by
   rw [gU];by_cases e:z=y
   · rw [if_pos ⟨e,by rw [h.lb]; exact hyN⟩,if_pos e]
   · rw [if_neg (fun c=>e c.1),if_neg e]
 refine ⟨hb1,hyN,?_⟩;refine { lw:=by simp [h.lw],lb:=by simp [h.lb],nd:=h.nd,dN:=h.dN,xD:=h.xD,d0:=?_,hb:=?_,tn:=?_,tm:=?_,w1:=?_,w2:=?_,w3:=?_,wx:=?_ }
 · intro d hd;rw [hbs]; split
   · rename_i e; exact absurd (e ▸ hd) hyD
   · exact h.d0 d hd
 · intro z hz;rw [hbs];have h0:=h.hb z hz;rw [hdrop] at h0;split
   · rename_i e; subst e;rw [D9] at h0; omega
   · rename_i e;rw [List.count_cons_of_ne (fun c=>e c.symm)] at h0; exact h0
 · split
   · refine Jd.2 ⟨h.tn,by simp,?_⟩;intro a ha b' hb' e;rw [bJ] at hb';subst hb';subst e;have:=((h.tm a).1 ha).2.1; omega
   · exact h.tn
 · intro z;rw [hbs];by_cases e:z=y
   · subst e;rw [if_pos rfl];by_cases e0:b.getD z 0 - 1=0
     · rw [if_pos e0];exact ⟨fun _=>⟨hyN,e0,hyD⟩,fun _=>by simp⟩
     · rw [if_neg e0,h.tm];constructor
       · rintro ⟨_,c,_⟩; omega
       · rintro ⟨_,c,_⟩; exact absurd c e0
   · rw [if_neg e];split
     · rw [cA,bJ,h.tm];exact ⟨fun c=>c.resolve_right e,.inl⟩
     · exact h.tm z
 · intro d hd z hz;rw [hwD d hd];by_cases e:d=x
   · subst e;rw [if_pos rfl,ez,hy,cA] at hz;rcases hz with hz | hz
     · exact bh (h.w1 d hd z (by rw [if_pos rfl]; exact hz)) (hwy z)
     · simp only [rH,bJ] at hz;subst hz;rw [gU,if_pos ⟨rfl,by rw [h.lw]; exact hyN⟩];exact Nat.le_max_right _ _
   · rw [if_neg e] at hz;exact bh (h.w1 d hd z (by rw [if_neg e]; exact hz)) (hwy z)
 · intro z hz;by_cases e:z=y
   · subst e;rw [gU,if_pos ⟨rfl,by rw [h.lw]; exact hyN⟩];rcases Nat.le_total (w.getD z 0) (w.getD x 0+1) with c | c
     · exact .inr ⟨x,h.xD,hmem,by rw [hwD x h.xD,Nat.max_eq_right c]⟩
     · refine (h.w2 z hz).imp (fun e=>by rw [O5 c]; exact e) fun ⟨d,hd,r,e⟩=>⟨d,hd,r,by rw [hwD d hd,O5 c]; exact e⟩
   · rw [gU,if_neg (fun c=>e c.1)];exact (h.w2 z hz).imp id fun ⟨d,hd,r,e⟩=>⟨d,hd,r,by rw [hwD d hd]; exact e⟩
 · intro z hz;have a1:=h.w3 z hz;have a2:=h.wx;rw [gU]; split
   · rename_i e; rw [<-e.1]; omega
   · exact a1
 · rw [hwD x h.xD]; exact h.wx
theorem KI.out {D w b T:List Nat} {x q:Nat} (h:KI A N D x q w b T) (hq:(A.getD x []).length<=q):KO A N D w b T:=
 { lw:=h.lw,lb:=h.lb,nd:=h.nd,dN:=h.dN,d0:=h.d0,tn:=h.tn,tm:=h.tm,w2:=h.w2,w3:=h.w3
   hb:=fun y hy=>by have:=h.hb y hy; rw [List.drop_of_length_le hq] at this; simpa using this
   w1:=fun d hd y hy=>h.w1 d hd y (by
     split
     · rename_i e; subst e; rw [bt hq]; exact hy
     · exact hy) }
theorem KO.fin {D w b:List Nat} (h:KO A N D w b []) (hacc:∀ y,y < N->Acc (EA A) y) :
   (∀ x y,x < N->EA A x y->w.getD x 0+1<=w.getD y 0)/\(∀ y,y < N->w.getD y 0=0∨∃ x,x < N/\EA A x y/\w.getD y 0=w.getD x 0+1)/\∀ y,y < N->w.getD y 0<=N:=by
 have all:∀ y,y < N->y∈D:=by
   intro y hy;have ha:=hacc y hy;induction ha with
   | intro y _ ih =>
     by_cases c:y∈D
     · exact c
     · exfalso;have h0:rem A N D y=0:=JX fun x hx e=>ih x e hx;have:=(h.tm y).2 ⟨hy,by rw [h.hb y hy,h0],c⟩;simp at this
 refine ⟨fun x y hx e=>h.w1 x (all x hx) y e,fun y hy=>(h.w2 y hy).imp id fun ⟨d,hd,e,r⟩=>⟨d,h.dN d hd,e,r⟩,fun y hy=>?_⟩;exact bh (h.w3 y hy) (mP N D h.nd h.dN)
end
structure RI (A:List (List Nat)) (N n:Nat) (seen todo:List Nat) (x q:Nat):Prop where
 s1:∀ y∈seen,TG (EA A) n y
 s2:∀ t∈todo,t=n∨t∈seen
 s3:∀ z,(z=n∨z∈seen)->z∉todo->∀ y∈(if z=x then (A.getD z []).take q else A.getD z []),y∈seen
 sn:seen.Nodup
 sN:∀ y∈seen,y < N
 sx:x=n∨x∈seen
structure RO (A:List (List Nat)) (N n:Nat) (seen todo:List Nat):Prop where
 s1:∀ y∈seen,TG (EA A) n y
 s2:∀ t∈todo,t=n∨t∈seen
 s3:∀ z,(z=n∨z∈seen)->z∉todo->∀ y∈A.getD z [],y∈seen
 sn:seen.Nodup
 sN:∀ y∈seen,y < N
theorem RO.init (A:List (List Nat)) (N n:Nat):RO A N n [] [n]:=
 ⟨by simp,by simp,fun z h h'=>by simp at h h'; exact absurd h h',by simp,by simp⟩
theorem RO.pop {A:List (List Nat)} {N n x:Nat} {seen todo:List Nat} (h:RO A N n seen (x::todo)):RI A N n seen todo x 0:=
 ⟨h.s1,fun t ht=>h.s2 t (jy _ ht),fun z hz hz' y hy=>by
   split at hy
   · simp at hy
   · rename_i e
     exact h.s3 z hz (by simp [e,hz']) y hy,h.sn,h.sN,h.s2 x (by simp)⟩
theorem RI.step {A:List (List Nat)} {N n x q y:Nat} {seen todo:List Nat} (h:RI A N n seen todo x q) (hA:∀ l∈A,∀ y∈l,y < N) (hy:(A.getD x [])[q]? =some y) :
   (y∈seen->RI A N n seen todo x (q+1))/\(y∉seen->RI A N n (seen++[y]) (todo++[y]) x (q+1)):=by
 have hmem:y∈A.getD x []:=jw hy;have hyN:y < N:=by
   rw [gde] at hmem;cases hx:A[x]? with
   | none=>rw [hx] at hmem; simp at hmem
   | some l=>rw [hx] at hmem; exact hA l (jw hx) y hmem
 have htk:(A.getD x []).take (q+1)=(A.getD x []).take q++[y]:=by rw [ez,hy]; rfl
 constructor
 · intro hs;refine ⟨h.s1,h.s2,fun z hz hz' v hv=>?_,h.sn,h.sN,h.sx⟩;by_cases e:z=x
   · subst e;rw [if_pos rfl,htk,cA,bJ] at hv;rcases hv with hv | rfl
     · exact h.s3 z hz hz' v (by rw [if_pos rfl]; exact hv)
     · exact hs
   · rw [if_neg e] at hv;exact h.s3 z hz hz' v (by rw [if_neg e]; exact hv)
 · intro hs;refine ⟨fun v hv=>?_,fun t ht=>?_,fun z hz hz' v hv=>?_,Jd.2 ⟨h.sn,by simp,fun a ha b hb e=>?_⟩,fun v hv=>?_,h.sx.imp id fun h=>List.mem_append_left _ h⟩
   · rw [cA,bJ] at hv;rcases hv with hv | rfl
     · exact h.s1 v hv
     · rcases h.sx with e | hx
       · rw [e] at hmem; exact .one hmem
       · exact (h.s1 x hx).trans (.one hmem)
   · rw [cA,bJ] at ht ⊢;rcases ht with ht | rfl
     · exact (h.s2 t ht).imp id .inl
     · exact .inr (.inr rfl)
   · rw [cA,not_or,bJ] at hz';rw [cA,bJ] at hz ⊢;have hz2:z=n∨z∈seen:=by
       rcases hz with hz | hz | hz
       · exact .inl hz
       · exact .inr hz
       · exact absurd hz hz'.2
     by_cases e:z=x
     · subst e;rw [if_pos rfl,htk,cA,bJ] at hv;exact hv.imp (fun hv=>h.s3 z hz2 hz'.1 v (by rw [if_pos rfl]; exact hv)) id
     · rw [if_neg e] at hv;exact .inl (h.s3 z hz2 hz'.1 v (by rw [if_neg e]; exact hv))
   · rw [bJ] at hb;subst hb; subst e; exact hs ha
   · rw [cA,bJ] at hv;rcases hv with hv | rfl
     · exact h.sN v hv
     · exact hyN
theorem RI.out {A:List (List Nat)} {N n x q:Nat} {seen todo:List Nat} (h:RI A N n seen todo x q) (hq:(A.getD x []).length<=q):RO A N n seen todo:=
 ⟨h.s1,h.s2,fun z hz hz' y hy=>h.s3 z hz hz' y (by
   split
   · rename_i e; subst e; rw [bt hq]; exact hy
   · exact hy),h.sn,h.sN⟩
theorem RO.fin {A:List (List Nat)} {N n:Nat} {seen:List Nat} (h:RO A N n seen []) (y:Nat):y∈seen↔TG (EA A) n y:=by
 refine ⟨h.s1 y,fun k=>?_⟩;have:∀ a b,TG (EA A) a b->(a=n∨a∈seen)->b∈seen:=by
   intro a b k;induction k with
   | one e=>intro ha; exact h.s3 _ ha (by simp) _ e
   | step e _ ih=>intro ha; exact ih (.inr (h.s3 _ ha (by simp) _ e))
 exact this n y k (.inl rfl)
theorem RI.le {A:List (List Nat)} {N n x q:Nat} {seen todo:List Nat} (h:RI A N n seen todo x q):seen.length<=N:=mP N seen h.sn h.sN
end Go.Dv.Qu
