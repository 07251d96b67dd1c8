/- Part 16 of the walks (own work). -/
import Derived.Test.YtilpjnckfkjkbaaGreatDoorS15
import Derived.Test.YtilpjnckfkjkbaaGreatDoorS14
open Bool renaming and_eq_true→aD,eq_iff_iff→fA,or_eq_true→gM,true_and→aZ
open List renaming foldl_cons→l4,getElem?_eq_getElem→aj,getElem?_eq_none→aT,getElem?_map→aI,getElem?_replicate→ki,getElem?_set→de,length_map→au,length_reverse→jt,mem_append→bJ,mem_filter→gf,mem_of_getElem?→jc,mem_range→fT,mem_singleton→bg,pairwise_iff_forall_sublist→tH,pairwise_map→Hj,range→bn,replicate→aA,reverse_reverse→eT,set_comm→nX
open Nat renaming lt_of_lt_of_le→bm,lt_or_ge→aY
open Option renaming bind_some→ay,getD_some→e7,map_some→cE
open Option.some renaming inj→aC
set_option maxRecDepth 100000
set_option maxHeartbeats 4000000
set_option linter.unusedSimpArgs false
set_option linter.unusedVariables false
namespace Go.Dv.Qu
def lq (x:Item) (e:Int):Bool:=x.kind == 3 && x.event == e
def nD (S:aL) (e:Int):List Nat:=(bn S.flatten.length).filter fun n=>((S.flatten[n]?).map fun x=>lq x e).getD false
def nxt (S:aL) (n:Nat):List Nat:=match (places S)[n]? with
 | some p=>if p.2+1 < (S.getD p.1 []).length then [n+1] else []
 | none=>[]
def waits (S:aL) (n m:Nat):Bool:=match S.flatten[m]? with
 | some y=>y.kind == 4 && nD S y.event == [n]
 | none=>false
def lF (S:aL) (m n:Nat):List Nat:=nxt S n++(bn m).filter (waits S n)
def aft (S:aL):List (List Nat):=(bn S.flatten.length).map (lF S S.flatten.length)
def Cc (S:aL) (i k:Nat):Bool:=match (places S)[i]?,(places S)[k]?,S.flatten[i]?,S.flatten[k]? with
 | some p,some q,some x,some y=>(p.1 == q.1 && decide (p.2 < q.2)) || (x.kind == 3 && y.kind == 4 && x.event == y.event && (nD S x.event).length == 1)
 | _,_,_,_=>false
def bef (S:aL) (i k:Nat):Bool:=wn (Cc S) S.flatten.length i k
def num (S:aL) (p:Place):Nat:=off S p.1+p.2
theorem oz {S:aL} {p:Place} {x:Item} (h:at? S p=some x):(places S)[num S p]? =some p:=rM h
theorem kU {S:aL} {p:Place} {x:Item} (h:at? S p=some x):S.flatten[num S p]? =some x:=oG S p.1 p.2 x h
theorem oA {S:aL} {p:Place} {x:Item} (h:at? S p=some x):num S p < S.flatten.length:=by
 have:=kU h
 rcases aY (num S p) S.flatten.length with c | c
 · exact c
 · rw [aT c] at this; cases this
theorem lQ {S:aL} {p q:Place} {x y:Item} (h:at? S p=some x) (h':at? S q=some y) (e:num S p=num S q):p=q:=by
 obtain ⟨a,b⟩:=Eu h h' e
 exact Prod.ext a b
theorem pB {S:aL} {e:Int} {n:Nat}:n∈nD S e↔∃ p,isRec S e p/\num S p=n:=by
 unfold nD
 rw [gf,fT]
 constructor
 · rintro ⟨hn,h⟩
   obtain ⟨p,x,hp,hx,hf,e2⟩:=jL hn
   rw [hf] at h
   simp only [cE,e7,lq,aD,beq_iff_eq] at h
   exact ⟨p,⟨x,hx,h.1,h.2⟩,e2.symm⟩
 · rintro ⟨p,⟨x,hx,h3,he⟩,rfl⟩
   refine ⟨oA hx,?_⟩
   rw [kU hx]
   simp [lq,h3,he]
theorem Da (S:aL) (e:Int):(nD S e).Nodup:=List.nodup_range.sublist List.filter_sublist
theorem RK {l:List Nat} {n:Nat} (hn:l.Nodup) (hm:n∈l) (h:∀ r∈l,r=n):l=[n]:=by
 cases l with
 | nil=>simp at hm
 | cons a l =>
   have ha:=h a (by simp)
   subst ha
   cases l with
   | nil=>rfl
   | cons b l =>
     have hb:=h b (by simp)
     subst hb
     simp at hn
theorem sC {S:aL} {p:Place} {x:Item} (h:at? S p=some x) (h3:x.kind=3):nD S x.event=[num S p]↔∀ r,isRec S x.event r->r=p:=by
 constructor
 · intro e r hr
   have:num S r∈nD S x.event:=pB.2 ⟨r,hr,rfl⟩
   rw [e,bg] at this
   obtain ⟨y,hy,_⟩:=hr
   exact lQ hy h this
 · intro hu
   refine RK (Da S _) (pB.2 ⟨p,⟨x,h,h3,rfl⟩,rfl⟩) fun r hr=>?_
   obtain ⟨q,hq,rfl⟩:=pB.1 hr
   rw [hu q hq]
theorem tw {S:aL} {n m:Nat}:EA (aft S) n m↔∃ p q,Edge S p q/\num S p=n/\num S q=m:=by
 unfold EA aft
 rw [gde,aI]
 rcases aY n S.flatten.length with hn | hn
 · rw [List.getElem?_range hn]
   simp only [cE,e7,lF,bJ,gf,fT]
   obtain ⟨p,x,hp,hx,hf,e⟩:=jL hn
   constructor
   · rintro (h | ⟨hm,h⟩)
     · unfold nxt at h
       rw [hp] at h
       simp only at h
       split at h
       · rename_i hlt
         rw [bg] at h
         obtain ⟨z,hz⟩:=oE hlt
         exact ⟨p,(p.1,p.2+1),.inl ⟨⟨x,z,hx,hz⟩,rfl,rfl⟩,e.symm,by rw [h,e]; simp only [num]; omega⟩
       · simp at h
     · obtain ⟨q,y,hq,hy,hf',e'⟩:=jL hm
       unfold waits at h
       rw [hf'] at h
       simp only [aD,beq_iff_eq] at h
       have hmem:n∈nD S y.event:=by rw [h.2]; simp
       obtain ⟨r,hr,hrn⟩:=pB.1 hmem
       obtain ⟨z,hz,h3,he⟩:=hr
       have hrp:r=p:=lQ hz hx (by rw [hrn,e]; rfl)
       subst hrp
       rw [hx] at hz; cases hz
       refine ⟨r,q,.inr ⟨x,y,hx,hy,h3,h.1,he,?_⟩,hrn,e'.symm⟩
       have:=h.2
       rw [<-he,<-hrn] at this
       exact (sC hx h3).1 this
   · rintro ⟨p',q,he,hpn,hqm⟩
     rcases he with ⟨⟨x',y,hx',hy⟩,e1,e2⟩ | ⟨x',y,hx',hy,h3,h4,he,hu⟩
     · have:p'=p:=lQ hx' hx (by rw [hpn,e]; rfl)
       subst this
       left
       unfold nxt
       rw [hp]
       have:=(rD hy).2
       rw [<-e1,e2] at this
       simp only
       rw [if_pos this,bg,<-hqm,e]
       simp only [num,<-e1,e2]; omega
     · have:p'=p:=lQ hx' hx (by rw [hpn,e]; rfl)
       subst this
       right
       refine ⟨by rw [<-hqm]; exact oA hy,?_⟩
       unfold waits
       rw [<-hqm,kU hy]
       simp only [aD,beq_iff_eq]
       refine ⟨h4,?_⟩
       rw [<-he,(sC hx' h3).2 hu,hpn]
 · rw [aT (by simpa using hn)]
   simp only [Option.map_none,Option.getD_none,List.not_mem_nil,false_iff]
   rintro ⟨p,q,he,hpn,_⟩
   obtain ⟨x,hx⟩:=(te he).1
   have:=oA hx
   omega
theorem Ms {S:aL}:∀ l∈aft S,∀ y∈l,y < S.flatten.length:=by
 intro l hl y hy
 obtain ⟨n,hn⟩:=List.getElem?_of_mem hl
 have:EA (aft S) n y:=by unfold EA; rw [gde,hn]; exact hy
 obtain ⟨p,q,he,_,hq⟩:=tw.1 this
 obtain ⟨z,hz⟩:=(te he).2
 rw [<-hq]; exact oA hz
theorem FL (S:aL):(aft S).length=S.flatten.length:=by simp [aft]
theorem D8 {S:aL} {n m:Nat}:TG (EA (aft S)) n m↔∃ p q,jE S p q/\num S p=n/\num S q=m:=by
 constructor
 · intro h
   induction h with
   | one h =>
     obtain ⟨p,q,he,a,b⟩:=tw.1 h
     exact ⟨p,q,.one he,a,b⟩
   | step h _ ih =>
     obtain ⟨p,q,he,a,b⟩:=tw.1 h
     obtain ⟨p',q',he',a',b'⟩:=ih
     obtain ⟨x,hx⟩:=(nR he').1
     obtain ⟨y,hy⟩:=(te he).2
     have:p'=q:=lQ hx hy (a'.trans b.symm)
     subst this
     exact ⟨p,q',.step he he',a,b'⟩
 · rintro ⟨p,q,h,rfl,rfl⟩
   exact TG.map (num S) (fun a b e=>tw.2 ⟨a,b,e,rfl,rfl⟩) h
theorem uH {S:aL} {i k:Nat}:Cc S i k=true↔∃ p q,Hh S p q/\num S p=i/\num S q=k:=by
 unfold Cc
 constructor
 · intro h
   split at h
   · rename_i p q x y hp hq hx hy
     have hi:i < S.flatten.length:=by
       rcases aY i S.flatten.length with c | c
       · exact c
       · rw [aT c] at hx; cases hx
     have hk:k < S.flatten.length:=by
       rcases aY k S.flatten.length with c | c
       · exact c
       · rw [aT c] at hy; cases hy
     obtain ⟨p',x',hp',hx',hf,e⟩:=jL hi
     obtain ⟨q',y',hq',hy',hf',e'⟩:=jL hk
     rw [hp] at hp'; cases hp'
     rw [hq] at hq'; cases hq'
     rw [hx] at hf; cases hf
     rw [hy] at hf'; cases hf'
     simp only [gM,aD,beq_iff_eq,decide_eq_true_eq] at h
     refine ⟨p,q,?_,e.symm,e'.symm⟩
     rcases h with ⟨a,b⟩ | ⟨⟨⟨a,b⟩,c⟩,d⟩
     · exact .inl ⟨⟨x,y,hx',hy'⟩,a,b⟩
     · refine .inr ⟨x,y,hx',hy',a,b,c,(sC hx' a).1 ?_⟩
       have hm:num S p∈nD S x.event:=pB.2 ⟨p,⟨x,hx',a,rfl⟩,rfl⟩
       rw [List.length_eq_one_iff] at d
       obtain ⟨r,hr⟩:=d
       rw [hr,bg] at hm
       rw [hr,hm]
   · cases h
 · rintro ⟨p,q,h,rfl,rfl⟩
   rcases h with ⟨⟨x,y,hx,hy⟩,a,b⟩ | ⟨x,y,hx,hy,h3,h4,he,hu⟩
   · rw [oz hx,oz hy,kU hx,kU hy]
     simp [a,b]
   · rw [oz hx,oz hy,kU hx,kU hy]
     simp [h3,h4,he]
     right
     rw [<-he,(sC hx h3).2 hu]; rfl
theorem xR {S:aL} {i k:Nat} (hi:i < S.flatten.length) (hk:k < S.flatten.length):bef S i k=true↔∃ p q,jE S p q/\num S p=i/\num S q=k:=by
 unfold bef
 rw [MQ hi hk]
 constructor
 · intro h
   have key:∀ a b,TG (fun a b=>a < S.flatten.length/\b < S.flatten.length/\Cc S a b=true) a b->∃ p q,TG (Hh S) p q/\num S p=a/\num S q=b:=by
     intro a b h
     induction h with
     | one h =>
       obtain ⟨p,q,he,a,b⟩:=uH.1 h.2.2
       exact ⟨p,q,.one he,a,b⟩
     | step h _ ih =>
       obtain ⟨p,q,he,a,b⟩:=uH.1 h.2.2
       obtain ⟨p',q',he',a',b'⟩:=ih
       obtain ⟨x,hx⟩:=(nR (k8.2 he')).1
       obtain ⟨y,hy⟩:=(nR (k8.2 (.one he))).2
       have:p'=q:=lQ hx hy (a'.trans b.symm)
       subst this
       exact ⟨p,q',.step he he',a,b'⟩
   obtain ⟨p,q,h,a,b⟩:=key i k h
   exact ⟨p,q,k8.2 h,a,b⟩
 · rintro ⟨p,q,h,rfl,rfl⟩
   have h:=k8.1 h
   have key:∀ a b,TG (Hh S) a b->TG (fun a b=>a < S.flatten.length/\b < S.flatten.length/\Cc S a b=true) (num S a) (num S b):=by
     intro a b h
     refine TG.map (num S) (fun a b h=>?_) h
     obtain ⟨⟨x,hx⟩,⟨y,hy⟩⟩:=nR (k8.2 (.one h))
     exact ⟨oA hx,oA hy,uH.2 ⟨a,b,h,rfl,rfl⟩⟩
   exact key p q h
theorem Gm {S:aL} {i k:Nat} (hi:i < S.flatten.length) (hk:k < S.flatten.length):TG (EA (aft S)) i k↔bef S i k=true:=by
 rw [D8,xR hi hk]
end Go.Dv.Qu
namespace Go.Dv.Qu
def jf (cs:List (List Bool)) (x:Item):List Int:=
 if x.kind=0 then ((cs.getD x.code.toNat []).zip x.args).filterMap fun p=>if p.1 then some p.2 else none
 else if x.kind=1 then [x.frm,x.dst] else if x.kind=2 then [x.dst] else []
def mw (cs:List (List Bool)) (x:Item):List Int:=
 if x.kind=0 then ((cs.getD x.code.toNat []).zip x.args).filterMap fun p=>if p.1 then some p.2 else none
 else if x.kind=1 then [x.dst] else if x.kind=2 then [x.dst] else []
def Bo (a b:List Int):Bool:=a.any fun i=>b.contains i
def jy (cs:List (List Bool)) (x y:Item):Bool:=Bo (jf cs x) (mw cs y) || Bo (mw cs x) (jf cs y)
theorem tW {a b:List Int}:Bo a b=true↔∃ i,i∈a/\i∈b:=by simp [Bo]
theorem BY {cs:List (List Bool)} {x:Item} {i:Int} (h:i∈mw cs x):i∈jf cs x:=by
 unfold mw at h
 unfold jf
 split at h
 · rename_i e; rw [if_pos e]; exact h
 · rename_i e
   rw [if_neg e]
   split at h
   · rename_i e'; rw [if_pos e']; simp at h ⊢; exact .inr h
   · rename_i e'
     rw [if_neg e']; exact h
theorem tJ {cs:List (List Bool)} {x y:Item}:jy cs x y=true↔∃ i,i∈jf cs x/\i∈jf cs y/\(i∈mw cs x∨i∈mw cs y):=by
 unfold jy
 rw [gM,tW,tW]
 constructor
 · rintro (⟨i,a,b⟩ | ⟨i,a,b⟩)
   · exact ⟨i,a,BY b,.inr b⟩
   · exact ⟨i,BY a,b,.inl a⟩
 · rintro ⟨i,a,b,c | c⟩
   · exact .inr ⟨i,c,b⟩
   · exact .inl ⟨i,a,c⟩
theorem CZ (cs:List (List Bool)) (x y:Item):jy cs x y=jy cs y x:=by
 rw [fA,tJ,tJ]
 exact ⟨fun ⟨i,a,b,c⟩=>⟨i,b,a,c.symm⟩,fun ⟨i,a,b,c⟩=>⟨i,b,a,c.symm⟩⟩
def jX (cs:List (List Bool)) (S:aL):Bool:=(bn S.flatten.length).all fun n=>(bn n).all fun k =>
 !jy cs (S.flatten.getD n default) (S.flatten.getD k default) || bef S n k || bef S k n
theorem uY {cs:List (List Bool)} {S:aL}:jX cs S=true↔∀ p q x y,at? S p=some x->at? S q=some y->p≠q->jy cs x y=true->jE S p q∨jE S q p:=by
 have hb:∀ {p q x y},at? S p=some x->at? S q=some y->(bef S (num S p) (num S q)=true↔jE S p q):=by
   intro p q x y hx hy
   rw [xR (oA hx) (oA hy)]
   constructor
   · rintro ⟨p',q',h,a,b⟩
     obtain ⟨⟨x',hx'⟩,⟨y',hy'⟩⟩:=nR h
     rw [<-lQ hx' hx a,<-lQ hy' hy b]; exact h
   · intro h; exact ⟨p,q,h,rfl,rfl⟩
 have hg:∀ {p x},at? S p=some x->S.flatten.getD (num S p) default=x:=fun h=>by
   rw [gde,kU h]; rfl
 unfold jX
 simp only [List.all_eq_true,fT,gM,Bool.not_eq_true']
 constructor
 · intro h p q x y hx hy hne ht
   have key:∀ {p q x y},at? S p=some x->at? S q=some y->num S q < num S p->jy cs x y=true->jE S p q∨jE S q p:=by
     intro p q x y hx hy hlt ht
     have:=h (num S p) (oA hx) (num S q) hlt
     rw [hg hx,hg hy,ht,hb hx hy,hb hy hx] at this
     rcases this with (h | h) | h
     · cases h
     · exact .inl h
     · exact .inr h
   rcases Nat.lt_trichotomy (num S p) (num S q) with c | c | c
   · exact (key hy hx c (by rw [CZ]; exact ht)).symm
   · exact absurd (lQ hx hy c) hne
   · exact key hx hy c ht
 · intro h n hn k hk
   obtain ⟨p,x,hp,hx,hf,e⟩:=jL hn
   obtain ⟨q,y,hq,hy,hf',e'⟩:=jL (S:=S) (n:=k) (by omega)
   have e1:n=num S p:=e
   have e2:k=num S q:=e'
   subst e1; subst e2
   rw [hg hx,hg hy,hb hx hy,hb hy hx]
   cases ht:jy cs x y with
   | false=>exact .inl (.inl rfl)
   | true =>
     rcases h p q x y hx hy (fun c=>by subst c; omega) ht with h | h
     · exact .inl (.inr h)
     · exact .inr h
def flip (S:aL) (p:Place):Place:=(S.length - 1 - p.1,p.2)
theorem lW {S:aL} {p:Place} {x:Item} (h:at? S p=some x):at? S.reverse (flip S p)=some x:=xy S h
theorem flip_flip {S:aL} {p:Place} (h:p.1 < S.length):flip S.reverse (flip S p)=p:=by
 obtain ⟨s,k⟩:=p
 simp only [flip,jt,Prod.mk.injEq,and_true]
 simp only at h
 omega
theorem G4 {S:aL} {p q:Place} (h:Edge S p q):Edge S.reverse (flip S p) (flip S q):=by
 rcases h with ⟨⟨x,y,hx,hy⟩,e1,e2⟩ | ⟨x,y,hx,hy,h3,h4,he,hu⟩
 · exact .inl ⟨⟨x,y,lW hx,lW hy⟩,by simp [flip,e1],by simp [flip,e2]⟩
 · refine .inr ⟨x,y,lW hx,lW hy,h3,h4,he,?_⟩
   rintro r ⟨z,hz,h3',he'⟩
   have hz2:=lW hz
   rw [eT] at hz2
   have:=hu _ ⟨z,hz2,h3',he'⟩
   rw [<-this]
   have:=flip_flip (S:=S.reverse) (p:=r) (rD hz).1
   rw [eT] at this
   exact this.symm
theorem pS {S:aL} {p q:Place} (h:jE S p q):jE S.reverse (flip S p) (flip S q):=TG.map (flip S) (fun _ _ h=>G4 h) h
theorem Bi (cs:List (List Bool)) (S:aL):jX cs S.reverse=jX cs S:=by
 have key:∀ S:aL,jX cs S.reverse=true->jX cs S=true:=by
   intro S h
   rw [uY] at h ⊢
   intro p q x y hx hy hne ht
   have fp:=flip_flip (S:=S) (p:=p) (rD hx).1
   have fq:=flip_flip (S:=S) (p:=q) (rD hy).1
   have:=h (flip S p) (flip S q) x y (lW hx) (lW hy) (fun c=>hne (by rw [<-fp,<-fq,c])) ht
   refine this.imp (fun h=>?_) fun h=>?_
   · have:=pS h
     rw [fp,fq,eT] at this; exact this
   · have:=pS h
     rw [fp,fq,eT] at this; exact this
 rw [fA]
 exact ⟨key S,fun h=>key S.reverse (by rw [eT]; exact h)⟩
def doI (m:List (List Int)) (x:Item):List (List Int):=
 if x.kind=1 then m.set x.dst.toNat (m.getD x.frm.toNat [])
 else if x.kind=2 then m.set x.dst.toNat (aA (m.getD x.dst.toNat []).length x.word) else m
def Plain (x:Item):Prop:=x.kind≠0/\(x.kind=1->0<=x.frm/\0<=x.dst)/\(x.kind=2->0<=x.dst)
theorem GD {α:Type} {l:List α} {i j:Nat} {v d:α}:(l.set i v).getD j d=if j=i/\i < l.length then v else l.getD j d:=by
 rw [gde,gde,de]
 by_cases e:i=j
 · subst e
   by_cases h:i < l.length <;> simp [h]
 · simp [e,Ne.symm e]
theorem LS {cs:List (List Bool)} {x y:Item} (hx:Plain x) (hy:Plain y) (ht:jy cs x y=false) (m:List (List Int)):doI (doI m x) y=doI (doI m y) x:=by
 have hn:∀ i,i∈jf cs x->i∈jf cs y->¬ (i∈mw cs x∨i∈mw cs y):=by
   intro i a b c
   have:jy cs x y=true:=tJ.2 ⟨i,a,b,c⟩
   rw [ht] at this; cases this
 have h21:¬ ((2:Int)=1):=by decide
 have dist:∀ {a b:Int},0<=a->0<=b->a≠b->a.toNat≠b.toNat:=by intro a b _ _ _; omega
 have look:∀ (m:List (List Int)) (i j:Nat) (v:List Int),j≠i->(m.set i v).getD j []=m.getD j []:=fun m i j v h=>by
   rw [GD,if_neg (fun c=>h c.1)]
 unfold doI
 by_cases x1:x.kind=1
 · obtain ⟨xf,xd⟩:=hx.2.1 x1
   have ux:jf cs x=[x.frm,x.dst]:=by simp [jf,x1]
   have cx:mw cs x=[x.dst]:=by simp [mw,x1]
   by_cases y1:y.kind=1
   · obtain ⟨yf,yd⟩:=hy.2.1 y1
     have uy:jf cs y=[y.frm,y.dst]:=by simp [jf,y1]
     have cy:mw cs y=[y.dst]:=by simp [mw,y1]
     rw [ux,cx,uy,cy] at hn
     have n1:x.dst≠y.dst:=fun e=>hn x.dst (by simp) (by simp [e]) (by simp)
     have n2:x.frm≠y.dst:=fun e=>hn x.frm (by simp) (by simp [e]) (by simp [e])
     have n3:y.frm≠x.dst:=fun e=>hn x.dst (by simp) (by simp [e]) (by simp)
     simp only [x1,y1,if_true]
     rw [look m _ _ _ (dist yf xd n3),look m _ _ _ (dist xf yd n2)]
     exact nX _ _ (dist xd yd n1)
   · simp only [x1,y1,if_true,if_false]
     by_cases y2:y.kind=2
     · have yd:=hy.2.2 y2
       have uy:jf cs y=[y.dst]:=by simp [jf,y2]
       have cy:mw cs y=[y.dst]:=by simp [mw,y2]
       rw [ux,cx,uy,cy] at hn
       have n1:x.dst≠y.dst:=fun e=>hn x.dst (by simp) (by simp [e]) (by simp)
       have n2:x.frm≠y.dst:=fun e=>hn x.frm (by simp) (by simp [e]) (by simp [e])
       simp only [y2,if_true]
       rw [look m _ _ _ (dist yd xd n1.symm),look m _ _ _ (dist xf yd n2)]
       exact nX _ _ (dist xd yd n1)
     · simp only [y2,if_false]
 · by_cases x2:x.kind=2
   · have xd:=hx.2.2 x2
     have ux:jf cs x=[x.dst]:=by simp [jf,x2]
     have cx:mw cs x=[x.dst]:=by simp [mw,x2]
     by_cases y1:y.kind=1
     · obtain ⟨yf,yd⟩:=hy.2.1 y1
       have uy:jf cs y=[y.frm,y.dst]:=by simp [jf,y1]
       have cy:mw cs y=[y.dst]:=by simp [mw,y1]
       rw [ux,cx,uy,cy] at hn
       have n1:x.dst≠y.dst:=fun e=>hn x.dst (by simp) (by simp [e]) (by simp)
       have n3:y.frm≠x.dst:=fun e=>hn x.dst (by simp) (by simp [e]) (by simp)
       simp only [x2,y1,if_true,if_false,h21]
       rw [look m _ _ _ (dist yf xd n3),look m _ _ _ (dist xd yd n1)]
       exact nX _ _ (dist xd yd n1)
     · by_cases y2:y.kind=2
       · have yd:=hy.2.2 y2
         have uy:jf cs y=[y.dst]:=by simp [jf,y2]
         have cy:mw cs y=[y.dst]:=by simp [mw,y2]
         rw [ux,cx,uy,cy] at hn
         have n1:x.dst≠y.dst:=fun e=>hn x.dst (by simp) (by simp [e]) (by simp)
         simp only [x2,y2,if_true,if_false,h21]
         rw [look m _ _ _ (dist yd xd n1.symm),look m _ _ _ (dist xd yd n1)]
         exact nX _ _ (dist xd yd n1)
       · simp only [x1,x2,y1,y2,if_true,if_false,h21]
   · simp only [x1,x2,if_false]
inductive RT (S:aL):List Nat->(Int->Bool)->List Place->Prop
 | init:RT S (aA S.length 0) (fun _=>false) []
 | step {a:List Nat} {R:Int->Bool} {L:List Place} {s:Nat} {x:Item}:RT S a R L->s∈ready S a R->cr S s (a.getD s 0)=some x->RT S (a.set s (a.getD s 0+1)) (yq R x) (L++[(s,a.getD s 0)])
theorem RT.reach {S:aL} {a:List Nat} {R:Int->Bool} {L:List Place} (h:RT S a R L):Reach S a R:=by
 induction h with
 | init=>exact .init
 | step _ hs hx ih=>exact .step ih hs hx
theorem RT.mem {S:aL} {a:List Nat} {R:Int->Bool} {L:List Place} (h:RT S a R L):(∀ p,p∈L↔p.2 < a.getD p.1 0)/\L.Nodup:=by
 induction h with
 | init =>
   have h0:∀ s,(aA S.length 0).getD s 0=0:=fun s=>by
     rw [gde,ki]; split <;> rfl
   exact ⟨fun p=>by rw [h0]; simp,by simp⟩
 | @step a R L s x hr hs hx ih =>
   have hsl:s < a.length:=by rw [hr.reach.length]; exact (ik hx).1
   refine ⟨fun p=>?_,List.nodup_append.2 ⟨ih.2,by simp,?_⟩⟩
   · rw [bJ,bg,ih.1,nO hsl]
     obtain ⟨t,k⟩:=p
     simp only [Prod.mk.injEq]
     by_cases e:t=s
     · subst e; simp only [true_and,if_pos]; omega
     · simp [e]
   · intro p hp q hq e
     rw [bg] at hq
     subst e; subst hq
     have:=(ih.1 _).1 hp
     simp only at this
     omega
theorem RT.down {S:aL} {a:List Nat} {R:Int->Bool} {L:List Place} (h:RT S a R L) :
   (∀ p x,p∈L->at? S p=some x->x.kind=4->R x.event=true)/\(∀ p q,Edge S p q->q∈L->p∈L)/\L.Pairwise (fun p q=>¬ jE S q p):=by
 induction h with
 | init=>exact ⟨by simp,by simp,by simp⟩
 | @step a R L s x hr hs hx ih =>
   obtain ⟨i1,i2,i3⟩:=ih
   have hm:=hr.mem.1
   obtain ⟨y,hy,hw⟩:=mem_ready.1 hs
   rw [hx] at hy; cases hy
   have hmono:∀ e,R e=true->yq R x e=true:=fun e h=>by unfold yq; split <;> simp [h]
   have d2:∀ p q,Edge S p q->q∈L++[(s,a.getD s 0)]->p∈L:=by
     intro p q he hq
     rw [bJ,bg] at hq
     rcases hq with hq | rfl
     · exact i2 p q he hq
     · rcases he with ⟨_,e1,e2⟩ | ⟨u,v,hu,hv,h3,h4,he,huq⟩
       · simp only at e1 e2
         rw [hm,e1]; omega
       · have:v=x:=by
           have:cr S s (a.getD s 0)=some v:=hv
           rw [hx] at this; exact (aC this).symm
         subst this
         obtain ⟨t,k,z,hk,hz,h3',he'⟩:=(hr.reach.inv.2.2 v.event).1 (hw h4)
         have:=huq (t,k) ⟨z,hz,h3',by rw [he',he]⟩
         rw [<-this,hm]; exact hk
   refine ⟨fun p z hp hz h4=>?_,fun p q he hq=>List.mem_append_left _ (d2 p q he hq),?_⟩
   · rw [bJ,bg] at hp
     rcases hp with hp | rfl
     · exact hmono _ (i1 p z hp hz h4)
     · have:cr S s (a.getD s 0)=some z:=hz
       rw [hx] at this; cases this
       exact hmono _ (hw h4)
   · rw [List.pairwise_append]
     refine ⟨i3,by simp,fun p hp q hq hb=>?_⟩
     rw [bg] at hq
     have key:∀ p q,jE S p q->q∈L->p∈L:=by
       intro p q hb
       induction hb with
       | one e=>exact i2 _ _ e
       | step e _ ih=>exact fun hq=>i2 _ _ e (ih hq)
     have:=key q p hb hp
     rw [hq,hm] at this
     simp only at this
     omega
def doP (S:aL) (m:List (List Int)) (p:Place):List (List Int):=doI m ((at? S p).getD default)
theorem HY {cs:List (List Bool)} {S:aL} (hp:∀ p x,at? S p=some x->Plain x) (ho:jX cs S=true) {a b:List Nat} {R Q:Int->Bool} {L K:List Place}
   (h:RT S a R L) (h0:(left S a).sum=0) (k:RT S.reverse b Q K) (k0:(left S.reverse b).sum=0) (m:List (List Int)) :
   L.foldl (doP S) m=K.foldl (doP S.reverse) m:=by
 have hL:∀ p,p∈L↔∃ x,at? S p=some x:=fun p=>by
   rw [h.mem.1]
   constructor
   · intro hk
     exact oE (bm hk (h.reach.inv.1 p.1))
   · rintro ⟨x,hx⟩; exact qq.1 h0 p.1 p.2 x hx
 have hK:∀ p,p∈K↔∃ x,at? S.reverse p=some x:=fun p=>by
   rw [k.mem.1]
   constructor
   · intro hk
     exact oE (bm hk (k.reach.inv.1 p.1))
   · rintro ⟨x,hx⟩; exact qq.1 k0 p.1 p.2 x hx
 have back:∀ p x,at? S.reverse p=some x->at? S (flip S.reverse p)=some x:=fun p x h=>by
   have:=lW h
   rwa [eT] at this
 have ff:∀ p,p.1 < S.length->flip S (flip S.reverse p)=p:=fun p h=>by
   have:=flip_flip (S:=S.reverse) (p:=p) (by simpa using h)
   rwa [eT] at this
 have inj:∀ p q,p∈K->q∈K->flip S.reverse p=flip S.reverse q->p=q:=fun p q hp hq e=>by
   obtain ⟨x,hx⟩:=(hK p).1 hp
   obtain ⟨y,hy⟩:=(hK q).1 hq
   have l1:=(rD hx).1
   have l2:=(rD hy).1
   rw [jt] at l1 l2
   rw [<-ff p l1,<-ff q l2,e]
 have hfold:K.foldl (doP S.reverse) m=(K.map (flip S.reverse)).foldl (doP S) m:=by
   rw [List.foldl_map]
   have:∀ (K:List Place),(∀ p∈K,∃ x,at? S.reverse p=some x)->∀ m,K.foldl (doP S.reverse) m=K.foldl (fun m p=>doP S m (flip S.reverse p)) m:=by
     intro K
     induction K with
     | nil=>intro _ m; rfl
     | cons p K ih =>
       intro hK m
       obtain ⟨x,hx⟩:=hK p (by simp)
       rw [l4,l4,show doP S.reverse m p=doP S m (flip S.reverse p) by unfold doP; rw [hx,back p x hx]]
       exact ih (fun q hq=>hK q (by simp [hq])) _
   exact this K (fun p hp=>(hK p).1 hp) m
 rw [hfold]
 have hnm:(K.map (flip S.reverse)).Nodup:=by
   have:=k.mem.2
   unfold List.Nodup at this ⊢
   rw [Hj]
   exact (tH.2 fun {p q} hs e=>by
     have hp:=hs.subset (show p∈[p,q] by simp)
     have hq:=hs.subset (show q∈[p,q] by simp)
     have:=inj p q hp hq e
     subst this
     have:=(tH.1 k.mem.2) hs
     exact this rfl)
 have hperm:L.Perm (K.map (flip S.reverse)):=by
   refine (List.perm_ext_iff_of_nodup h.mem.2 hnm).2 fun p=>?_
   rw [hL,List.mem_map]
   constructor
   · rintro ⟨x,hx⟩
     refine ⟨flip S p,(hK _).2 ⟨x,lW hx⟩,?_⟩
     exact flip_flip (rD hx).1
   · rintro ⟨q,hq,rfl⟩
     obtain ⟨x,hx⟩:=(hK q).1 hq
     exact ⟨x,back q x hx⟩
 refine wD (jE S) (doP S) L (K.map (flip S.reverse)) hperm h.mem.2 h.down.2.2 ?_ ?_ m
 · rw [Hj]
   refine k.down.2.2.imp_of_mem fun {p q} hp hq hb hc=>hb ?_
   have:=pS hc
   obtain ⟨x,hx⟩:=(hK p).1 hp
   obtain ⟨y,hy⟩:=(hK q).1 hq
   have l1:=(rD hx).1
   have l2:=(rD hy).1
   rw [jt] at l1 l2
   rwa [ff q l2,ff p l1] at this
 · intro p hpL q hqL hne n1 n2 m
   obtain ⟨x,hx⟩:=(hL p).1 hpL
   obtain ⟨y,hy⟩:=(hL q).1 hqL
   unfold doP
   rw [hx,hy]
   simp only [e7]
   have ht:jy cs x y=false:=by
     cases ht:jy cs x y with
     | false=>rfl
     | true =>
       rcases (uY.1 ho) p q x y hx hy hne ht with h | h
       · exact absurd h n1
       · exact absurd h n2
   exact LS (hp p x hx) (hp q y hy) ht m
end Go.Dv.Qu
namespace Go.Dv
open Go.Proofs
attribute [local congr] aH bP bj bO bQ
def qi (x:Itm):Qu.Item:=⟨x.kind,x.code,x.grid,x.block,x.src,x.dst,x.ev,x.args,x.word⟩
def qS (ss:List (List Itm)):Qu.aL:=ss.map (·.map qi)
def rF (rc:List Bool):Int->Bool:=fun e=>decide (0<=e) && rc.getD e.toNat false
theorem wR (ss:List (List Itm)):(qS ss).length=ss.length:=by unfold qS; rw [au]
theorem ny {ss:List (List Itm)} {s:Nat} (h:s < ss.length):ss[s]? =some (aR ss s):=by
 unfold aR; rw [gde,aj h]; rfl
theorem sq {ss:List (List Itm)} {s:Nat} (h:ss.length<=s):aR ss s=[]:=by
 unfold aR; rw [gde,aT h]; rfl
theorem xx {xs:List Itm} {k:Nat} (h:k < xs.length):xs[k]? =some (bB xs k):=by
 unfold bB; rw [gde,aj h]; rfl
theorem Ep (ss:List (List Itm)) (s:Nat):(qS ss).getD s []=(aR ss s).map qi:=by
 unfold qS
 rw [gde,aI]
 rcases aY s ss.length with h | h
 · rw [ny h]; rfl
 · rw [aT h,sq h]; rfl
theorem qu {ss:List (List Itm)} {s k:Nat} (h:k < (aR ss s).length):Qu.cr (qS ss) s k=some (qi (bB (aR ss s) k)):=by
 have hs:s < ss.length:=by
   rcases aY s ss.length with c | c
   · exact c
   · rw [sq c] at h; simp at h
 unfold Qu.cr qS
 rw [aI,ny hs,cE,ay,aI,xx h]; rfl
theorem s0 {ss:List (List Itm)} {s k:Nat} (h:(aR ss s).length<=k):Qu.cr (qS ss) s k=none:=by
 unfold Qu.cr qS
 rw [aI]
 rcases aY s ss.length with c | c
 · rw [ny c,cE,ay,aI,aT h]; rfl
 · rw [aT c]; rfl
theorem BD {ss:List (List Itm)} {s k:Nat} {y:Qu.Item}:Qu.cr (qS ss) s k=some y↔k < (aR ss s).length/\y=qi (bB (aR ss s) k):=by
 rcases aY k (aR ss s).length with c | c
 · rw [qu c]
   exact ⟨fun h=>⟨c,(aC h).symm⟩,fun h=>by rw [h.2]⟩
 · rw [s0 c]
   exact ⟨fun h=>(by cases h),fun h=>absurd h.1 (by omega)⟩
def uM (ss:List (List Itm)):Prop:=∀ l∈ss,∀ x∈l,(x.kind=3∨x.kind=4)->0<=x.ev/\x.ev < 16
theorem gO {ss:List (List Itm)} {s:Nat} (h:s < ss.length):aR ss s∈ss:=jc (ny h)
theorem fu {xs:List Itm} {k:Nat} (h:k < xs.length):bB xs k∈xs:=jc (xx h)
theorem uM.at {ss:List (List Itm)} (h:uM ss) {s k:Nat} (hk:k < (aR ss s).length) (hx:(bB (aR ss s) k).kind=3∨(bB (aR ss s) k).kind=4):0<=(bB (aR ss s) k).ev/\(bB (aR ss s) k).ev < 16:=by
 have hs:s < ss.length:=by
   rcases aY s ss.length with c | c
   · exact c
   · rw [sq c] at hk; simp at hk
 exact h _ (gO hs) _ (fu hk) hx
theorem Ot {ss:List (List Itm)} (hev:uM ss) (ad:List Nat) (rc:List Bool) (s:Nat):Qu.I4 (qS ss) ad (rF rc) s=okS ss ad rc s:=by
 unfold Qu.I4 okS
 rcases aY (ad.getD s 0) (aR ss s).length with c | c
 · rw [qu c,cQ (by omega),aZ]
   show ((bB (aR ss s) (ad.getD s 0)).kind != 4 || rF rc (bB (aR ss s) (ad.getD s 0)).ev)=_
   unfold eqB
   cases hk:((bB (aR ss s) (ad.getD s 0)).kind == 4) with
   | false=>rw [bne,hk]; rfl
   | true =>
     have h4:(bB (aR ss s) (ad.getD s 0)).kind=4:=by simpa using hk
     have:=hev.at c (.inr h4)
     simp only [bne,hk,Bool.not_true,Bool.false_or,rF]
     rw [decide_eq_true this.1,aZ]
 · rw [s0 c,db (by omega),Bool.false_and]
theorem wO {ss:List (List Itm)} (hev:uM ss) (ad:List Nat) (rc:List Bool):Qu.ready (qS ss) ad (rF rc)=dv ss ad rc ss.length:=by
 unfold Qu.ready dv
 rw [wR,show Qu.I4 (qS ss) ad (rF rc)=okS ss ad rc from funext fun s=>Ot hev ad rc s]
theorem z8 (ss:List (List Itm)) (ad:List Nat):Qu.left (qS ss) ad=fh ss ad ss.length:=by
 unfold Qu.left fh
 rw [wR]
 refine List.map_congr_left fun s _=>?_
 rw [Ep,au]
def doM (m:List (List Int)) (x:Itm):List (List Int):=
 if x.kind=1 then m.set x.dst.toNat (bG m x.src.toNat)
 else if x.kind=2 then m.set x.dst.toNat (aA (bG m x.dst.toNat).length x.word) else m
def doR (rc:List Bool) (x:Itm):List Bool:=if x.kind=3 then rc.set x.ev.toNat true else rc
def doA (ad:List Nat) (s:Nat):List Nat:=ad.set s (ad.getD s 0+1)
theorem SP {rc:List Bool} (hl:rc.length=16) {x:Itm} (hx:x.kind=3->0<=x.ev/\x.ev < 16):rF (doR rc x)=Qu.yq (rF rc) (qi x):=by
 unfold doR Qu.yq
 show _=if x.kind=3 then (fun e=>rF rc e || e == x.ev) else rF rc
 by_cases h:x.kind=3
 · rw [if_pos h,if_pos h]
   obtain ⟨h0,h1⟩:=hx h
   funext e
   unfold rF
   rw [fA]
   simp only [aD,gM,decide_eq_true_iff,beq_iff_eq,gde,de]
   by_cases he:x.ev.toNat=e.toNat
   · rw [if_pos he,if_pos (by omega)]
     simp only [e7,and_true]
     constructor
     · intro h; exact .inr (by omega)
     · rintro (⟨h,_⟩ | h) <;> omega
   · rw [if_neg he]
     constructor
     · intro h; exact .inl h
     · rintro (h | h)
       · exact h
       · exact absurd (by rw [h]) he
 · rw [if_neg h,if_neg h]
theorem Nt:rF (aA 16 false)=fun _=>false:=by
 funext e
 unfold rF
 rw [gde,ki]
 by_cases h:e.toNat < 16
 · rw [if_pos h]; simp
 · rw [if_neg h]; simp
theorem mf {ss:List (List Itm)} {ad:List Nat} {rc:List Bool} {n s:Nat} (h:s∈dv ss ad rc n):s < n/\okS ss ad rc s=true:=by
 unfold dv at h
 rw [gf,fT] at h; exact h
theorem w7 {ss:List (List Itm)} {ad:List Nat} {rc:List Bool} {s:Nat} (h:okS ss ad rc s=true):ad.getD s 0 < (aR ss s).length:=by
 unfold okS at h
 rw [aD,dC] at h
 exact Int.ofNat_lt.1 h.1
theorem Na {ss:List (List Itm)} (hev:uM ss) {ad:List Nat} {rc:List Bool} {L:List Qu.Place} (hl:rc.length=16) (h:Qu.RT (qS ss) ad (rF rc) L) {s:Nat} (hs:s∈dv ss ad rc ss.length) :
   Qu.RT (qS ss) (doA ad s) (rF (doR rc (bB (aR ss s) (ad.getD s 0)))) (L++[(s,ad.getD s 0)]):=by
 have hk:=w7 (mf hs).2
 rw [SP hl fun h3=>hev.at hk (.inl h3)]
 exact .step h (by rw [wO hev]; exact hs) (qu hk)
end Go.Dv
