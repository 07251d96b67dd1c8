/- Part 16 of the walks (own work). -/
import Derived.Test.YtilpjnckfkjkbaaGreatDoorT15
import Derived.Test.YtilpjnckfkjkbaaGreatDoorT14
open Bool renaming and_eq_true→aC,eq_iff_iff→fM,or_eq_true→gz,true_and→bd
open List renaming append_assoc→aG,append_nil→af,contains_iff_mem→qn,getElem?_append_right→al,getElem?_eq_getElem→aj,getElem?_eq_none→aH,getElem?_map→aM,length_append→ai,length_eq_zero_iff→dA,length_map→ar,mem_filter→fG,mem_of_getElem?→jm,mem_range→eP,mem_singleton→bF,range→bn,replicate→ay
open Nat renaming le_add_right→du,le_refl→ax,lt_or_ge→aX,mul_eq_zero→NL,zero_add→c7,zero_mul→nK
open Option renaming bind_some→aA,getD_some→fq,map_some→cE
open Option.some renaming inj→aE
open Go.Proofs.Tryz renaming prog→aa
set_option maxRecDepth 100000
set_option maxHeartbeats 4000000
set_option linter.unusedSimpArgs false
set_option linter.unusedVariables false
namespace Go.Dv.Qu
def jO (x:Item) (e:Int):Bool:=x.kind == 3 && x.event == e
def lW (S:aU) (e:Int):List Nat:=(bn S.flatten.length).filter fun n=>((S.flatten[n]?).map fun x=>jO x e).getD false
def nxt (S:aU) (n:Nat):List Nat:=match (places S)[n]? with
 | some p=>if p.2+1 < (S.getD p.1 []).length then [n+1] else []
 | none=>[]
def waits (S:aU) (n m:Nat):Bool:=match S.flatten[m]? with
 | some y=>y.kind == 4 && lW S y.event == [n]
 | none=>false
def lQ (S:aU) (m n:Nat):List Nat:=nxt S n++(bn m).filter (waits S n)
def aft (S:aU):List (List Nat):=(bn S.flatten.length).map (lQ S S.flatten.length)
def lP (S:aU) (i k:Nat):Bool:=match (places S)[i]?,(places S)[k]?,S.flatten[i]?,S.flatten[k]? with
 | some p,some q,some x,some y=>(p.1 == q.1 && decide (p.2 < q.2)) || (x.kind == 3 && y.kind == 4 && x.event == y.event && (lW S x.event).length == 1)
 | _,_,_,_=>false
def bef (S:aU) (i k:Nat):Bool:=wn (lP S) S.flatten.length i k
def num (S:aU) (p:Place):Nat:=off S p.1+p.2
theorem oI {S:aU} {p:Place} {x:Item} (h:at? S p=some x):(places S)[num S p]? =some p:=oF h
theorem mz {S:aU} {p:Place} {x:Item} (h:at? S p=some x):S.flatten[num S p]? =some x:=oP S p.1 p.2 x h
theorem sc {S:aU} {p:Place} {x:Item} (h:at? S p=some x):num S p < S.flatten.length:=by
 have:=mz h
 rcases aX (num S p) S.flatten.length with c | c
 · exact c
 · rw [aH c] at this; cases this
theorem oJ {S:aU} {p q:Place} {x y:Item} (h:at? S p=some x) (h':at? S q=some y) (e:num S p=num S q):p=q:=by
 obtain ⟨a,b⟩:=Fy h h' e
 exact Prod.ext a b
theorem pN {S:aU} {e:Int} {n:Nat}:n∈lW S e↔∃ p,isRec S e p/\num S p=n:=by
 unfold lW
 rw [fG,eP]
 constructor
 · rintro ⟨hn,h⟩
   obtain ⟨p,x,hp,hx,hf,e2⟩:=kL hn
   rw [hf] at h
   simp only [cE,fq,jO,aC,beq_iff_eq] at h
   exact ⟨p,⟨x,hx,h.1,h.2⟩,e2.symm⟩
 · rintro ⟨p,⟨x,hx,h3,he⟩,rfl⟩
   refine ⟨sc hx,?_⟩
   rw [mz hx]
   simp [jO,h3,he]
theorem DY (S:aU) (e:Int):(lW S e).Nodup:=List.nodup_range.sublist List.filter_sublist
theorem TU {l:List Nat} {n:Nat} (hn:l.Nodup) (hm:n∈l) (h:∀ r∈l,r=n):l=[n]:=by
 cases l with
 | nil=>simp at hm
 | cons a l =>
   have ha:=h a (by simp)
   subst ha
   cases l with
   | nil=>rfl
   | cons b l =>
     have hb:=h b (by simp)
     subst hb
     simp at hn
theorem sU {S:aU} {p:Place} {x:Item} (h:at? S p=some x) (h3:x.kind=3):lW S x.event=[num S p]↔∀ r,isRec S x.event r->r=p:=by
 constructor
 · intro e r hr
   have:num S r∈lW S x.event:=pN.2 ⟨r,hr,rfl⟩
   rw [e,bF] at this
   obtain ⟨y,hy,_⟩:=hr
   exact oJ hy h this
 · intro hu
   refine TU (DY S _) (pN.2 ⟨p,⟨x,h,h3,rfl⟩,rfl⟩) fun r hr=>?_
   obtain ⟨q,hq,rfl⟩:=pN.1 hr
   rw [hu q hq]
theorem mM {S:aU} {n m:Nat}:EA (aft S) n m↔∃ p q,Edge S p q/\num S p=n/\num S q=m:=by
 unfold EA aft
 rw [gde,aM]
 rcases aX n S.flatten.length with hn | hn
 · rw [List.getElem?_range hn]
   simp only [cE,fq,lQ,List.mem_append,fG,eP]
   obtain ⟨p,x,hp,hx,hf,e⟩:=kL hn
   constructor
   · rintro (h | ⟨hm,h⟩)
     · unfold nxt at h
       rw [hp] at h
       simp only at h
       split at h
       · rename_i hlt
         rw [bF] at h
         obtain ⟨z,hz⟩:=tr hlt
         exact ⟨p,(p.1,p.2+1),.inl ⟨⟨x,z,hx,hz⟩,rfl,rfl⟩,e.symm,by rw [h,e]; simp only [num]; omega⟩
       · simp at h
     · obtain ⟨q,y,hq,hy,hf',e'⟩:=kL hm
       unfold waits at h
       rw [hf'] at h
       simp only [aC,beq_iff_eq] at h
       have hmem:n∈lW S y.event:=by rw [h.2]; simp
       obtain ⟨r,hr,hrn⟩:=pN.1 hmem
       obtain ⟨z,hz,h3,he⟩:=hr
       have hrp:r=p:=oJ hz hx (by rw [hrn,e]; rfl)
       subst hrp
       rw [hx] at hz; cases hz
       refine ⟨r,q,.inr ⟨x,y,hx,hy,h3,h.1,he,?_⟩,hrn,e'.symm⟩
       have:=h.2
       rw [<-he,<-hrn] at this
       exact (sU hx h3).1 this
   · rintro ⟨p',q,he,hpn,hqm⟩
     rcases he with ⟨⟨x',y,hx',hy⟩,e1,e2⟩ | ⟨x',y,hx',hy,h3,h4,he,hu⟩
     · have:p'=p:=oJ hx' hx (by rw [hpn,e]; rfl)
       subst this
       left
       unfold nxt
       rw [hp]
       have:=(Sw hy).2
       rw [<-e1,e2] at this
       simp only
       rw [if_pos this,bF,<-hqm,e]
       simp only [num,<-e1,e2]; omega
     · have:p'=p:=oJ hx' hx (by rw [hpn,e]; rfl)
       subst this
       right
       refine ⟨by rw [<-hqm]; exact sc hy,?_⟩
       unfold waits
       rw [<-hqm,mz hy]
       simp only [aC,beq_iff_eq]
       refine ⟨h4,?_⟩
       rw [<-he,(sU hx' h3).2 hu,hpn]
 · rw [aH (by simpa using hn)]
   simp only [Option.map_none,Option.getD_none,List.not_mem_nil,false_iff]
   rintro ⟨p,q,he,hpn,_⟩
   obtain ⟨x,hx⟩:=(l5 he).1
   have:=sc hx
   omega
theorem Np {S:aU}:∀ l∈aft S,∀ y∈l,y < S.flatten.length:=by
 intro l hl y hy
 obtain ⟨n,hn⟩:=List.getElem?_of_mem hl
 have:EA (aft S) n y:=by unfold EA; rw [gde,hn]; exact hy
 obtain ⟨p,q,he,_,hq⟩:=mM.1 this
 obtain ⟨z,hz⟩:=(l5 he).2
 rw [<-hq]; exact sc hz
theorem GG (S:aU):(aft S).length=S.flatten.length:=by simp [aft]
theorem E1 {S:aU} {n m:Nat}:TG (EA (aft S)) n m↔∃ p q,yY S p q/\num S p=n/\num S q=m:=by
 constructor
 · intro h
   induction h with
   | one h =>
     obtain ⟨p,q,he,a,b⟩:=mM.1 h
     exact ⟨p,q,.one he,a,b⟩
   | step h _ ih =>
     obtain ⟨p,q,he,a,b⟩:=mM.1 h
     obtain ⟨p',q',he',a',b'⟩:=ih
     obtain ⟨x,hx⟩:=(qO he').1
     obtain ⟨y,hy⟩:=(l5 he).2
     have:p'=q:=oJ hx hy (a'.trans b.symm)
     subst this
     exact ⟨p,q',.step he he',a,b'⟩
 · rintro ⟨p,q,h,rfl,rfl⟩
   exact TG.map (num S) (fun a b e=>mM.2 ⟨a,b,e,rfl,rfl⟩) h
theorem QH {S:aU} (h:jI S) (n:Nat):Acc (EA (aft S)) n:=by
 have key:∀ p,Acc (Edge S) p->∀ x,at? S p=some x->Acc (EA (aft S)) (num S p):=by
   intro p hp
   induction hp with
   | intro p _ ih =>
     intro x hx
     refine ⟨_,fun m hm=>?_⟩
     obtain ⟨a,b,he,ha,hb⟩:=mM.1 hm
     obtain ⟨y,hy⟩:=(l5 he).2
     have:b=p:=oJ hy hx hb
     subst this
     obtain ⟨z,hz⟩:=(l5 he).1
     rw [<-ha]; exact ih a he z hz
 refine ⟨_,fun m hm=>?_⟩
 obtain ⟨a,b,he,ha,hb⟩:=mM.1 hm
 obtain ⟨z,hz⟩:=(l5 he).1
 rw [<-ha]
 exact key a (Dr (h a.1 a.2 z hz)) z hz
theorem u6 {S:aU} {i k:Nat}:lP S i k=true↔∃ p q,Im S p q/\num S p=i/\num S q=k:=by
 unfold lP
 constructor
 · intro h
   split at h
   · rename_i p q x y hp hq hx hy
     have hi:i < S.flatten.length:=by
       rcases aX i S.flatten.length with c | c
       · exact c
       · rw [aH c] at hx; cases hx
     have hk:k < S.flatten.length:=by
       rcases aX k S.flatten.length with c | c
       · exact c
       · rw [aH c] at hy; cases hy
     obtain ⟨p',x',hp',hx',hf,e⟩:=kL hi
     obtain ⟨q',y',hq',hy',hf',e'⟩:=kL hk
     rw [hp] at hp'; cases hp'
     rw [hq] at hq'; cases hq'
     rw [hx] at hf; cases hf
     rw [hy] at hf'; cases hf'
     simp only [gz,aC,beq_iff_eq,decide_eq_true_eq] at h
     refine ⟨p,q,?_,e.symm,e'.symm⟩
     rcases h with ⟨a,b⟩ | ⟨⟨⟨a,b⟩,c⟩,d⟩
     · exact .inl ⟨⟨x,y,hx',hy'⟩,a,b⟩
     · refine .inr ⟨x,y,hx',hy',a,b,c,(sU hx' a).1 ?_⟩
       have hm:num S p∈lW S x.event:=pN.2 ⟨p,⟨x,hx',a,rfl⟩,rfl⟩
       rw [List.length_eq_one_iff] at d
       obtain ⟨r,hr⟩:=d
       rw [hr,bF] at hm
       rw [hr,hm]
   · cases h
 · rintro ⟨p,q,h,rfl,rfl⟩
   rcases h with ⟨⟨x,y,hx,hy⟩,a,b⟩ | ⟨x,y,hx,hy,h3,h4,he,hu⟩
   · rw [oI hx,oI hy,mz hx,mz hy]
     simp [a,b]
   · rw [oI hx,oI hy,mz hx,mz hy]
     simp [h3,h4,he]
     right
     rw [<-he,(sU hx h3).2 hu]; rfl
theorem EU {S:aU} {i k:Nat} (hi:i < S.flatten.length) (hk:k < S.flatten.length):bef S i k=true↔∃ p q,yY S p q/\num S p=i/\num S q=k:=by
 unfold bef
 rw [NR hi hk]
 constructor
 · intro h
   have key:∀ a b,TG (fun a b=>a < S.flatten.length/\b < S.flatten.length/\lP S a b=true) a b->∃ p q,TG (Im S) p q/\num S p=a/\num S q=b:=by
     intro a b h
     induction h with
     | one h =>
       obtain ⟨p,q,he,a,b⟩:=u6.1 h.2.2
       exact ⟨p,q,.one he,a,b⟩
     | step h _ ih =>
       obtain ⟨p,q,he,a,b⟩:=u6.1 h.2.2
       obtain ⟨p',q',he',a',b'⟩:=ih
       obtain ⟨x,hx⟩:=(qO (lz.2 he')).1
       obtain ⟨y,hy⟩:=(qO (lz.2 (.one he))).2
       have:p'=q:=oJ hx hy (a'.trans b.symm)
       subst this
       exact ⟨p,q',.step he he',a,b'⟩
   obtain ⟨p,q,h,a,b⟩:=key i k h
   exact ⟨p,q,lz.2 h,a,b⟩
 · rintro ⟨p,q,h,rfl,rfl⟩
   have h:=lz.1 h
   have key:∀ a b,TG (Im S) a b->TG (fun a b=>a < S.flatten.length/\b < S.flatten.length/\lP S a b=true) (num S a) (num S b):=by
     intro a b h
     refine TG.map (num S) (fun a b h=>?_) h
     obtain ⟨⟨x,hx⟩,⟨y,hy⟩⟩:=qO (lz.2 (.one h))
     exact ⟨sc hx,sc hy,u6.2 ⟨a,b,h,rfl,rfl⟩⟩
   exact key p q h
theorem ur {S:aU} {i k:Nat} (hi:i < S.flatten.length) (hk:k < S.flatten.length):TG (EA (aft S)) i k↔bef S i k=true:=by
 rw [E1,EU hi hk]
theorem ID {S:aU} (h:jI S) {D w b:List Nat} (ho:KO (aft S) S.flatten.length D w b []) :
   w=rR (bef S) S.flatten.length S.flatten.length/\∀ i k,i < S.flatten.length->k < S.flatten.length->bef S i k=true->w.getD i 0 < w.getD k 0:=by
 obtain ⟨f1,f2,f3⟩:=ho.fin fun y _=>QH h y
 have g1:∀ i k,i < S.flatten.length->k < S.flatten.length->bef S i k=true->w.getD i 0+1<=w.getD k 0:=by
   intro i k hi hk hb
   have:=(ur hi hk).2 hb
   clear hb hk
   induction this with
   | one e=>exact f1 _ _ hi e
   | step e _ ih =>
     rename_i b c _
     have hb:b < S.flatten.length:=by
       obtain ⟨p,q,he,_,hq⟩:=mM.1 e
       obtain ⟨z,hz⟩:=(l5 he).2
       rw [<-hq]; exact sc hz
     have:=f1 _ _ hi e
     have:=ih hb
     omega
 refine ⟨?_,g1⟩
 have key:=Ox (M:=bef S) (N:=S.flatten.length) (w:=fun k=>w.getD k 0) g1 (fun k hk=>(f2 k hk).imp id fun ⟨i,hi,e,r⟩=>⟨i,hi,(ur hi hk).1 (.one e),r⟩) S.flatten.length
 apply List.ext_getElem?
 intro k
 rcases aX k S.flatten.length with hk | hk
 · have:=key.2 k hk (f3 k hk)
   rw [gde,gde,aj (l:=w) (by rw [ho.lw]; exact hk),aj (l:=rR _ _ _) (by rw [D0]; exact hk)] at this
   rw [aj (l:=w) (by rw [ho.lw]; exact hk),aj (l:=rR _ _ _) (by rw [D0]; exact hk)]
   simpa using this.symm
 · rw [aH (l:=w) (by rw [ho.lw]; exact hk),aH (by rw [D0]; exact hk)]
end Go.Dv.Qu
namespace Go.Dv.Qu
def mo (cs:List (List Bool)) (x:Item):List Int:=
 if x.kind=0 then ((cs.getD x.code.toNat []).zip x.args).filterMap fun p=>if p.1 then some p.2 else none
 else if x.kind=1 then [x.frm,x.dst] else if x.kind=2 then [x.dst] else []
def tL (cs:List (List Bool)) (x:Item):List Int:=
 if x.kind=0 then ((cs.getD x.code.toNat []).zip x.args).filterMap fun p=>if p.1 then some p.2 else none
 else if x.kind=1 then [x.dst] else if x.kind=2 then [x.dst] else []
def B7 (a b:List Int):Bool:=a.any fun i=>b.contains i
def rZ (cs:List (List Bool)) (x y:Item):Bool:=B7 (mo cs x) (tL cs y) || B7 (tL cs x) (mo cs y)
def xz (cs:List (List Bool)) (x y:Item):Bool:=(bn 6).any fun i =>
 (mo cs x).contains (i:Int) && (mo cs y).contains (i:Int) && ((tL cs x).contains (i:Int) || (tL cs y).contains (i:Int))
theorem uG {a b:List Int}:B7 a b=true↔∃ i,i∈a/\i∈b:=by simp [B7]
theorem CH {cs:List (List Bool)} {x:Item} {i:Int} (h:i∈tL cs x):i∈mo cs x:=by
 unfold tL at h
 unfold mo
 split at h
 · rename_i e; rw [if_pos e]; exact h
 · rename_i e
   rw [if_neg e]
   split at h
   · rename_i e'; rw [if_pos e']; simp at h ⊢; exact .inr h
   · rename_i e'
     rw [if_neg e']; exact h
theorem uf {cs:List (List Bool)} {x y:Item}:rZ cs x y=true↔∃ i,i∈mo cs x/\i∈mo cs y/\(i∈tL cs x∨i∈tL cs y):=by
 unfold rZ
 rw [gz,uG,uG]
 constructor
 · rintro (⟨i,a,b⟩ | ⟨i,a,b⟩)
   · exact ⟨i,a,CH b,.inr b⟩
   · exact ⟨i,CH a,b,.inl a⟩
 · rintro ⟨i,a,b,c | c⟩
   · exact .inr ⟨i,c,b⟩
   · exact .inl ⟨i,a,c⟩
theorem DN (cs:List (List Bool)) (x y:Item):rZ cs x y=rZ cs y x:=by
 rw [fM,uf,uf]
 exact ⟨fun ⟨i,a,b,c⟩=>⟨i,b,a,c.symm⟩,fun ⟨i,a,b,c⟩=>⟨i,b,a,c.symm⟩⟩
theorem BP {cs:List (List Bool)} {x y:Item} (h:∀ i∈mo cs x,0<=i/\i < 6):xz cs x y=rZ cs x y:=by
 rw [fM,uf]
 unfold xz
 rw [List.any_eq_true]
 constructor
 · rintro ⟨i,_,h⟩
   simp only [aC,gz,qn] at h
   exact ⟨i,h.1.1,h.1.2,h.2⟩
 · rintro ⟨i,a,b,c⟩
   obtain ⟨h0,h6⟩:=h i a
   refine ⟨i.toNat,eP.2 (by omega),?_⟩
   simp only [aC,gz,qn]
   rw [show ((i.toNat:Nat):Int)=i by omega]
   exact ⟨⟨a,b⟩,c⟩
def doI (m:List (List Int)) (x:Item):List (List Int):=
 if x.kind=1 then m.set x.dst.toNat (m.getD x.frm.toNat [])
 else if x.kind=2 then m.set x.dst.toNat (ay (m.getD x.dst.toNat []).length x.word) else m
inductive RT (S:aU):List Nat->(Int->Bool)->List Place->Prop
 | init:RT S (ay S.length 0) (fun _=>false) []
 | step {a:List Nat} {R:Int->Bool} {L:List Place} {s:Nat} {x:Item}:RT S a R L->s∈ready S a R->cS S s (a.getD s 0)=some x->RT S (a.set s (a.getD s 0+1)) (BQ R x) (L++[(s,a.getD s 0)])
theorem RT.reach {S:aU} {a:List Nat} {R:Int->Bool} {L:List Place} (h:RT S a R L):Reach S a R:=by
 induction h with
 | init=>exact .init
 | step _ hs hx ih=>exact .step ih hs hx
def doP (S:aU) (m:List (List Int)) (p:Place):List (List Int):=doI m ((at? S p).getD default)
end Go.Dv.Qu
namespace Go.Dv
open Go.Proofs
attribute [local congr] aF bC aY bB bD
def qi (x:Itm):Qu.Item:=⟨x.kind,x.code,x.grid,x.block,x.src,x.dst,x.ev,x.args,x.word⟩
def qS (ss:List (List Itm)):Qu.aU:=ss.map (·.map qi)
def rF (rc:List Bool):Int->Bool:=fun e=>decide (0<=e) && rc.getD e.toNat false
theorem r9 (ss:List (List Itm)):(qS ss).length=ss.length:=by unfold qS; rw [ar]
theorem nM {ss:List (List Itm)} {s:Nat} (h:s < ss.length):ss[s]? =some (aW ss s):=by
 unfold aW; rw [gde,aj h]; rfl
theorem sK {ss:List (List Itm)} {s:Nat} (h:ss.length<=s):aW ss s=[]:=by
 unfold aW; rw [gde,aH h]; rfl
theorem yi {xs:List Itm} {k:Nat} (h:k < xs.length):xs[k]? =some (bz xs k):=by
 unfold bz; rw [gde,aj h]; rfl
theorem wu (ss:List (List Itm)) (s:Nat):(qS ss).getD s []=(aW ss s).map qi:=by
 unfold qS
 rw [gde,aM]
 rcases aX s ss.length with h | h
 · rw [nM h]; rfl
 · rw [aH h,sK h]; rfl
theorem oN {ss:List (List Itm)} {s k:Nat} (h:k < (aW ss s).length):Qu.cS (qS ss) s k=some (qi (bz (aW ss s) k)):=by
 have hs:s < ss.length:=by
   rcases aX s ss.length with c | c
   · exact c
   · rw [sK c] at h; simp at h
 unfold Qu.cS qS
 rw [aM,nM hs,cE,aA,aM,yi h]; rfl
theorem tq {ss:List (List Itm)} {s k:Nat} (h:(aW ss s).length<=k):Qu.cS (qS ss) s k=none:=by
 unfold Qu.cS qS
 rw [aM]
 rcases aX s ss.length with c | c
 · rw [nM c,cE,aA,aM,aH h]; rfl
 · rw [aH c]; rfl
theorem Cl {ss:List (List Itm)} {s k:Nat} {y:Qu.Item}:Qu.cS (qS ss) s k=some y↔k < (aW ss s).length/\y=qi (bz (aW ss s) k):=by
 rcases aX k (aW ss s).length with c | c
 · rw [oN c]
   exact ⟨fun h=>⟨c,(aE h).symm⟩,fun h=>by rw [h.2]⟩
 · rw [tq c]
   exact ⟨fun h=>(by cases h),fun h=>absurd h.1 (by omega)⟩
def vf (ss:List (List Itm)):Prop:=∀ l∈ss,∀ x∈l,(x.kind=3∨x.kind=4)->0<=x.ev/\x.ev < 16
theorem iM {ss:List (List Itm)} {s:Nat} (h:s < ss.length):aW ss s∈ss:=jm (nM h)
theorem fi {xs:List Itm} {k:Nat} (h:k < xs.length):bz xs k∈xs:=jm (yi h)
theorem vf.at {ss:List (List Itm)} (h:vf ss) {s k:Nat} (hk:k < (aW ss s).length) (hx:(bz (aW ss s) k).kind=3∨(bz (aW ss s) k).kind=4):0<=(bz (aW ss s) k).ev/\(bz (aW ss s) k).ev < 16:=by
 have hs:s < ss.length:=by
   rcases aX s ss.length with c | c
   · exact c
   · rw [sK c] at hk; simp at hk
 exact h _ (iM hs) _ (fi hk) hx
theorem Pz {ss:List (List Itm)} (hev:vf ss) (ad:List Nat) (rc:List Bool) (s:Nat):Qu.Kg (qS ss) ad (rF rc) s=okS ss ad rc s:=by
 unfold Qu.Kg okS
 rcases aX (ad.getD s 0) (aW ss s).length with c | c
 · rw [oN c,cD (by omega),bd]
   show ((bz (aW ss s) (ad.getD s 0)).kind != 4 || rF rc (bz (aW ss s) (ad.getD s 0)).ev)=_
   unfold eqB
   cases hk:((bz (aW ss s) (ad.getD s 0)).kind == 4) with
   | false=>rw [bne,hk]; rfl
   | true =>
     have h4:(bz (aW ss s) (ad.getD s 0)).kind=4:=by simpa using hk
     have:=hev.at c (.inr h4)
     simp only [bne,hk,Bool.not_true,Bool.false_or,rF]
     rw [decide_eq_true this.1,bd]
 · rw [tq c,cH (by omega),Bool.false_and]
theorem xB {ss:List (List Itm)} (hev:vf ss) (ad:List Nat) (rc:List Bool):Qu.ready (qS ss) ad (rF rc)=d7 ss ad rc ss.length:=by
 unfold Qu.ready d7
 rw [r9,show Qu.Kg (qS ss) ad (rF rc)=okS ss ad rc from funext fun s=>Pz hev ad rc s]
theorem FF (ss:List (List Itm)) (ad:List Nat):Qu.left (qS ss) ad=gE ss ad ss.length:=by
 unfold Qu.left gE
 rw [r9]
 refine List.map_congr_left fun s _=>?_
 rw [wu,ar]
def doM (m:List (List Int)) (x:Itm):List (List Int):=
 if x.kind=1 then m.set x.dst.toNat (bN m x.src.toNat)
 else if x.kind=2 then m.set x.dst.toNat (ay (bN m x.dst.toNat).length x.word) else m
def doR (rc:List Bool) (x:Itm):List Bool:=if x.kind=3 then rc.set x.ev.toNat true else rc
def doA (ad:List Nat) (s:Nat):List Nat:=ad.set s (ad.getD s 0+1)
theorem UZ {rc:List Bool} (hl:rc.length=16) {x:Itm} (hx:x.kind=3->0<=x.ev/\x.ev < 16):rF (doR rc x)=Qu.BQ (rF rc) (qi x):=by
 unfold doR Qu.BQ
 show _=if x.kind=3 then (fun e=>rF rc e || e == x.ev) else rF rc
 by_cases h:x.kind=3
 · rw [if_pos h,if_pos h]
   obtain ⟨h0,h1⟩:=hx h
   funext e
   unfold rF
   rw [fM]
   simp only [aC,gz,decide_eq_true_iff,beq_iff_eq,gde,List.getElem?_set]
   by_cases he:x.ev.toNat=e.toNat
   · rw [if_pos he,if_pos (by omega)]
     simp only [fq,and_true]
     constructor
     · intro h; exact .inr (by omega)
     · rintro (⟨h,_⟩ | h) <;> omega
   · rw [if_neg he]
     constructor
     · intro h; exact .inl h
     · rintro (h | h)
       · exact h
       · exact absurd (by rw [h]) he
 · rw [if_neg h,if_neg h]
theorem Oy:rF (ay 16 false)=fun _=>false:=by
 funext e
 unfold rF
 rw [gde,List.getElem?_replicate]
 by_cases h:e.toNat < 16
 · rw [if_pos h]; simp
 · rw [if_neg h]; simp
theorem mu {ss:List (List Itm)} {ad:List Nat} {rc:List Bool} {n s:Nat} (h:s∈d7 ss ad rc n):s < n/\okS ss ad rc s=true:=by
 unfold d7 at h
 rw [fG,eP] at h; exact h
theorem xQ {ss:List (List Itm)} {ad:List Nat} {rc:List Bool} {s:Nat} (h:okS ss ad rc s=true):ad.getD s 0 < (aW ss s).length:=by
 unfold okS at h
 rw [aC,dm] at h
 exact Int.ofNat_lt.1 h.1
theorem Ob {ss:List (List Itm)} (hev:vf ss) {ad:List Nat} {rc:List Bool} {L:List Qu.Place} (hl:rc.length=16) (h:Qu.RT (qS ss) ad (rF rc) L) {s:Nat} (hs:s∈d7 ss ad rc ss.length) :
   Qu.RT (qS ss) (doA ad s) (rF (doR rc (bz (aW ss s) (ad.getD s 0)))) (L++[(s,ad.getD s 0)]):=by
 have hk:=xQ (mu hs).2
 rw [UZ hl fun h3=>hev.at hk (.inl h3)]
 exact .step h (by rw [xB hev]; exact hs) (oN hk)
def bp (es n:Nat) (v:AV) (b:Nat):AV:=match v with
 | .nilSlice=>.nilSlice
 | _=>if n=0 then .slice b 0 es 0 0 true else .slice (b+1) 0 es n n false
def bo (E:TypeId) (v:AV) (xs:List AV):AH:=match v with
 | .nilSlice=>[]
 | _=>if xs=[] then [.cells [] E] else [.cells [] E,.cells xs E]
theorem yx {es:Nat} (hes:0 < es) {rows:List (List AV)} (hr:∀ r∈rows,r.length=es):rows.flatten=[]↔rows.length=0:=by
 rw [<-dA,dM hr,NL]
 exact ⟨fun h=>h.elim id fun h=>by omega,.inl⟩
theorem ml {T E es:Nat} (A:pj aa T (some T) E es) (hes:0 < es) {H:AH} {v:AV} {rows:List (List AV)} (h:SlS T es H v rows) (hr:∀ r∈rows,r.length=es) (hv:v≠.nilSlice) (hg:fT (aa.bytesOf E) rows.length=true) (L:AH) :
   f0 aa none T (some T) (.slice (H.length+L.length) 0 es 0 0 true) v (H++(L++[.cells [] E]))=some (bp es rows.length v (H.length+L.length),H++(L++bo E v rows.flatten)):=by
 obtain ⟨z,hz,hzl,hzn⟩:=A.z
 have hrow:=(h.app (L++[bl.cells [] E])).row
 have hln:=h.lenOf
 have hsrc:∃ f,pz (H++(L++[.cells [] E])) es v=some (rows.length,f)/\f rows.length=some rows.flatten:=by
   generalize hxs:rows.flatten=xs at hrow
   cases hrow with
   | nil=>exact absurd rfl hv
   | «at» i k len cap ex xs h' =>
     rw [cj] at hln
     subst hln
     exact ⟨fun n=>if n<=rows.length then ak (H++(L++[bl.cells [] E])) i k (n * es) else none,by simp [pz],by simp [h']⟩
 obtain ⟨f,hf,hfn⟩:=hsrc
 unfold f0
 rw [if_neg (by rw [A.x]; simp),A.el,aA,hz,aA,A.sz,hf,aA]
 simp only [hfn,aA]
 rw [if_pos ⟨by rw [hzl,A.sz],hzn⟩]
 try simp only [if_true]
 have hc:∀ b,bp es rows.length v b=if rows.length=0 then .slice b 0 es 0 0 true else .slice (b+1) 0 es rows.length rows.length false:=fun b=>by
   cases v <;> first | rfl | exact absurd rfl hv
 have hL:bo E v rows.flatten=if rows.flatten=[] then [.cells [] E] else [.cells [] E,.cells rows.flatten E]:=by
   cases v <;> first | rfl | exact absurd rfl hv
 rw [hc,hL]
 by_cases h0:rows.length=0
 · rw [if_pos h0,if_pos h0,if_pos ((yx hes hr).2 h0)]
 · rw [if_neg h0,if_neg h0,if_neg fun e=>h0 ((yx hes hr).1 e),if_neg (by omega),c7,if_pos hg]
   have hrd:ak (H++(L++[bl.cells [] E])) (H.length+L.length) 0 (0 * es)=some []:=by
     rw [jN,nK]
     unfold ak
     rw [al (ax _),Nat.sub_self]; rfl
   rw [hrd,aA]
   simp only [put,cE,List.nil_append,ai,List.length_singleton,aG,List.cons_append,Nat.add_assoc]
theorem kO {E es:Nat} {G:AH} {v:AV} {xs:List AV} {n:Nat} (hes:0 < es) (hn:xs.length=n * es) (hv:v=.nilSlice->xs=[]):Own G.length (G++bo E v xs) es E (bp es n v G.length) xs:=by
 by_cases hvn:v=.nilSlice
 · rw [hvn,hv hvn]; exact .nil
 · have hc:bp es n v G.length=if n=0 then .slice G.length 0 es 0 0 true else .slice (G.length+1) 0 es n n false:=by
     cases v <;> first | rfl | exact absurd rfl hvn
   have hL:bo E v xs=if xs=[] then [.cells [] E] else [.cells [] E,.cells xs E]:=by
     cases v <;> first | rfl | exact absurd rfl hvn
   rw [hc,hL]
   by_cases h0:n=0
   · have hx:xs=[]:=dA.1 (by rw [hn,h0,nK])
     rw [if_pos h0,if_pos hx]
     subst hx
     exact .at _ _ _ _ _ [] _ (ax _) (by simp) (ax _) (by simp) (by rw [gu,nK]; rfl)
   · have hx:xs≠[]:=fun e=>h0 (by
       rw [e,List.length_nil] at hn
       rcases NL.1 hn.symm with h | h
       · exact h
       · omega)
     rw [if_neg h0,if_neg hx]
     have hg:(G++[bl.cells [] E,.cells xs E])[G.length+1]? =some (.cells xs E):=by
       rw [al (du _ _),Nat.add_sub_cancel_left]; rfl
     refine .at _ _ _ _ _ xs _ (du _ _) hg (ax _) (by rw [hn,c7]; exact ax _) ?_
     unfold ak
     rw [hg]
     simp only
     rw [if_pos (by omega),List.drop_zero,List.take_of_length_le (by omega)]
theorem eG (es n:Nat) (v:AV) (b:Nat):(bp es n v b).cells=[bp es n v b]/\(bp es n v b).one=true:=by
 unfold bp
 split
 · exact ⟨rfl,rfl⟩
 · split <;> exact ⟨rfl,rfl⟩
theorem Z0:pj aa 22 (some 22) 66 5:=⟨by kernel_rfl,⟨(dP aa 66).getD uA,by kernel_rfl,by kernel_rfl,by (have h:((dP aa 66).getD uA).cells.length=5:=by kernel_rfl); intro e; rw [e] at h; cases h⟩,by kernel_rfl,by kernel_rfl⟩
theorem Vg (H:AH):bk aa none 22 0 [] H=some (.slice H.length 0 5 0 0 true,H++[.cells [] 66]):=by kernel_rfl
theorem ZP (H L:AH):bk aa none 22 0 [] (H++L)=some (.slice (H.length+L.length) 0 5 0 0 true,H++(L++[.cells [] 66])):=by rw [Vg,ai,aG]
theorem Uj (H:AH) (i k e l c:Nat) (x:Bool) (fb:Option AV):jh .eql 22 (.slice i k e l c x) .nilSlice H fb=some (.bool false):=by
 have h:eqA aa 22 H (.slice i k e l c x) .nilSlice=some false:=by kernel_rfl
 unfold jh; simp only [h]; try rfl
theorem Ui (H:AH) (fb:Option AV):jh .eql 22 .nilSlice .nilSlice H fb=some (.bool true):=by
 have h:eqA aa 22 H .nilSlice .nilSlice=some true:=by kernel_rfl
 unfold jh; simp only [h]
theorem ac8 {H:AH} {v:AV} {rows:List (List AV)} (h:SlS 22 5 H v rows) (hr:∀ r∈rows,r.length=5) (hg:fT (aa.bytesOf 66) rows.length=true) (L:AH):Ev aa C0 W0 27 [v] (H++L)=some (bp 5 rows.length v (H.length+L.length),H++(L++bo 66 v rows.flatten)):=by
 rcases h.old with ⟨rfl,rfl⟩ | ⟨i,k,c,e,rfl,_,_⟩
 · clear hg hr
   obtain ⟨tm,ht,g0,g1⟩:=tm1 (.nilSlice) 8 (by decide)
   rw [XW,ht]
   simp -implicitDefEqProofs only [c27,Tryz.f27,aP,g0,g1,↓Ui,↓ao,an,eu,sevalprocAttr]
   simp only [bp,bo,af]
 · obtain ⟨tm,ht,g0,g1⟩:=tm1 (.slice i k 5 rows.length c e) 8 (by decide)
   rw [XW,ht]
   have he:=ml Z0 (by decide) h hr (by simp) hg L
   simp -implicitDefEqProofs only [c27,Tryz.f27,aP,g0,g1,↓Uj,ZP,↓ck,he,↓ao,an,eu,sevalprocAttr]
theorem ZY:pj aa 62 (some 62) 74 2:=⟨by kernel_rfl,⟨(dP aa 74).getD uA,by kernel_rfl,by kernel_rfl,by (have h:((dP aa 74).getD uA).cells.length=2:=by kernel_rfl); intro e; rw [e] at h; cases h⟩,by kernel_rfl,by kernel_rfl⟩
theorem Va (H:AH):bk aa none 62 0 [] H=some (.slice H.length 0 2 0 0 true,H++[.cells [] 74]):=by kernel_rfl
theorem ZI (H L:AH):bk aa none 62 0 [] (H++L)=some (.slice (H.length+L.length) 0 2 0 0 true,H++(L++[.cells [] 74])):=by rw [Va,ai,aG]
theorem Ud (H:AH) (i k e l c:Nat) (x:Bool) (fb:Option AV):jh .eql 62 (.slice i k e l c x) .nilSlice H fb=some (.bool false):=by
 have h:eqA aa 62 H (.slice i k e l c x) .nilSlice=some false:=by kernel_rfl
 unfold jh; simp only [h]; try rfl
theorem Uc (H:AH) (fb:Option AV):jh .eql 62 .nilSlice .nilSlice H fb=some (.bool true):=by
 have h:eqA aa 62 H .nilSlice .nilSlice=some true:=by kernel_rfl
 unfold jh; simp only [h]
theorem ac7 {H:AH} {v:AV} {rows:List (List AV)} (h:SlS 62 2 H v rows) (hr:∀ r∈rows,r.length=2) (hg:fT (aa.bytesOf 74) rows.length=true) (L:AH):Ev aa C0 W0 29 [v] (H++L)=some (bp 2 rows.length v (H.length+L.length),H++(L++bo 74 v rows.flatten)):=by
 rcases h.old with ⟨rfl,rfl⟩ | ⟨i,k,c,e,rfl,_,_⟩
 · clear hg hr
   obtain ⟨tm,ht,g0,g1⟩:=tm1 (.nilSlice) 8 (by decide)
   rw [XV,ht]
   simp -implicitDefEqProofs only [c29,Tryz.f29,aP,g0,g1,↓Uc,↓ao,an,eu,sevalprocAttr]
   simp only [bp,bo,af]
 · obtain ⟨tm,ht,g0,g1⟩:=tm1 (.slice i k 2 rows.length c e) 8 (by decide)
   rw [XV,ht]
   have he:=ml ZY (by decide) h hr (by simp) hg L
   simp -implicitDefEqProofs only [c29,Tryz.f29,aP,g0,g1,↓Ud,ZI,↓ck,he,↓ao,an,eu,sevalprocAttr]
theorem ZX:pj aa 63 (some 63) 77 2:=⟨by kernel_rfl,⟨(dP aa 77).getD uA,by kernel_rfl,by kernel_rfl,by (have h:((dP aa 77).getD uA).cells.length=2:=by kernel_rfl); intro e; rw [e] at h; cases h⟩,by kernel_rfl,by kernel_rfl⟩
theorem U9 (H:AH):bk aa none 63 0 [] H=some (.slice H.length 0 2 0 0 true,H++[.cells [] 77]):=by kernel_rfl
theorem ZH (H L:AH):bk aa none 63 0 [] (H++L)=some (.slice (H.length+L.length) 0 2 0 0 true,H++(L++[.cells [] 77])):=by rw [U9,ai,aG]
theorem Ub (H:AH) (i k e l c:Nat) (x:Bool) (fb:Option AV):jh .eql 63 (.slice i k e l c x) .nilSlice H fb=some (.bool false):=by
 have h:eqA aa 63 H (.slice i k e l c x) .nilSlice=some false:=by kernel_rfl
 unfold jh; simp only [h]; try rfl
theorem Ua (H:AH) (fb:Option AV):jh .eql 63 .nilSlice .nilSlice H fb=some (.bool true):=by
 have h:eqA aa 63 H .nilSlice .nilSlice=some true:=by kernel_rfl
 unfold jh; simp only [h]
theorem ac6 {H:AH} {v:AV} {rows:List (List AV)} (h:SlS 63 2 H v rows) (hr:∀ r∈rows,r.length=2) (hg:fT (aa.bytesOf 77) rows.length=true) (L:AH):Ev aa C0 W0 30 [v] (H++L)=some (bp 2 rows.length v (H.length+L.length),H++(L++bo 77 v rows.flatten)):=by
 rcases h.old with ⟨rfl,rfl⟩ | ⟨i,k,c,e,rfl,_,_⟩
 · clear hg hr
   obtain ⟨tm,ht,g0,g1⟩:=tm1 (.nilSlice) 8 (by decide)
   rw [XU,ht]
   simp -implicitDefEqProofs only [c30,Tryz.f30,aP,g0,g1,↓Ua,↓ao,an,eu,sevalprocAttr]
   simp only [bp,bo,af]
 · obtain ⟨tm,ht,g0,g1⟩:=tm1 (.slice i k 2 rows.length c e) 8 (by decide)
   rw [XU,ht]
   have he:=ml ZX (by decide) h hr (by simp) hg L
   simp -implicitDefEqProofs only [c30,Tryz.f30,aP,g0,g1,↓Ub,ZH,↓ck,he,↓ao,an,eu,sevalprocAttr]
theorem ZW:pj aa 64 (some 64) 80 8:=⟨by kernel_rfl,⟨(dP aa 80).getD uA,by kernel_rfl,by kernel_rfl,by (have h:((dP aa 80).getD uA).cells.length=8:=by kernel_rfl); intro e; rw [e] at h; cases h⟩,by kernel_rfl,by kernel_rfl⟩
theorem U8 (H:AH):bk aa none 64 0 [] H=some (.slice H.length 0 8 0 0 true,H++[.cells [] 80]):=by kernel_rfl
theorem ZG (H L:AH):bk aa none 64 0 [] (H++L)=some (.slice (H.length+L.length) 0 8 0 0 true,H++(L++[.cells [] 80])):=by rw [U8,ai,aG]
theorem T9 (H:AH) (i k e l c:Nat) (x:Bool) (fb:Option AV):jh .eql 64 (.slice i k e l c x) .nilSlice H fb=some (.bool false):=by
 have h:eqA aa 64 H (.slice i k e l c x) .nilSlice=some false:=by kernel_rfl
 unfold jh; simp only [h]; try rfl
theorem T8 (H:AH) (fb:Option AV):jh .eql 64 .nilSlice .nilSlice H fb=some (.bool true):=by
 have h:eqA aa 64 H .nilSlice .nilSlice=some true:=by kernel_rfl
 unfold jh; simp only [h]
theorem ac5 {H:AH} {v:AV} {rows:List (List AV)} (h:SlS 64 8 H v rows) (hr:∀ r∈rows,r.length=8) (hg:fT (aa.bytesOf 80) rows.length=true) (L:AH):Ev aa C0 W0 31 [v] (H++L)=some (bp 8 rows.length v (H.length+L.length),H++(L++bo 80 v rows.flatten)):=by
 rcases h.old with ⟨rfl,rfl⟩ | ⟨i,k,c,e,rfl,_,_⟩
 · clear hg hr
   obtain ⟨tm,ht,g0,g1⟩:=tm1 (.nilSlice) 8 (by decide)
   rw [XT,ht]
   simp -implicitDefEqProofs only [c31,Tryz.f31,aP,g0,g1,↓T8,↓ao,an,eu,sevalprocAttr]
   simp only [bp,bo,af]
 · obtain ⟨tm,ht,g0,g1⟩:=tm1 (.slice i k 8 rows.length c e) 8 (by decide)
   rw [XT,ht]
   have he:=ml ZW (by decide) h hr (by simp) hg L
   simp -implicitDefEqProofs only [c31,Tryz.f31,aP,g0,g1,↓T9,ZG,↓ck,he,↓ao,an,eu,sevalprocAttr]
theorem ZZ:pj aa 32 (some 32) 21 1:=⟨by kernel_rfl,⟨(dP aa 21).getD uA,by kernel_rfl,by kernel_rfl,by (have h:((dP aa 21).getD uA).cells.length=1:=by kernel_rfl); intro e; rw [e] at h; cases h⟩,by kernel_rfl,by kernel_rfl⟩
theorem Vb (H:AH):bk aa none 32 0 [] H=some (.slice H.length 0 1 0 0 true,H++[.cells [] 21]):=by kernel_rfl
theorem ZJ (H L:AH):bk aa none 32 0 [] (H++L)=some (.slice (H.length+L.length) 0 1 0 0 true,H++(L++[.cells [] 21])):=by rw [Vb,ai,aG]
theorem Uf (H:AH) (i k e l c:Nat) (x:Bool) (fb:Option AV):jh .eql 32 (.slice i k e l c x) .nilSlice H fb=some (.bool false):=by
 have h:eqA aa 32 H (.slice i k e l c x) .nilSlice=some false:=by kernel_rfl
 unfold jh; simp only [h]; try rfl
theorem Ue (H:AH) (fb:Option AV):jh .eql 32 .nilSlice .nilSlice H fb=some (.bool true):=by
 have h:eqA aa 32 H .nilSlice .nilSlice=some true:=by kernel_rfl
 unfold jh; simp only [h]
theorem ac4 {H:AH} {v:AV} {rows:List (List AV)} (h:SlS 32 1 H v rows) (hr:∀ r∈rows,r.length=1) (hg:fT (aa.bytesOf 21) rows.length=true) (L:AH):Ev aa C0 W0 32 [v] (H++L)=some (bp 1 rows.length v (H.length+L.length),H++(L++bo 21 v rows.flatten)):=by
 rcases h.old with ⟨rfl,rfl⟩ | ⟨i,k,c,e,rfl,_,_⟩
 · clear hg hr
   obtain ⟨tm,ht,g0,g1⟩:=tm1 (.nilSlice) 8 (by decide)
   rw [XS,ht]
   simp -implicitDefEqProofs only [c32,Tryz.f32,aP,g0,g1,↓Ue,↓ao,an,eu,sevalprocAttr]
   simp only [bp,bo,af]
 · obtain ⟨tm,ht,g0,g1⟩:=tm1 (.slice i k 1 rows.length c e) 8 (by decide)
   rw [XS,ht]
   have he:=ml ZZ (by decide) h hr (by simp) hg L
   simp -implicitDefEqProofs only [c32,Tryz.f32,aP,g0,g1,↓Uf,ZJ,↓ck,he,↓ao,an,eu,sevalprocAttr]
theorem GD:pj aa 31 (some 31) 34 9:=⟨by kernel_rfl,⟨(dP aa 34).getD uA,by kernel_rfl,by kernel_rfl,by (have h:((dP aa 34).getD uA).cells.length=9:=by kernel_rfl); intro e; rw [e] at h; cases h⟩,by kernel_rfl,by kernel_rfl⟩
theorem Vd (H:AH):bk aa none 31 0 [] H=some (.slice H.length 0 9 0 0 true,H++[.cells [] 34]):=by kernel_rfl
theorem ZL (H L:AH):bk aa none 31 0 [] (H++L)=some (.slice (H.length+L.length) 0 9 0 0 true,H++(L++[.cells [] 34])):=by rw [Vd,ai,aG]
theorem Uh (H:AH) (i k e l c:Nat) (x:Bool) (fb:Option AV):jh .eql 31 (.slice i k e l c x) .nilSlice H fb=some (.bool false):=by
 have h:eqA aa 31 H (.slice i k e l c x) .nilSlice=some false:=by kernel_rfl
 unfold jh; simp only [h]; try rfl
theorem Ug (H:AH) (fb:Option AV):jh .eql 31 .nilSlice .nilSlice H fb=some (.bool true):=by
 have h:eqA aa 31 H .nilSlice .nilSlice=some true:=by kernel_rfl
 unfold jh; simp only [h]
theorem acU {H:AH} {v:AV} {rows:List (List AV)} (h:SlS 31 9 H v rows) (hr:∀ r∈rows,r.length=9) (hg:fT (aa.bytesOf 34) rows.length=true) (L:AH):Ev aa C0 W0 46 [v] (H++L)=some (bp 9 rows.length v (H.length+L.length),H++(L++bo 34 v rows.flatten)):=by
 rcases h.old with ⟨rfl,rfl⟩ | ⟨i,k,c,e,rfl,_,_⟩
 · clear hg hr
   obtain ⟨tm,ht,g0,g1⟩:=tm1 (.nilSlice) 8 (by decide)
   rw [XM,ht]
   simp -implicitDefEqProofs only [c46,Tryz.f46,aP,g0,g1,↓Ug,↓ao,an,eu,sevalprocAttr]
   simp only [bp,bo,af]
 · obtain ⟨tm,ht,g0,g1⟩:=tm1 (.slice i k 9 rows.length c e) 8 (by decide)
   rw [XM,ht]
   have he:=ml GD (by decide) h hr (by simp) hg L
   simp -implicitDefEqProofs only [c46,Tryz.f46,aP,g0,g1,↓Uh,ZL,↓ck,he,↓ao,an,eu,sevalprocAttr]
end Go.Dv
