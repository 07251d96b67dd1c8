/- Part 16 of the walks (own work). -/
import Derived.Test.YtilpjnckfkjkbaaGreatDoorU15
import Derived.Test.YtilpjnckfkjkbaaGreatDoorU14
open Bool renaming and_eq_true→az,eq_iff_iff→gI,or_eq_true→ic,true_and→bf
open List renaming append_assoc→aD,append_nil→af,contains_iff_mem→jg,getElem?_append_right→al,getElem?_eq_getElem→aj,getElem?_eq_none→aE,getElem?_map→aO,length_append→ai,length_eq_zero_iff→dO,length_map→ao,mem_filter→fm,mem_of_getElem?→jw,mem_range→eX,mem_singleton→bJ,range→bp,replicate→au
open Nat renaming le_add_right→dI,le_refl→aw,lt_or_ge→bc,mul_eq_zero→O4,zero_add→cZ,zero_mul→nU
open Option renaming bind_some→ax,getD_some→fE,map_some→cH
open Option.some renaming inj→aB
open Go.Proofs.Tryz renaming prog→aa
set_option maxRecDepth 100000
set_option maxHeartbeats 4000000
set_option linter.unusedSimpArgs false
set_option linter.unusedVariables false
open Go.Proofs.Tryz (f27 f29 f30 f31 f32 f46)
namespace Go.Dv.Qu
def jU (x:Item) (e:Int):Bool:=x.kind == 3 && x.event == e
def l7 (S:aW) (e:Int):List Nat:=(bp S.flatten.length).filter fun n=>((S.flatten[n]?).map fun x=>jU x e).getD false
def nxt (S:aW) (n:Nat):List Nat:=match (places S)[n]? with
 | some p=>if p.2+1 < (S.getD p.1 []).length then [n+1] else []
 | none=>[]
def waits (S:aW) (n m:Nat):Bool:=match S.flatten[m]? with
 | some y=>y.kind == 4 && l7 S y.event == [n]
 | none=>false
def lX (S:aW) (m n:Nat):List Nat:=nxt S n++(bp m).filter (waits S n)
def aft (S:aW):List (List Nat):=(bp S.flatten.length).map (lX S S.flatten.length)
def lW (S:aW) (i k:Nat):Bool:=match (places S)[i]?,(places S)[k]?,S.flatten[i]?,S.flatten[k]? with
 | some p,some q,some x,some y=>(p.1 == q.1 && decide (p.2 < q.2)) || (x.kind == 3 && y.kind == 4 && x.event == y.event && (l7 S x.event).length == 1)
 | _,_,_,_=>false
def bef (S:aW) (i k:Nat):Bool:=wn (lW S) S.flatten.length i k
def num (S:aW) (p:Place):Nat:=off S p.1+p.2
theorem oT {S:aW} {p:Place} {x:Item} (h:at? S p=some x):(places S)[num S p]? =some p:=oP h
theorem mO {S:aW} {p:Place} {x:Item} (h:at? S p=some x):S.flatten[num S p]? =some x:=oZ S p.1 p.2 x h
theorem so {S:aW} {p:Place} {x:Item} (h:at? S p=some x):num S p < S.flatten.length:=by
 have:=mO h;rcases bc (num S p) S.flatten.length with c | c
 · exact c
 · rw [aE c] at this; cases this
theorem oU {S:aW} {p q:Place} {x y:Item} (h:at? S p=some x) (h':at? S q=some y) (e:num S p=num S q):p=q:=by obtain ⟨a,b⟩:=F2 h h' e;exact Prod.ext a b
theorem pY {S:aW} {e:Int} {n:Nat}:n∈l7 S e↔∃ p,isRec S e p/\num S p=n:=by
 unfold l7;rw [fm,eX];constructor
 · rintro ⟨hn,h⟩;obtain ⟨p,x,hp,hx,hf,e2⟩:=kT hn;rw [hf] at h;simp only [cH,fE,jU,az,beq_iff_eq] at h;exact ⟨p,⟨x,hx,h.1,h.2⟩,e2.symm⟩
 · rintro ⟨p,⟨x,hx,h3,he⟩,rfl⟩;refine ⟨so hx,?_⟩;rw [mO hx];simp [jU,h3,he]
theorem Eo (S:aW) (e:Int):(l7 S e).Nodup:=List.nodup_range.sublist List.filter_sublist
theorem Va {l:List Nat} {n:Nat} (hn:l.Nodup) (hm:n∈l) (h:∀ r∈l,r=n):l=[n]:=by
 cases l with
 | nil=>simp at hm
 | cons a l =>
   have ha:=h a (by simp);subst ha;cases l with
   | nil=>rfl
   | cons b l =>have hb:=h b (by simp);subst hb;simp at hn
theorem s6 {S:aW} {p:Place} {x:Item} (h:at? S p=some x) (h3:x.kind=3):l7 S x.event=[num S p]↔∀ r,isRec S x.event r->r=p:=by
 constructor
 · intro e r hr;have:num S r∈l7 S x.event:=pY.2 ⟨r,hr,rfl⟩;rw [e,bJ] at this;obtain ⟨y,hy,_⟩:=hr;exact oU hy h this
 · intro hu;refine Va (Eo S _) (pY.2 ⟨p,⟨x,h,h3,rfl⟩,rfl⟩) fun r hr=>?_;obtain ⟨q,hq,rfl⟩:=pY.1 hr;rw [hu q hq]
theorem mX {S:aW} {n m:Nat}:EA (aft S) n m↔∃ p q,Edge S p q/\num S p=n/\num S q=m:=by
 unfold EA aft;rw [gde,aO];rcases bc n S.flatten.length with hn | hn
 · rw [List.getElem?_range hn];simp only [cH,fE,lX,List.mem_append,fm,eX];obtain ⟨p,x,hp,hx,hf,e⟩:=kT hn;constructor
   · rintro (h | ⟨hm,h⟩)
     · unfold nxt at h;rw [hp] at h;simp only at h;split at h
       · rename_i hlt;rw [bJ] at h;obtain ⟨z,hz⟩:=tE hlt;exact ⟨p,(p.1,p.2+1),.inl ⟨⟨x,z,hx,hz⟩,rfl,rfl⟩,e.symm,by rw [h,e]; simp only [num]; omega⟩
       · simp at h
     · obtain ⟨q,y,hq,hy,hf',e'⟩:=kT hm;unfold waits at h;rw [hf'] at h;simp only [az,beq_iff_eq] at h;have hmem:n∈l7 S y.event:=by rw [h.2]; simp
       obtain ⟨r,hr,hrn⟩:=pY.1 hmem;obtain ⟨z,hz,h3,he⟩:=hr;have hrp:r=p:=oU hz hx (by rw [hrn,e]; rfl);subst hrp;rw [hx] at hz; cases hz;refine ⟨r,q,.inr ⟨x,y,hx,hy,h3,h.1,he,?_⟩,hrn,e'.symm⟩;have:=h.2;rw [<-he,<-hrn] at this;exact (s6 hx h3).1 this
   · rintro ⟨p',q,he,hpn,hqm⟩;rcases he with ⟨⟨x',y,hx',hy⟩,e1,e2⟩ | ⟨x',y,hx',hy,h3,h4,he,hu⟩
     · have:p'=p:=oU hx' hx (by rw [hpn,e]; rfl);subst this;left;unfold nxt;rw [hp];have:=(TN hy).2;rw [<-e1,e2] at this;simp only;rw [if_pos this,bJ,<-hqm,e];simp only [num,<-e1,e2]; omega
     · have:p'=p:=oU hx' hx (by rw [hpn,e]; rfl);subst this;right;refine ⟨by rw [<-hqm]; exact so hy,?_⟩;unfold waits;rw [<-hqm,mO hy];simp only [az,beq_iff_eq];refine ⟨h4,?_⟩;rw [<-he,(s6 hx' h3).2 hu,hpn]
 · rw [aE (by simpa using hn)];simp only [Option.map_none,Option.getD_none,List.not_mem_nil,false_iff];rintro ⟨p,q,he,hpn,_⟩;obtain ⟨x,hx⟩:=(mf he).1;have:=so hx;omega
theorem OH {S:aW}:∀ l∈aft S,∀ y∈l,y < S.flatten.length:=by
 intro l hl y hy;obtain ⟨n,hn⟩:=List.getElem?_of_mem hl;have:EA (aft S) n y:=by unfold EA; rw [gde,hn]; exact hy
 obtain ⟨p,q,he,_,hq⟩:=mX.1 this;obtain ⟨z,hz⟩:=(mf he).2;rw [<-hq]; exact so hz
theorem Hr (S:aW):(aft S).length=S.flatten.length:=by simp [aft]
theorem Fy {S:aW} {n m:Nat}:TG (EA (aft S)) n m↔∃ p q,zl S p q/\num S p=n/\num S q=m:=by
 constructor
 · intro h;induction h with
   | one h =>obtain ⟨p,q,he,a,b⟩:=mX.1 h;exact ⟨p,q,.one he,a,b⟩
   | step h _ ih =>obtain ⟨p,q,he,a,b⟩:=mX.1 h;obtain ⟨p',q',he',a',b'⟩:=ih;obtain ⟨x,hx⟩:=(qV he').1;obtain ⟨y,hy⟩:=(mf he).2;have:p'=q:=oU hx hy (a'.trans b.symm);subst this;exact ⟨p,q',.step he he',a,b'⟩
 · rintro ⟨p,q,h,rfl,rfl⟩;exact TG.map (num S) (fun a b e=>mX.2 ⟨a,b,e,rfl,rfl⟩) h
theorem Hs {S:aW} (h:ja S) (n:Nat):Acc (EA (aft S)) n:=by
 have key:∀ p,Acc (Edge S) p->∀ x,at? S p=some x->Acc (EA (aft S)) (num S p):=by
   intro p hp;induction hp with
   | intro p _ ih =>intro x hx;refine ⟨_,fun m hm=>?_⟩;obtain ⟨a,b,he,ha,hb⟩:=mX.1 hm;obtain ⟨y,hy⟩:=(mf he).2;have:b=p:=oU hy hx hb;subst this;obtain ⟨z,hz⟩:=(mf he).1;rw [<-ha]; exact ih a he z hz
 refine ⟨_,fun m hm=>?_⟩;obtain ⟨a,b,he,ha,hb⟩:=mX.1 hm;obtain ⟨z,hz⟩:=(mf he).1;rw [<-ha];exact key a (DU (h a.1 a.2 z hz)) z hz
theorem vD {S:aW} {i k:Nat}:lW S i k=true↔∃ p q,Jb S p q/\num S p=i/\num S q=k:=by
 unfold lW;constructor
 · intro h;split at h
   · rename_i p q x y hp hq hx hy;have hi:i < S.flatten.length:=by
       rcases bc i S.flatten.length with c | c
       · exact c
       · rw [aE c] at hx; cases hx
     have hk:k < S.flatten.length:=by
       rcases bc k S.flatten.length with c | c
       · exact c
       · rw [aE c] at hy; cases hy
     obtain ⟨p',x',hp',hx',hf,e⟩:=kT hi;obtain ⟨q',y',hq',hy',hf',e'⟩:=kT hk;rw [hp] at hp'; cases hp';rw [hq] at hq'; cases hq';rw [hx] at hf; cases hf;rw [hy] at hf'; cases hf';simp only [ic,az,beq_iff_eq,decide_eq_true_eq] at h;refine ⟨p,q,?_,e.symm,e'.symm⟩;rcases h with ⟨a,b⟩ | ⟨⟨⟨a,b⟩,c⟩,d⟩
     · exact .inl ⟨⟨x,y,hx',hy'⟩,a,b⟩
     · refine .inr ⟨x,y,hx',hy',a,b,c,(s6 hx' a).1 ?_⟩;have hm:num S p∈l7 S x.event:=pY.2 ⟨p,⟨x,hx',a,rfl⟩,rfl⟩;rw [List.length_eq_one_iff] at d;obtain ⟨r,hr⟩:=d;rw [hr,bJ] at hm;rw [hr,hm]
   · cases h
 · rintro ⟨p,q,h,rfl,rfl⟩;rcases h with ⟨⟨x,y,hx,hy⟩,a,b⟩ | ⟨x,y,hx,hy,h3,h4,he,hu⟩
   · rw [oT hx,oT hy,mO hx,mO hy];simp [a,b]
   · rw [oT hx,oT hy,mO hx,mO hy];simp [h3,h4,he];right;rw [<-he,(s6 hx h3).2 hu]; rfl
theorem Fs {S:aW} {i k:Nat} (hi:i < S.flatten.length) (hk:k < S.flatten.length):bef S i k=true↔∃ p q,zl S p q/\num S p=i/\num S q=k:=by
 unfold bef;rw [Pb hi hk];constructor
 · intro h;have key:∀ a b,TG (fun a b=>a < S.flatten.length/\b < S.flatten.length/\lW S a b=true) a b->∃ p q,TG (Jb S) p q/\num S p=a/\num S q=b:=by
     intro a b h;induction h with
     | one h =>obtain ⟨p,q,he,a,b⟩:=vD.1 h.2.2;exact ⟨p,q,.one he,a,b⟩
     | step h _ ih =>obtain ⟨p,q,he,a,b⟩:=vD.1 h.2.2;obtain ⟨p',q',he',a',b'⟩:=ih;obtain ⟨x,hx⟩:=(qV (lI.2 he')).1;obtain ⟨y,hy⟩:=(qV (lI.2 (.one he))).2;have:p'=q:=oU hx hy (a'.trans b.symm);subst this;exact ⟨p,q',.step he he',a,b'⟩
   obtain ⟨p,q,h,a,b⟩:=key i k h;exact ⟨p,q,lI.2 h,a,b⟩
 · rintro ⟨p,q,h,rfl,rfl⟩;have h:=lI.1 h;have key:∀ a b,TG (Jb S) a b->TG (fun a b=>a < S.flatten.length/\b < S.flatten.length/\lW S a b=true) (num S a) (num S b):=by intro a b h;refine TG.map (num S) (fun a b h=>?_) h;obtain ⟨⟨x,hx⟩,⟨y,hy⟩⟩:=qV (lI.2 (.one h));exact ⟨so hx,so hy,vD.2 ⟨a,b,h,rfl,rfl⟩⟩
   exact key p q h
theorem uI {S:aW} {i k:Nat} (hi:i < S.flatten.length) (hk:k < S.flatten.length):TG (EA (aft S)) i k↔bef S i k=true:=by rw [Fy,Fs hi hk]
theorem Jt {S:aW} (h:ja S) {D w b:List Nat} (ho:KO (aft S) S.flatten.length D w b []) :
   w=rR (bef S) S.flatten.length S.flatten.length/\∀ i k,i < S.flatten.length->k < S.flatten.length->bef S i k=true->w.getD i 0 < w.getD k 0:=by
 obtain ⟨f1,f2,f3⟩:=ho.fin fun y _=>Hs h y;have g1:∀ i k,i < S.flatten.length->k < S.flatten.length->bef S i k=true->w.getD i 0+1<=w.getD k 0:=by
   intro i k hi hk hb;have:=(uI hi hk).2 hb;clear hb hk;induction this with
   | one e=>exact f1 _ _ hi e
   | step e _ ih =>
     rename_i b c _;have hb:b < S.flatten.length:=by obtain ⟨p,q,he,_,hq⟩:=mX.1 e;obtain ⟨z,hz⟩:=(mf he).2;rw [<-hq]; exact so hz
     have:=f1 _ _ hi e;have:=ih hb;omega
 refine ⟨?_,g1⟩;have key:=PK (M:=bef S) (N:=S.flatten.length) (w:=fun k=>w.getD k 0) g1 (fun k hk=>(f2 k hk).imp id fun ⟨i,hi,e,r⟩=>⟨i,hi,(uI hi hk).1 (.one e),r⟩) S.flatten.length;apply List.ext_getElem?;intro k;rcases bc k S.flatten.length with hk | hk
 · have:=key.2 k hk (f3 k hk);rw [gde,gde,aj (l:=w) (by rw [ho.lw]; exact hk),aj (l:=rR _ _ _) (by rw [Er]; exact hk)] at this;rw [aj (l:=w) (by rw [ho.lw]; exact hk),aj (l:=rR _ _ _) (by rw [Er]; exact hk)];simpa using this.symm
 · rw [aE (l:=w) (by rw [ho.lw]; exact hk),aE (by rw [Er]; exact hk)]
end Go.Dv.Qu
namespace Go.Dv.Qu
def mC (cs:List (List Bool)) (x:Item):List Int:=
 if x.kind=0 then ((cs.getD x.code.toNat []).zip x.args).filterMap fun p=>if p.1 then some p.2 else none
 else if x.kind=1 then [x.frm,x.dst] else if x.kind=2 then [x.dst] else []
def tX (cs:List (List Bool)) (x:Item):List Int:=
 if x.kind=0 then ((cs.getD x.code.toNat []).zip x.args).filterMap fun p=>if p.1 then some p.2 else none
 else if x.kind=1 then [x.dst] else if x.kind=2 then [x.dst] else []
def Cv (a b:List Int):Bool:=a.any fun i=>b.contains i
def xE (cs:List (List Bool)) (x y:Item):Bool:=Cv (mC cs x) (tX cs y) || Cv (tX cs x) (mC cs y)
def xS (cs:List (List Bool)) (x y:Item):Bool:=(bp 6).any fun i =>
 (mC cs x).contains (i:Int) && (mC cs y).contains (i:Int) && ((tX cs x).contains (i:Int) || (tX cs y).contains (i:Int))
theorem uT {a b:List Int}:Cv a b=true↔∃ i,i∈a/\i∈b:=by simp [Cv]
theorem C5 {cs:List (List Bool)} {x:Item} {i:Int} (h:i∈tX cs x):i∈mC cs x:=by
 unfold tX at h;unfold mC;split at h
 · rename_i e; rw [if_pos e]; exact h
 · rename_i e;rw [if_neg e];split at h
   · rename_i e'; rw [if_pos e']; simp at h ⊢; exact .inr h
   · rename_i e';rw [if_neg e']; exact h
theorem HG {cs:List (List Bool)} {x y:Item}:xE cs x y=true↔∃ i,i∈mC cs x/\i∈mC cs y/\(i∈tX cs x∨i∈tX cs y):=by
 unfold xE;rw [ic,uT,uT];constructor
 · rintro (⟨i,a,b⟩ | ⟨i,a,b⟩)
   · exact ⟨i,a,C5 b,.inr b⟩
   · exact ⟨i,C5 a,b,.inl a⟩
 · rintro ⟨i,a,b,c | c⟩
   · exact .inr ⟨i,c,b⟩
   · exact .inl ⟨i,a,c⟩
theorem Cb {cs:List (List Bool)} {x y:Item} (h:∀ i∈mC cs x,0<=i/\i < 6):xS cs x y=xE cs x y:=by
 rw [gI,HG];unfold xS;rw [List.any_eq_true];constructor
 · rintro ⟨i,_,h⟩;simp only [az,ic,jg] at h;exact ⟨i,h.1.1,h.1.2,h.2⟩
 · rintro ⟨i,a,b,c⟩;obtain ⟨h0,h6⟩:=h i a;refine ⟨i.toNat,eX.2 (by omega),?_⟩;simp only [az,ic,jg];rw [show ((i.toNat:Nat):Int)=i by omega];exact ⟨⟨a,b⟩,c⟩
def doI (m:List (List Int)) (x:Item):List (List Int):=
 if x.kind=1 then m.set x.dst.toNat (m.getD x.frm.toNat [])
 else if x.kind=2 then m.set x.dst.toNat (au (m.getD x.dst.toNat []).length x.word) else m
inductive RT (S:aW):List Nat->(Int->Bool)->List Place->Prop
 | init:RT S (au S.length 0) (fun _=>false) []
 | step {a:List Nat} {R:Int->Bool} {L:List Place} {s:Nat} {x:Item}:RT S a R L->s∈ready S a R->di S s (a.getD s 0)=some x->RT S (a.set s (a.getD s 0+1)) (Cc R x) (L++[(s,a.getD s 0)])
theorem RT.reach {S:aW} {a:List Nat} {R:Int->Bool} {L:List Place} (h:RT S a R L):Reach S a R:=by
 induction h with
 | init=>exact .init
 | step _ hs hx ih=>exact .step ih hs hx
def doP (S:aW) (m:List (List Int)) (p:Place):List (List Int):=doI m ((at? S p).getD default)
end Go.Dv.Qu
namespace Go.Dv
open Go.Proofs
attribute [local congr] aA bC aT bB bD
def qi (x:Itm):Qu.Item:=⟨x.kind,x.code,x.grid,x.block,x.src,x.dst,x.ev,x.args,x.word⟩
def qS (ss:List (List Itm)):Qu.aW:=ss.map (·.map qi)
def rF (rc:List Bool):Int->Bool:=fun e=>decide (0<=e) && rc.getD e.toNat false
theorem se (ss:List (List Itm)):(qS ss).length=ss.length:=by unfold qS; rw [ao]
theorem mF {ss:List (List Itm)} {s:Nat} (h:s < ss.length):ss[s]? =some (aM ss s):=by unfold aM; rw [gde,aj h]; rfl
theorem sS {ss:List (List Itm)} {s:Nat} (h:ss.length<=s):aM ss s=[]:=by unfold aM; rw [gde,aE h]; rfl
theorem tC {xs:List Itm} {k:Nat} (h:k < xs.length):xs[k]? =some (bo xs k):=by unfold bo; rw [gde,aj h]; rfl
theorem wN (ss:List (List Itm)) (s:Nat):(qS ss).getD s []=(aM ss s).map qi:=by
 unfold qS;rw [gde,aO];rcases bc s ss.length with h | h
 · rw [mF h]; rfl
 · rw [aE h,sS h]; rfl
theorem nv {ss:List (List Itm)} {s k:Nat} (h:k < (aM ss s).length):Qu.di (qS ss) s k=some (qi (bo (aM ss s) k)):=by
 have hs:s < ss.length:=by
   rcases bc s ss.length with c | c
   · exact c
   · rw [sS c] at h; simp at h
 unfold Qu.di qS;rw [aO,mF hs,cH,ax,aO,tC h]; rfl
theorem tD {ss:List (List Itm)} {s k:Nat} (h:(aM ss s).length<=k):Qu.di (qS ss) s k=none:=by
 unfold Qu.di qS;rw [aO];rcases bc s ss.length with c | c
 · rw [mF c,cH,ax,aO,aE h]; rfl
 · rw [aE c]; rfl
theorem CJ {ss:List (List Itm)} {s k:Nat} {y:Qu.Item}:Qu.di (qS ss) s k=some y↔k < (aM ss s).length/\y=qi (bo (aM ss s) k):=by
 rcases bc k (aM ss s).length with c | c
 · rw [nv c];exact ⟨fun h=>⟨c,(aB h).symm⟩,fun h=>by rw [h.2]⟩
 · rw [tD c];exact ⟨fun h=>(by cases h),fun h=>absurd h.1 (by omega)⟩
def sG (ss:List (List Itm)):Prop:=∀ l∈ss,∀ x∈l,(x.kind=3∨x.kind=4)->0<=x.ev/\x.ev < 16
theorem gG {ss:List (List Itm)} {s:Nat} (h:s < ss.length):aM ss s∈ss:=jw (mF h)
theorem fA {xs:List Itm} {k:Nat} (h:k < xs.length):bo xs k∈xs:=jw (tC h)
theorem sG.at {ss:List (List Itm)} (h:sG ss) {s k:Nat} (hk:k < (aM ss s).length) (hx:(bo (aM ss s) k).kind=3∨(bo (aM ss s) k).kind=4):0<=(bo (aM ss s) k).ev/\(bo (aM ss s) k).ev < 16:=by
 have hs:s < ss.length:=by
   rcases bc s ss.length with c | c
   · exact c
   · rw [sS c] at hk; simp at hk
 exact h _ (gG hs) _ (fA hk) hx
theorem QJ {ss:List (List Itm)} (hev:sG ss) (ad:List Nat) (rc:List Bool) (s:Nat):Qu.Lq (qS ss) ad (rF rc) s=okS ss ad rc s:=by
 unfold Qu.Lq okS;rcases bc (ad.getD s 0) (aM ss s).length with c | c
 · rw [nv c,cu (by omega),bf];show ((bo (aM ss s) (ad.getD s 0)).kind != 4 || rF rc (bo (aM ss s) (ad.getD s 0)).ev)=_;unfold eqB;cases hk:((bo (aM ss s) (ad.getD s 0)).kind == 4) with
   | false=>rw [bne,hk]; rfl
   | true =>
     have h4:(bo (aM ss s) (ad.getD s 0)).kind=4:=by simpa using hk
     have:=hev.at c (.inr h4);simp only [bne,hk,Bool.not_true,Bool.false_or,rF];rw [decide_eq_true this.1,bf]
 · rw [tD c,cw (by omega),Bool.false_and]
theorem xU {ss:List (List Itm)} (hev:sG ss) (ad:List Nat) (rc:List Bool):Qu.ready (qS ss) ad (rF rc)=cO ss ad rc ss.length:=by unfold Qu.ready cO;rw [se,show Qu.Lq (qS ss) ad (rF rc)=okS ss ad rc from funext fun s=>QJ hev ad rc s]
theorem Bg (ss:List (List Itm)) (ad:List Nat):Qu.left (qS ss) ad=ey ss ad ss.length:=by unfold Qu.left ey;rw [se];refine List.map_congr_left fun s _=>?_;rw [wN,ao]
def doM (m:List (List Int)) (x:Itm):List (List Int):=
 if x.kind=1 then m.set x.dst.toNat (bV m x.src.toNat)
 else if x.kind=2 then m.set x.dst.toNat (au (bV m x.dst.toNat).length x.word) else m
def doR (rc:List Bool) (x:Itm):List Bool:=if x.kind=3 then rc.set x.ev.toNat true else rc
def doA (ad:List Nat) (s:Nat):List Nat:=ad.set s (ad.getD s 0+1)
theorem Wd {rc:List Bool} (hl:rc.length=16) {x:Itm} (hx:x.kind=3->0<=x.ev/\x.ev < 16):rF (doR rc x)=Qu.Cc (rF rc) (qi x):=by
 unfold doR Qu.Cc;show _=if x.kind=3 then (fun e=>rF rc e || e == x.ev) else rF rc
 by_cases h:x.kind=3
 · rw [if_pos h,if_pos h];obtain ⟨h0,h1⟩:=hx h;funext e;unfold rF;rw [gI];simp only [az,ic,decide_eq_true_iff,beq_iff_eq,gde,List.getElem?_set];by_cases he:x.ev.toNat=e.toNat
   · rw [if_pos he,if_pos (by omega)];simp only [fE,and_true];constructor
     · intro h; exact .inr (by omega)
     · rintro (⟨h,_⟩ | h) <;> omega
   · rw [if_neg he];constructor
     · intro h; exact .inl h
     · rintro (h | h)
       · exact h
       · exact absurd (by rw [h]) he
 · rw [if_neg h,if_neg h]
theorem PL:rF (au 16 false)=fun _=>false:=by
 funext e;unfold rF;rw [gde,List.getElem?_replicate];by_cases h:e.toNat < 16
 · rw [if_pos h]; simp
 · rw [if_neg h]; simp
theorem jS {ss:List (List Itm)} {ad:List Nat} {rc:List Bool} {n s:Nat} (h:s∈cO ss ad rc n):s < n/\okS ss ad rc s=true:=by unfold cO at h;rw [fm,eX] at h; exact h
theorem sj {ss:List (List Itm)} {ad:List Nat} {rc:List Bool} {s:Nat} (h:okS ss ad rc s=true):ad.getD s 0 < (aM ss s).length:=by unfold okS at h;rw [az,dB] at h;exact Int.ofNat_lt.1 h.1
theorem Pw {ss:List (List Itm)} (hev:sG ss) {ad:List Nat} {rc:List Bool} {L:List Qu.Place} (hl:rc.length=16) (h:Qu.RT (qS ss) ad (rF rc) L) {s:Nat} (hs:s∈cO ss ad rc ss.length) :
   Qu.RT (qS ss) (doA ad s) (rF (doR rc (bo (aM ss s) (ad.getD s 0)))) (L++[(s,ad.getD s 0)]):=by have hk:=sj (jS hs).2;rw [Wd hl fun h3=>hev.at hk (.inl h3)];exact .step h (by rw [xU hev]; exact hs) (nv hk)
def bu (es n:Nat) (v:AV) (b:Nat):AV:=match v with
 | .nilSlice=>.nilSlice
 | _=>if n=0 then .slice b 0 es 0 0 true else .slice (b+1) 0 es n n false
def bq (E:TypeId) (v:AV) (xs:List AV):AH:=match v with
 | .nilSlice=>[]
 | _=>if xs=[] then [.cells [] E] else [.cells [] E,.cells xs E]
theorem yK {es:Nat} (hes:0 < es) {rows:List (List AV)} (hr:∀ r∈rows,r.length=es):rows.flatten=[]↔rows.length=0:=by rw [<-dO,d5 hr,O4];exact ⟨fun h=>h.elim id fun h=>by omega,.inl⟩
theorem my {T E es:Nat} (A:pC aa T (some T) E es) (hes:0 < es) {H:AH} {v:AV} {rows:List (List AV)} (h:SlS T es H v rows) (hr:∀ r∈rows,r.length=es) (hv:v≠.nilSlice) (hg:gf (aa.bytesOf E) rows.length=true) (L:AH) :
   fV aa none T (some T) (.slice (H.length+L.length) 0 es 0 0 true) v (H++(L++[.cells [] E]))=some (bu es rows.length v (H.length+L.length),H++(L++bq E v rows.flatten)):=by
 obtain ⟨z,hz,hzl,hzn⟩:=A.z;have hrow:=(h.app (L++[bm.cells [] E])).row;have hln:=h.lenOf;have hsrc:∃ f,pL (H++(L++[.cells [] E])) es v=some (rows.length,f)/\f rows.length=some rows.flatten:=by
   generalize hxs:rows.flatten=xs at hrow;cases hrow with
   | nil=>exact absurd rfl hv
   | «at» i k len cap ex xs h' =>rw [cp] at hln;subst hln;exact ⟨fun n=>if n<=rows.length then ak (H++(L++[bm.cells [] E])) i k (n * es) else none,by simp [pL],by simp [h']⟩
 obtain ⟨f,hf,hfn⟩:=hsrc;unfold fV;rw [if_neg (by rw [A.x]; simp),A.el,ax,hz,ax,A.sz,hf,ax];simp only [hfn,ax];rw [if_pos ⟨by rw [hzl,A.sz],hzn⟩];try simp only [if_true]
 have hc:∀ b,bu es rows.length v b=if rows.length=0 then .slice b 0 es 0 0 true else .slice (b+1) 0 es rows.length rows.length false:=fun b=>by cases v <;> first | rfl | exact absurd rfl hv
 have hL:bq E v rows.flatten=if rows.flatten=[] then [.cells [] E] else [.cells [] E,.cells rows.flatten E]:=by cases v <;> first | rfl | exact absurd rfl hv
 rw [hc,hL];by_cases h0:rows.length=0
 · rw [if_pos h0,if_pos h0,if_pos ((yK hes hr).2 h0)]
 · rw [if_neg h0,if_neg h0,if_neg fun e=>h0 ((yK hes hr).1 e),if_neg (by omega),cZ,if_pos hg];have hrd:ak (H++(L++[bm.cells [] E])) (H.length+L.length) 0 (0 * es)=some []:=by rw [jE,nU];unfold ak;rw [al (aw _),Nat.sub_self]; rfl
   rw [hrd,ax];simp only [put,cH,List.nil_append,ai,List.length_singleton,aD,List.cons_append,Nat.add_assoc]
theorem kW {E es:Nat} {G:AH} {v:AV} {xs:List AV} {n:Nat} (hes:0 < es) (hn:xs.length=n * es) (hv:v=.nilSlice->xs=[]):Own G.length (G++bq E v xs) es E (bu es n v G.length) xs:=by
 by_cases hvn:v=.nilSlice
 · rw [hvn,hv hvn]; exact .nil
 · have hc:bu es n v G.length=if n=0 then .slice G.length 0 es 0 0 true else .slice (G.length+1) 0 es n n false:=by
     cases v <;> first | rfl | exact absurd rfl hvn
   have hL:bq E v xs=if xs=[] then [.cells [] E] else [.cells [] E,.cells xs E]:=by
     cases v <;> first | rfl | exact absurd rfl hvn
   rw [hc,hL]
   by_cases h0:n=0
   · have hx:xs=[]:=dO.1 (by rw [hn,h0,nU])
     rw [if_pos h0,if_pos hx]
     subst hx
     exact .at _ _ _ _ _ [] _ (aw _) (by simp) (aw _) (by simp) (by rw [gj,nU]; rfl)
   · have hx:xs≠[]:=fun e=>h0 (by
       rw [e,List.length_nil] at hn
       rcases O4.1 hn.symm with h | h
       · exact h
       · omega)
     rw [if_neg h0,if_neg hx]
     have hg:(G++[bm.cells [] E,.cells xs E])[G.length+1]? =some (.cells xs E):=by
       rw [al (dI _ _),Nat.add_sub_cancel_left]; rfl
     refine .at _ _ _ _ _ xs _ (dI _ _) hg (aw _) (by rw [hn,cZ]; exact aw _) ?_
     unfold ak
     rw [hg]
     simp only
     rw [if_pos (by omega),List.drop_zero,List.take_of_length_le (by omega)]
theorem eL (es n:Nat) (v:AV) (b:Nat):(bu es n v b).cells=[bu es n v b]/\(bu es n v b).one=true:=by
 unfold bu;split
 · exact ⟨rfl,rfl⟩
 · split <;> exact ⟨rfl,rfl⟩
theorem abk:pC aa 22 (some 22) 66 5:=⟨by kernel_rfl,⟨(d8 aa 66).getD uA,by kernel_rfl,by kernel_rfl,by (have h:((d8 aa 66).getD uA).cells.length=5:=by kernel_rfl); intro e; rw [e] at h; cases h⟩,by kernel_rfl,by kernel_rfl⟩
theorem Ww (H:AH):bn aa none 22 0 [] H=some (.slice H.length 0 5 0 0 true,H++[.cells [] 66]):=by kernel_rfl
theorem aa8 (H L:AH):bn aa none 22 0 [] (H++L)=some (.slice (H.length+L.length) 0 5 0 0 true,H++(L++[.cells [] 66])):=by rw [Ww,ai,aD]
theorem Vw (H:AH) (i k e l c:Nat) (x:Bool) (fb:Option AV):je .eql 22 (.slice i k e l c x) .nilSlice H fb=some (.bool false):=by
 have h:eqA aa 22 H (.slice i k e l c x) .nilSlice=some false:=by kernel_rfl
 unfold je; simp only [h]; try rfl
theorem Vv (H:AH) (fb:Option AV):je .eql 22 .nilSlice .nilSlice H fb=some (.bool true):=by
 have h:eqA aa 22 H .nilSlice .nilSlice=some true:=by kernel_rfl
 unfold je; simp only [h]
theorem aeQ {H:AH} {v:AV} {rows:List (List AV)} (h:SlS 22 5 H v rows) (hr:∀ r∈rows,r.length=5) (hg:gf (aa.bytesOf 66) rows.length=true) (L:AH):Ev aa C0 W0 27 [v] (H++L)=some (bu 5 rows.length v (H.length+L.length),H++(L++bq 66 v rows.flatten)):=by
 rcases h.old with ⟨rfl,rfl⟩ | ⟨i,k,c,e,rfl,_,_⟩
 · clear hg hr;obtain ⟨tm,ht,g0,g1⟩:=tm1 (.nilSlice) 8 (by decide);rw [Zf,ht];simp -implicitDefEqProofs only [c27,f27,aP,g0,g1,↓Vv,↓aG,aF,eu,sevalprocAttr];simp only [bu,bq,af]
 · obtain ⟨tm,ht,g0,g1⟩:=tm1 (.slice i k 5 rows.length c e) 8 (by decide);rw [Zf,ht];have he:=my abk (by decide) h hr (by simp) hg L;simp -implicitDefEqProofs only [c27,f27,aP,g0,g1,↓Vw,aa8,↓bS,he,↓aG,aF,eu,sevalprocAttr]
theorem abi:pC aa 62 (some 62) 74 2:=⟨by kernel_rfl,⟨(d8 aa 74).getD uA,by kernel_rfl,by kernel_rfl,by (have h:((d8 aa 74).getD uA).cells.length=2:=by kernel_rfl); intro e; rw [e] at h; cases h⟩,by kernel_rfl,by kernel_rfl⟩
theorem Wp (H:AH):bn aa none 62 0 [] H=some (.slice H.length 0 2 0 0 true,H++[.cells [] 74]):=by kernel_rfl
theorem aa1 (H L:AH):bn aa none 62 0 [] (H++L)=some (.slice (H.length+L.length) 0 2 0 0 true,H++(L++[.cells [] 74])):=by rw [Wp,ai,aD]
theorem Vq (H:AH) (i k e l c:Nat) (x:Bool) (fb:Option AV):je .eql 62 (.slice i k e l c x) .nilSlice H fb=some (.bool false):=by
 have h:eqA aa 62 H (.slice i k e l c x) .nilSlice=some false:=by kernel_rfl
 unfold je; simp only [h]; try rfl
theorem Vp (H:AH) (fb:Option AV):je .eql 62 .nilSlice .nilSlice H fb=some (.bool true):=by
 have h:eqA aa 62 H .nilSlice .nilSlice=some true:=by kernel_rfl
 unfold je; simp only [h]
theorem aeP {H:AH} {v:AV} {rows:List (List AV)} (h:SlS 62 2 H v rows) (hr:∀ r∈rows,r.length=2) (hg:gf (aa.bytesOf 74) rows.length=true) (L:AH):Ev aa C0 W0 29 [v] (H++L)=some (bu 2 rows.length v (H.length+L.length),H++(L++bq 74 v rows.flatten)):=by
 rcases h.old with ⟨rfl,rfl⟩ | ⟨i,k,c,e,rfl,_,_⟩
 · clear hg hr;obtain ⟨tm,ht,g0,g1⟩:=tm1 (.nilSlice) 8 (by decide);rw [Ze,ht];simp -implicitDefEqProofs only [c29,f29,aP,g0,g1,↓Vp,↓aG,aF,eu,sevalprocAttr];simp only [bu,bq,af]
 · obtain ⟨tm,ht,g0,g1⟩:=tm1 (.slice i k 2 rows.length c e) 8 (by decide);rw [Ze,ht];have he:=my abi (by decide) h hr (by simp) hg L;simp -implicitDefEqProofs only [c29,f29,aP,g0,g1,↓Vq,aa1,↓bS,he,↓aG,aF,eu,sevalprocAttr]
theorem abh:pC aa 63 (some 63) 77 2:=⟨by kernel_rfl,⟨(d8 aa 77).getD uA,by kernel_rfl,by kernel_rfl,by (have h:((d8 aa 77).getD uA).cells.length=2:=by kernel_rfl); intro e; rw [e] at h; cases h⟩,by kernel_rfl,by kernel_rfl⟩
theorem Wo (H:AH):bn aa none 63 0 [] H=some (.slice H.length 0 2 0 0 true,H++[.cells [] 77]):=by kernel_rfl
theorem aa0 (H L:AH):bn aa none 63 0 [] (H++L)=some (.slice (H.length+L.length) 0 2 0 0 true,H++(L++[.cells [] 77])):=by rw [Wo,ai,aD]
theorem Vo (H:AH) (i k e l c:Nat) (x:Bool) (fb:Option AV):je .eql 63 (.slice i k e l c x) .nilSlice H fb=some (.bool false):=by
 have h:eqA aa 63 H (.slice i k e l c x) .nilSlice=some false:=by kernel_rfl
 unfold je; simp only [h]; try rfl
theorem Vn (H:AH) (fb:Option AV):je .eql 63 .nilSlice .nilSlice H fb=some (.bool true):=by
 have h:eqA aa 63 H .nilSlice .nilSlice=some true:=by kernel_rfl
 unfold je; simp only [h]
theorem aeO {H:AH} {v:AV} {rows:List (List AV)} (h:SlS 63 2 H v rows) (hr:∀ r∈rows,r.length=2) (hg:gf (aa.bytesOf 77) rows.length=true) (L:AH):Ev aa C0 W0 30 [v] (H++L)=some (bu 2 rows.length v (H.length+L.length),H++(L++bq 77 v rows.flatten)):=by
 rcases h.old with ⟨rfl,rfl⟩ | ⟨i,k,c,e,rfl,_,_⟩
 · clear hg hr;obtain ⟨tm,ht,g0,g1⟩:=tm1 (.nilSlice) 8 (by decide);rw [Zd,ht];simp -implicitDefEqProofs only [c30,f30,aP,g0,g1,↓Vn,↓aG,aF,eu,sevalprocAttr];simp only [bu,bq,af]
 · obtain ⟨tm,ht,g0,g1⟩:=tm1 (.slice i k 2 rows.length c e) 8 (by decide);rw [Zd,ht];have he:=my abh (by decide) h hr (by simp) hg L;simp -implicitDefEqProofs only [c30,f30,aP,g0,g1,↓Vo,aa0,↓bS,he,↓aG,aF,eu,sevalprocAttr]
theorem abg:pC aa 64 (some 64) 80 8:=⟨by kernel_rfl,⟨(d8 aa 80).getD uA,by kernel_rfl,by kernel_rfl,by (have h:((d8 aa 80).getD uA).cells.length=8:=by kernel_rfl); intro e; rw [e] at h; cases h⟩,by kernel_rfl,by kernel_rfl⟩
theorem Wn (H:AH):bn aa none 64 0 [] H=some (.slice H.length 0 8 0 0 true,H++[.cells [] 80]):=by kernel_rfl
theorem aaZ (H L:AH):bn aa none 64 0 [] (H++L)=some (.slice (H.length+L.length) 0 8 0 0 true,H++(L++[.cells [] 80])):=by rw [Wn,ai,aD]
theorem Vm (H:AH) (i k e l c:Nat) (x:Bool) (fb:Option AV):je .eql 64 (.slice i k e l c x) .nilSlice H fb=some (.bool false):=by
 have h:eqA aa 64 H (.slice i k e l c x) .nilSlice=some false:=by kernel_rfl
 unfold je; simp only [h]; try rfl
theorem Vl (H:AH) (fb:Option AV):je .eql 64 .nilSlice .nilSlice H fb=some (.bool true):=by
 have h:eqA aa 64 H .nilSlice .nilSlice=some true:=by kernel_rfl
 unfold je; simp only [h]
theorem aeN {H:AH} {v:AV} {rows:List (List AV)} (h:SlS 64 8 H v rows) (hr:∀ r∈rows,r.length=8) (hg:gf (aa.bytesOf 80) rows.length=true) (L:AH):Ev aa C0 W0 31 [v] (H++L)=some (bu 8 rows.length v (H.length+L.length),H++(L++bq 80 v rows.flatten)):=by
 rcases h.old with ⟨rfl,rfl⟩ | ⟨i,k,c,e,rfl,_,_⟩
 · clear hg hr;obtain ⟨tm,ht,g0,g1⟩:=tm1 (.nilSlice) 8 (by decide);rw [Zc,ht];simp -implicitDefEqProofs only [c31,f31,aP,g0,g1,↓Vl,↓aG,aF,eu,sevalprocAttr];simp only [bu,bq,af]
 · obtain ⟨tm,ht,g0,g1⟩:=tm1 (.slice i k 8 rows.length c e) 8 (by decide);rw [Zc,ht];have he:=my abg (by decide) h hr (by simp) hg L;simp -implicitDefEqProofs only [c31,f31,aP,g0,g1,↓Vm,aaZ,↓bS,he,↓aG,aF,eu,sevalprocAttr]
theorem abj:pC aa 32 (some 32) 21 1:=⟨by kernel_rfl,⟨(d8 aa 21).getD uA,by kernel_rfl,by kernel_rfl,by (have h:((d8 aa 21).getD uA).cells.length=1:=by kernel_rfl); intro e; rw [e] at h; cases h⟩,by kernel_rfl,by kernel_rfl⟩
theorem Wq (H:AH):bn aa none 32 0 [] H=some (.slice H.length 0 1 0 0 true,H++[.cells [] 21]):=by kernel_rfl
theorem aa2 (H L:AH):bn aa none 32 0 [] (H++L)=some (.slice (H.length+L.length) 0 1 0 0 true,H++(L++[.cells [] 21])):=by rw [Wq,ai,aD]
theorem Vs (H:AH) (i k e l c:Nat) (x:Bool) (fb:Option AV):je .eql 32 (.slice i k e l c x) .nilSlice H fb=some (.bool false):=by
 have h:eqA aa 32 H (.slice i k e l c x) .nilSlice=some false:=by kernel_rfl
 unfold je; simp only [h]; try rfl
theorem Vr (H:AH) (fb:Option AV):je .eql 32 .nilSlice .nilSlice H fb=some (.bool true):=by
 have h:eqA aa 32 H .nilSlice .nilSlice=some true:=by kernel_rfl
 unfold je; simp only [h]
theorem aeM {H:AH} {v:AV} {rows:List (List AV)} (h:SlS 32 1 H v rows) (hr:∀ r∈rows,r.length=1) (hg:gf (aa.bytesOf 21) rows.length=true) (L:AH):Ev aa C0 W0 32 [v] (H++L)=some (bu 1 rows.length v (H.length+L.length),H++(L++bq 21 v rows.flatten)):=by
 rcases h.old with ⟨rfl,rfl⟩ | ⟨i,k,c,e,rfl,_,_⟩
 · clear hg hr;obtain ⟨tm,ht,g0,g1⟩:=tm1 (.nilSlice) 8 (by decide);rw [Zb,ht];simp -implicitDefEqProofs only [c32,f32,aP,g0,g1,↓Vr,↓aG,aF,eu,sevalprocAttr];simp only [bu,bq,af]
 · obtain ⟨tm,ht,g0,g1⟩:=tm1 (.slice i k 1 rows.length c e) 8 (by decide);rw [Zb,ht];have he:=my abj (by decide) h hr (by simp) hg L;simp -implicitDefEqProofs only [c32,f32,aP,g0,g1,↓Vs,aa2,↓bS,he,↓aG,aF,eu,sevalprocAttr]
theorem Hp:pC aa 31 (some 31) 34 9:=⟨by kernel_rfl,⟨(d8 aa 34).getD uA,by kernel_rfl,by kernel_rfl,by (have h:((d8 aa 34).getD uA).cells.length=9:=by kernel_rfl); intro e; rw [e] at h; cases h⟩,by kernel_rfl,by kernel_rfl⟩
theorem Ws (H:AH):bn aa none 31 0 [] H=some (.slice H.length 0 9 0 0 true,H++[.cells [] 34]):=by kernel_rfl
theorem aa4 (H L:AH):bn aa none 31 0 [] (H++L)=some (.slice (H.length+L.length) 0 9 0 0 true,H++(L++[.cells [] 34])):=by rw [Ws,ai,aD]
theorem Vu (H:AH) (i k e l c:Nat) (x:Bool) (fb:Option AV):je .eql 31 (.slice i k e l c x) .nilSlice H fb=some (.bool false):=by
 have h:eqA aa 31 H (.slice i k e l c x) .nilSlice=some false:=by kernel_rfl
 unfold je; simp only [h]; try rfl
theorem Vt (H:AH) (fb:Option AV):je .eql 31 .nilSlice .nilSlice H fb=some (.bool true):=by
 have h:eqA aa 31 H .nilSlice .nilSlice=some true:=by kernel_rfl
 unfold je; simp only [h]
theorem aeC {H:AH} {v:AV} {rows:List (List AV)} (h:SlS 31 9 H v rows) (hr:∀ r∈rows,r.length=9) (hg:gf (aa.bytesOf 34) rows.length=true) (L:AH):Ev aa C0 W0 46 [v] (H++L)=some (bu 9 rows.length v (H.length+L.length),H++(L++bq 34 v rows.flatten)):=by
 rcases h.old with ⟨rfl,rfl⟩ | ⟨i,k,c,e,rfl,_,_⟩
 · clear hg hr;obtain ⟨tm,ht,g0,g1⟩:=tm1 (.nilSlice) 8 (by decide);rw [Y6,ht];simp -implicitDefEqProofs only [c46,f46,aP,g0,g1,↓Vt,↓aG,aF,eu,sevalprocAttr];simp only [bu,bq,af]
 · obtain ⟨tm,ht,g0,g1⟩:=tm1 (.slice i k 9 rows.length c e) 8 (by decide);rw [Y6,ht];have he:=my Hp (by decide) h hr (by simp) hg L;simp -implicitDefEqProofs only [c46,f46,aP,g0,g1,↓Vu,aa4,↓bS,he,↓aG,aF,eu,sevalprocAttr]
end Go.Dv
