/- Part 41 of the walks (own work). -/
import Derived.Test.YtilpjnckfkjkbaaGreatDoorT29
import Derived.WalkKit
import Derived.ProofKit
import Derived.OpenShut
import Derived.SizedLaws
import Derived.Test.YtilpjnckfkjkbaaGreatDoorRows
import Derived.Lib.LaidTab
import Derived.Stop.LaidErr
import Derived.MakeChecks
import Derived.WideShapes
import Derived.RowKit
open Array renaming getElem?_eq_some_iff→y9
open List renaming append_assoc→aG,append_nil→af,drop_zero→gA,getElem?_append_left→aw,getElem?_append_right→al,getElem?_eq_getElem→aj,getElem?_map→aM,mem_append→cz,mem_cons→bO,mem_cons_of_mem→gY,mem_cons_self→iG,mem_map→bL
open Nat renaming le_refl→ax,lt_or_ge→aX
open Option renaming bind_eq_some_iff→ae,map_eq_some_iff→ah
open Go.Proofs.Tryz renaming prog→aa
set_option maxRecDepth 100000
set_option maxHeartbeats 4000000
set_option linter.unusedSimpArgs false
set_option linter.unusedVariables false
namespace Go.Dv
theorem Env.le.trans' {φ ψ χ:Env} (h:φ.le ψ) (k:ψ.le χ):φ.le χ:=Env.le_trans h k
structure RdW (w:World) (φ:Env) (G:AH):Prop where
 wr:WR w (fun b=>b < w.heap.size) φ G w
 arg:∀ (i:Nat) (o:bl),G[i]? =some o->∃ cs,o=bl.arg cs
theorem RdW.nil (w:World):RdW w (fun _=>none) []:=⟨WR.start w,fun i o h=>by simp at h⟩
theorem RdW.push {w:World} {φ:Env} {G:AH} (h:RdW w φ G) {b off z:Nat} {cs:List AV} (hb:b < w.heap.size)
   (hc:∀ j v,cs[j]? =some v->∃ u,w.cell? ⟨b,off+j,none⟩=some u/\VR φ v u):φ.le (φ.set G.length (b,off,z))/\RdW w (φ.set G.length (b,off,z)) (G++[.arg cs]):=by
 have hle:=Env.si (b,off,z) (h.wr.dom G.length (ax _))
 have hA:∀ (i:Nat) (o:bl),(G++[bl.arg cs])[i]? =some o->(∃ cs,o=bl.arg cs)/\((i < G.length/\G[i]? =some o)∨i=G.length/\o=.arg cs):=by
   intro i o hi
   rcases aX i G.length with hl | hl
   · rw [aw hl] at hi
     exact ⟨h.arg i o hi,.inl ⟨hl,hi⟩⟩
   · rw [al hl] at hi
     cases hn:i - G.length with
     | zero =>
       rw [hn] at hi
       simp at hi
       exact ⟨⟨cs,hi.symm⟩,.inr ⟨by omega,hi.symm⟩⟩
     | succ n=>rw [hn] at hi; simp at hi
 have hno:∀ i,¬ jX (G++[bl.arg cs]) i:=by
   rintro i ⟨o,hi,hw⟩
   obtain ⟨⟨c,rfl⟩,_⟩:=hA i o hi
   cases hw
 refine ⟨hle,⟨⟨fun i hi=>?_,fun i hi=>?_,fun i x hx=>?_,fun i j x y hi=>absurd hi (hno i),fun i x hi=>absurd hi (hno i),fun i x c hi hx=>?_,fun i o hi=>?_,fun _ h=>h,ax _,rfl,rfl,rfl,fun _ _=>rfl⟩,fun i o hi=>(hA i o hi).1⟩⟩
 · simp at hi
   rw [Env.gN _ _ (by omega)]
   exact h.wr.dom i (by omega)
 · obtain ⟨⟨c,hc⟩,_⟩:=hA i _ hi
   cases hc
 · by_cases e:i=G.length
   · subst e; rw [Env.dL] at hx; cases hx; exact hb
   · rw [Env.gN _ _ e] at hx; exact h.wr.lt i x hx
 · by_cases e:i=G.length
   · subst e; rw [Env.dL] at hx; cases hx; exact hb
   · rw [Env.gN _ _ e] at hx; exact h.wr.lt i x hx
 · rcases (hA i o hi).2 with ⟨_,hg⟩ | ⟨rfl,rfl⟩
   · exact (h.wr.obj i o hg).lH hle fun _ _=>rfl
   · exact ⟨b,off,z,Env.dL _ _ _,fun j v hj=>(hc j v hj).imp fun u hu=>⟨hu.1,hu.2.mono hle⟩⟩
def gZ {H:Type} (enc:TypeId × Value->H) (P:Program) (t:TypeId) (Q:AH->List AV->Prop):Prop:=
 ∀ (w:World) (base:Nat) (held:Bool) (fuel:Nat) (cs:List Value) (x:DataW H × List MemPlace),DataW.trod enc P w base (fun _=>true) held fuel t cs=some x->(∀ z∈x.1.weights P t,z<=reachBytes)->0 < w.heap.size ->
   ∀ φ G,RdW w φ G->∃ φ' L avs,RdW w φ' (G++L)/\φ.le φ'/\VRs φ' avs cs/\Q (G++L) avs
def gL (Q:AH->List AV->Prop):Prop:=∀ G L avs,Q G avs->Q (G++L) avs
section
variable {H:Type} {enc:TypeId × Value->H} {P:Program} {t:TypeId}
def iL (k:IntKind):AH->List AV->Prop:=fun _ avs=>∃ n,avs=[.int k n]/\(Lit.int k n).wf=true
def As:AH->List AV->Prop:=fun _ avs=>∃ b,avs=[.bool b]
def E3:AH->List AV->Prop:=fun _ avs=>∃ s:ByteArray,avs=[.str s]/\s.size<=reachBytes
theorem B6 (k:IntKind):gL (iL k):=fun _ _ _ h=>h
theorem Hy:gL As:=fun _ _ _ h=>h
theorem Kq:gL E3:=fun _ _ _ h=>h
theorem zI {k:IntKind} (ht:P.underlying t=some (.int k)):gZ enc P t (iL k):=by
 intro w base held fuel cs x h _ _ φ G hG
 obtain ⟨n,rfl,_,hw⟩:=DataW.trod_int ht h
 exact ⟨φ,[],[.int k n],by rw [af]; exact hG,Env.le_refl φ,VRs.one rfl,n,rfl,hw⟩
theorem Ek (ht:P.underlying t=some .bool):gZ enc P t As:=by
 intro w base held fuel cs x h _ _ φ G hG
 obtain ⟨n,rfl,_⟩:=DataW.trod_bool ht h
 exact ⟨φ,[],[.bool n],by rw [af]; exact hG,Env.le_refl φ,VRs.one rfl,n,rfl⟩
theorem Hs (ht:P.underlying t=some .string):gZ enc P t E3:=by
 intro w base held fuel cs x h hz _ φ G hG
 obtain ⟨s,rfl,rfl,_⟩:=DataW.trod_string ht h
 exact ⟨φ,[],[.str s],by rw [af]; exact hG,Env.le_refl φ,VRs.one rfl,s,rfl,by
   have:=hz s.data.toList.length (by simp [DataW.weights])
   rw [Array.length_toList] at this
   exact this⟩
def SlA (G:AH) (es:Nat) (v:AV) (rows:List (List AV)):Prop:=(v=.nilSlice/\rows=[])∨∃ i c,v=.slice i 0 es rows.length c true/\G[i]? =some (.arg rows.flatten)
def QSl (P:Program) (e:TypeId) (Q:AH->List AV->Prop):AH->List AV->Prop:=fun G avs=>∃ v rows,avs=[v]/\SlA G (P.cellsOf e) v rows/\(∀ r∈rows,r.length=P.cellsOf e/\Q G r)/\rows.length * P.bytesOf e<=reachBytes
theorem SlA.mono {G:AH} {es:Nat} {v:AV} {rows:List (List AV)} (h:SlA G es v rows) (L:AH):SlA (G++L) es v rows:=h.imp id fun ⟨i,c,e,hi⟩=>⟨i,c,e,by
 rw [aw]; exact hi
 rcases aX i G.length with hl | hl
 · exact hl
 · rw [List.getElem?_eq_none hl] at hi; cases hi⟩
theorem PM {e:TypeId} {Q:AH->List AV->Prop} (hQ:gL Q):gL (QSl P e Q):=fun G L avs ⟨v,rows,h1,h2,h3,h4⟩=>⟨v,rows,h1,h2.mono L,fun r hr=>⟨(h3 r hr).1,hQ G L r (h3 r hr).2⟩,h4⟩
theorem Cw {es:Nat} (hes:0 < es):∀ (rows:List (List AV)),(∀ r∈rows,r.length=es)->∀ (n:Nat) (v:AV),rows.flatten[n]? =some v->∃ r,rows[n / es]? =some r/\r[n % es]? =some v
 | [],_,n,v,h=>by simp at h
 | r::rows,hr,n,v,h=>by
   have h0:=hr r iG
   rw [List.flatten_cons] at h
   rcases aX n es with hl | hl
   · rw [aw (by omega)] at h
     exact ⟨r,by rw [Nat.div_eq_of_lt hl]; rfl,by rw [Nat.mod_eq_of_lt hl]; exact h⟩
   · rw [al (by omega),h0] at h
     obtain ⟨q,h1,h2⟩:=Cw hes rows (fun q hq=>hr q (gY _ hq)) (n - es) v h
     obtain ⟨m,rfl⟩:=Nat.exists_eq_add_of_le hl
     rw [Nat.add_sub_cancel_left] at h1 h2
     rw [Nat.add_comm es m,Nat.add_div_right m hes,Nat.add_mod_right]
     exact ⟨q,by simpa using h1,h2⟩
theorem Ag {w:World} {base:Nat} {a:Addr} {n:Nat} {cs:List Value} (h:w.cells? base a n=some cs):cs.length=n/\∀ i,i < n->w.cell? (a.add i)=cs[i]?:=by
 unfold World.cells? at h
 split at h
 · exact ⟨by simpa using mapM_some_length h,fun i hi=>mapM_some_get h i i (by simp [hi])⟩
 · cases h
theorem Ah {w:World} {a:Addr} {v:Value} (h:w.cell? a=some v):a.spot=none/\a.block < w.heap.size:=by
 unfold World.cell? at h
 split at h
 · rename_i c e f hb
   split at h
   · cases h
   · rename_i hs
     exact ⟨by simpa using hs,(y9.1 hb).1⟩
 · cases h
theorem add_add (a:Addr) (n m:Nat):(a.add n).add m=a.add (n+m):=by
 unfold Addr.add
 by_cases hn:n=0
 · subst hn; simp
 · by_cases hm:m=0
   · subst hm; simp
   · rw [if_neg hn,if_neg hm,if_neg (by omega)]
     simp [Nat.add_assoc]
theorem pq {e:TypeId}:∀ (l:List (DataW H)) (i:Nat) (d:DataW H),l[i]? =some d->∀ z∈d.weights P e,z∈DataW.weightsAll P e l
 | [],i,d,h=>by simp at h
 | x::l,0,d,h=>fun z hz=>by simp at h; subst h; simp only [DataW.weightsAll,cz]; exact .inl hz
 | x::l,i+1,d,h=>fun z hz=>by simp only [DataW.weightsAll,cz]; exact .inr (pq l i d (by simpa using h) z hz)
theorem B3 {e:TypeId} {Q:AH->List AV->Prop} (ht:P.underlying t=some (.slice e)) (he0:0 < P.cellsOf e) (hm:gL Q) (hQ:gZ enc P e Q):gZ enc P t (QSl P e Q):=by
 intro w base held fuel cs x h hz hw φ G hG
 rcases DataW.trod_slice ht h with ⟨rfl,_⟩ | ⟨a,len,cap,elems,rest,n,_,rfl,rfl,_,hl,_,hel,he,hr,_⟩
 · exact ⟨φ,[],[.nilSlice],by rw [af]; exact hG,Env.le_refl φ,VRs.one rfl,.nilSlice,[],rfl,.inl ⟨rfl,rfl⟩,fun r hr=>by simp at hr,by simp⟩
 obtain ⟨hrl,hr⟩:=hr rfl
 generalize hes:P.cellsOf e=es at *
 have hwt:DataW.weights P t (.slice (elems.map (·.1)) (rest.map (·.1)))=((elems.map (·.1)).length+(rest.map (·.1)).length) * P.bytesOf e::(DataW.weightsAll P e (elems.map (·.1))++DataW.weightsAll P e (rest.map (·.1))):=by simp only [DataW.weights,ht]
 rw [hwt] at hz
 have hsz:len * P.bytesOf e<=reachBytes:=by
   have:=hz _ iG
   simp only [List.length_map,hel] at this
   exact Nat.le_trans (Nat.mul_le_mul_right _ (by omega)) this
 have hone:∀ i,i < cap->∃ c,w.cells? base (a.add (i * es)) es=some c:=by
   intro i hi
   have:∃ y,(w.cells? base (a.add (i * es)) es).bind (DataW.trod enc P w base (fun _=>true) held n e)=some y:=by
     rcases aX i len with hil | hil
     · rw [he i hil]; exact ⟨_,aj (by omega)⟩
     · have:=hr (i - len) (by omega)
       rw [show len+(i - len)=i by omega] at this
       rw [this]; exact ⟨_,aj (by omega)⟩
   obtain ⟨y,hy⟩:=this
   obtain ⟨c,hc,_⟩:=ae.1 hy
   exact ⟨c,hc⟩
 have rows:∀ m,m<=len->∃ (φ':Env) (L:AH) (rows:List (List AV)),RdW w φ' (G++L)/\φ.le φ'/\rows.length=m/\(∀ r∈rows,r.length=es/\Q (G++L) r)/\∀ (j:Nat) (r:List AV),rows[j]? =some r->∀ (i:Nat) (v:AV),r[i]? =some v->∃ u,w.cell? (a.add (j * es+i))=some u/\VR φ' v u:=by
   intro m
   induction m with
   | zero=>exact fun _=>⟨φ,[],[],by rw [af]; exact hG,Env.le_refl φ,rfl,fun r hr=>by simp at hr,fun j r hr=>by simp at hr⟩
   | succ m ih =>
     intro hm1
     obtain ⟨φ1,L1,rows,h1,h2,h3,h4,h5⟩:=ih (by omega)
     have hy:=he m (by omega)
     rw [aj (by omega:m < elems.length)] at hy
     obtain ⟨c,hc,hy⟩:=ae.1 hy
     obtain ⟨φ2,L2,avs,k1,k2,k3,k4⟩:=hQ w base held n c _ hy (fun z hz'=>hz z (gY _ (cz.2 (.inl (pq _ m _ (by rw [aM,aj (by omega:m < elems.length)]; rfl) z hz'))))) hw φ1 (G++L1) h1
     obtain ⟨hcl,hcg⟩:=Ag hc
     have hal:avs.length=es:=by rw [<-hcl]; exact k3.length
     refine ⟨φ2,L1++L2,rows++[avs],by rw [<-aG]; exact k1,h2.trans' k2,by simp [h3],fun r hr=>?_,fun j r hj i v hv=>?_⟩
     · rw [<-aG]
       rcases cz.1 hr with hr | hr
       · exact ⟨(h4 r hr).1,hm _ _ _ (h4 r hr).2⟩
       · simp at hr; subst hr; exact ⟨hal,k4⟩
     · rcases aX j rows.length with hl' | hl'
       · rw [aw hl'] at hj
         obtain ⟨u,hu,r'⟩:=h5 j r hj i v hv
         exact ⟨u,hu,r'.mono k2⟩
       · rw [al hl'] at hj
         cases hjn:j - rows.length with
         | succ q=>rw [hjn] at hj; simp at hj
         | zero =>
           rw [hjn] at hj
           simp at hj
           subst hj
           obtain rfl:j=m:=by omega
           have hi:i < es:=by have:=aJ hv; omega
           obtain ⟨u,hu,r'⟩:=k3.get i v hv
           exact ⟨u,by rw [<-add_add,hcg i hi]; exact hu,r'⟩
 obtain ⟨φ1,L1,rs,h1,h2,h3,h4,h5⟩:=rows len (ax _)
 subst h3
 rcases Nat.eq_zero_or_pos cap with h0 | hpos
 · subst h0
   obtain rfl:rs=[]:=List.length_eq_zero_iff.1 (by omega)
   obtain ⟨k1,k2⟩:=h1.push (b:=0) (off:=0) (z:=0) (cs:=[]) hw (fun j v hj=>by simp at hj)
   refine ⟨_,L1++[.arg []],[.slice (G++L1).length 0 es 0 0 true],by rw [<-aG]; exact k2,h2.trans' k1,VRs.one ⟨a,0,rfl,ax _,⟨ax _,fun _=>rfl⟩,.inl rfl⟩,_,[],rfl,.inr ⟨_,0,by rw [hes]; rfl,?_⟩,fun r hr=>by simp at hr,by simp⟩
   rw [<-aG]; simp
 · obtain ⟨c0,hc0⟩:=hone 0 hpos
   obtain ⟨hl0,hg0⟩:=Ag hc0
   have hsp:=Ah (v:=c0[0]'(by omega)) (by
     have:=hg0 0 he0
     rw [Nat.zero_mul,add_add] at this
     rw [this]; exact aj (by omega))
   have ha0:a.add (0+0)=a:=by simp [Addr.add]
   rw [ha0] at hsp
   have hxa:∀ n,a.add n=⟨a.block,a.off+n,none⟩:=fun n=>by
     unfold Addr.add
     split
     · rename_i h; subst h
       obtain ⟨b,o,s⟩:=a
       simp at hsp ⊢; exact hsp.1
     · rfl
   obtain ⟨k1,k2⟩:=h1.push (b:=a.block) (off:=a.off) (z:=a.off+cap * es) (cs:=rs.flatten) hsp.2 (fun j v hj=>by
     obtain ⟨r,hr1,hr2⟩:=Cw he0 rs (fun r hr=>(h4 r hr).1) j v hj
     obtain ⟨u,hu,r'⟩:=h5 _ r hr1 _ v hr2
     rw [hxa,show j / es * es+j % es=j by rw [Nat.mul_comm]; exact Nat.div_add_mod j es] at hu
     exact ⟨u,hu,r'⟩)
   refine ⟨_,L1++[.arg rs.flatten],[.slice (G++L1).length 0 es rs.length cap true],by rw [<-aG]; exact k2,h2.trans' k1,VRs.one ⟨a,cap,rfl,hl,⟨ax _,fun _=>rfl⟩,.inr ⟨a.block,a.off,a.off+cap * es,Env.dL _ _ _,?_,by omega⟩⟩,_,rs,rfl,.inr ⟨_,cap,by rw [hes],?_⟩,fun r hr=>?_,hsz⟩
   · have:=hxa 0
     rw [show a.add 0=a by simp [Addr.add]] at this
     exact this
   · rw [<-aG]; simp
   · rw [<-aG,hes]
     exact ⟨(h4 r hr).1,hm _ _ _ (h4 r hr).2⟩
def QL:List (TypeId × (AH->List AV->Prop))->AH->List AV->Prop
 | [],_,avs=>avs=[]
 | p::l,G,avs=>∃ a b,avs=a++b/\p.2 G a/\QL l G b
theorem FD:∀ {l:List (TypeId × (AH->List AV->Prop))},(∀ p∈l,gL p.2)->gL (QL l)
 | [],_=>fun _ _ _ h=>h
 | p::l,h=>fun G L avs ⟨a,b,e,h1,h2⟩=>⟨a,b,e,h p iG G L a h1,FD (fun q hq=>h q (gY _ hq)) G L b h2⟩
def pO (P:Program):Nat->List TypeId->List (TypeId × Nat)
 | _,[]=>[]
 | o,t::ts=>(t,o)::pO P (o+P.cellsOf t) ts
def qu (P:Program):List TypeId->Nat
 | []=>0
 | t::ts=>P.cellsOf t+qu P ts
def fieldsOf:Option TypeDesc->List (TypeId × Nat)
 | some (.struct fs)=>fs.toList.map fun f=>(f.type,f.offset)
 | _=>[]
theorem s9 {w:World} {base n:Nat} {held:Bool} {cs:List Value} (hw:0 < w.heap.size):∀ (l:List (TypeId × (AH->List AV->Prop))) (o:Nat),(∀ p∈l,gZ enc P p.1 p.2/\gL p.2)->cs.length=o+qu P (l.map (·.1)) ->
   (∀ (i:Nat) (u:TypeId) (off:Nat),(pO P o (l.map (·.1)))[i]? =some (u,off)->∃ y:DataW H × List MemPlace,DataW.trod enc P w base (fun _=>true) held n u ((cs.drop off).take (P.cellsOf u))=some y/\∀ z∈y.1.weights P u,z<=reachBytes) ->
   ∀ φ G,RdW w φ G->∃ φ' L avs,RdW w φ' (G++L)/\φ.le φ'/\VRs φ' avs (cs.drop o)/\QL l (G++L) avs
 | [],o,_,hl,_,φ,G,hG=>⟨φ,[],[],by rw [af]; exact hG,Env.le_refl φ,by
   simp [qu] at hl
   rw [List.drop_eq_nil_of_le (by omega)]; exact .nil _,rfl⟩
 | p::l,o,hp,hl,hf,φ,G,hG=>by
   simp only [List.map_cons,qu] at hl
   obtain ⟨y,hy,hz⟩:=hf 0 p.1 o rfl
   obtain ⟨φ1,L1,a1,h1,h2,h3,h4⟩:=(hp p iG).1 w base held n _ y hy hz hw φ G hG
   obtain ⟨φ2,L2,a2,k1,k2,k3,k4⟩:=s9 hw l (o+P.cellsOf p.1) (fun q hq=>hp q (gY _ hq)) (by omega) (fun i u off hi=>hf (i+1) u off (by simpa [pO] using hi)) φ1 (G++L1) h1
   refine ⟨φ2,L1++L2,a1++a2,by rw [<-aG]; exact k1,h2.trans' k2,?_,a1,a2,rfl,?_,?_⟩
   · have e:cs.drop o=(cs.drop o).take (P.cellsOf p.1)++cs.drop (o+P.cellsOf p.1):=by rw [<-List.drop_drop,List.take_append_drop]
     rw [e]
     exact VRs.append (VRs.mono k2 _ _ h3) k3
   · rw [<-aG]; exact (hp p iG).2 _ _ _ h4
   · rw [<-aG]; exact k4
theorem AR {l:List (TypeId × (AH->List AV->Prop))} (hf:fieldsOf (P.underlying t)=pO P 0 (l.map (·.1))) (hne:l≠[]) (hc:P.cellsOf t=qu P (l.map (·.1))) (hp:∀ p∈l,gZ enc P p.1 p.2/\gL p.2):gZ enc P t (QL l):=by
 intro w base held fuel cs x h hz hw φ G hG
 unfold fieldsOf at hf
 split at hf
 · rename_i fs ht
   obtain ⟨xs,n,_,rfl,hl,hx,he⟩:=DataW.trod_struct ht h
   have hwt:DataW.weights P t (.agg (xs.map (·.1)))=DataW.weightsEach P (fs.toList.map (·.type)) (xs.map (·.1)):=by simp only [DataW.weights,ht]
   rw [hwt] at hz
   have:=s9 (enc:=enc) (base:=base) (n:=n) (held:=held) (cs:=cs) hw l 0 hp (by omega) (fun i u o hi=>by
     rw [<-hf,aM] at hi
     simp only [ah,Prod.mk.injEq] at hi
     obtain ⟨f,hfi,rfl,rfl⟩:=hi
     have hfi':fs[i]? =some f:=by simpa using hfi
     rw [he i f hfi']
     have hi2:i < xs.length:=by rw [hx]; exact (y9.1 hfi').1
     refine ⟨_,aj hi2,fun z hz'=>hz z ?_⟩
     exact DataW.weights_mem_each (j:=i) (by rw [aM,hfi]; rfl) (by rw [aM,aj hi2]; rfl) z hz') φ G hG
   rw [gA] at this
   exact this
 · exfalso
   cases l with
   | nil=>exact hne rfl
   | cons p l=>cases hf
end
end Go.Dv
namespace Go.Dv
open Go.Proofs
theorem pick {α:Type} {f:α->List AV} {R:α->Prop}:∀ (rows:List (List AV)),(∀ r∈rows,∃ a,r=f a/\R a)->∃ l:List α,rows=l.map f/\∀ a∈l,R a
 | [],_=>⟨[],rfl,fun a h=>by simp at h⟩
 | r::rows,h=>by
   obtain ⟨a,rfl,ha⟩:=h r iG
   obtain ⟨l,rfl,hl⟩:=pick rows fun q hq=>h q (gY _ hq)
   exact ⟨a::l,rfl,fun b hb=>by
     rcases bO.1 hb with rfl | hb
     · exact ha
     · exact hl b hb⟩
theorem SlA.sls {T es:Nat} (X:IxT T es) {G:AH} {v:AV} {rows:List (List AV)} (h:SlA G es v rows) (hr:∀ r∈rows,r.length=es):SlS T es G v rows:=by
 rcases h with ⟨rfl,rfl⟩ | ⟨i,c,rfl,hi⟩
 · exact kS X G
 · refine nA X hr (by unfold okC; rw [hi]) ?_
   unfold ak
   rw [hi]
   simp only [dM hr,Nat.zero_add,ax,if_true,gA]
   rw [List.take_of_length_le (by rw [dM hr]; exact ax _)]
theorem wf_i32 {n:Int} (h:(Lit.int .i32 n).wf=true):e9 n:=by
 have:=bounds_i32 h
 exact ⟨this.1,by omega⟩
theorem mY {n k:Nat} (hk:0 < k) (h:n * k<=reachBytes):n < 2 ^ 50:=by
 have:=reachBytes_lt
 have:n * 1<=n * k:=Nat.mul_le_mul_left n hk
 omega
section
variable {H:Type} {enc:TypeId × Value->H}
theorem NY:aa.underlying 3=some (.int .i64):=by kernel_rfl
theorem NZ:aa.underlying 21=some (.int .i32):=by kernel_rfl
theorem IH:aa.underlying 4=some .bool:=by kernel_rfl
theorem NX:aa.underlying 9=some .string:=by kernel_rfl
theorem jq:gZ enc aa 3 (iL .i64)/\gL (iL .i64):=⟨zI NY,B6 _⟩
theorem Ki:gZ enc aa 21 (iL .i32)/\gL (iL .i32):=⟨zI NZ,B6 _⟩
theorem Kj:gZ enc aa 4 As/\gL As:=⟨Ek IH,Hy⟩
theorem Kh:gZ enc aa 9 E3/\gL E3:=⟨Hs NX,Kq⟩
theorem m6 {t e:TypeId} {Q:AH->List AV->Prop} (ht:aa.underlying t=some (.slice e)) (hc:0 < aa.cellsOf e) (h:gZ enc aa e Q/\gL Q):gZ enc aa t (QSl aa e Q)/\gL (QSl aa e Q):=⟨B3 ht hc h.2 h.1,PM h.2⟩
theorem my {t:TypeId} {l:List (TypeId × (AH->List AV->Prop))} (hf:fieldsOf (aa.underlying t)=pO aa 0 (l.map (·.1))) (hne:l≠[]) (hc:aa.cellsOf t=qu aa (l.map (·.1))) (hp:∀ p∈l,gZ enc aa p.1 p.2/\gL p.2):gZ enc aa t (QL l)/\gL (QL l):=⟨AR hf hne hc hp,FD fun p h=>(hp p h).2⟩
theorem all_nil {R:(TypeId × (AH->List AV->Prop))->Prop}:∀ p∈([]:List (TypeId × (AH->List AV->Prop))),R p:=fun p h=>by simp at h
theorem all_cons {R:(TypeId × (AH->List AV->Prop))->Prop} {x:TypeId × (AH->List AV->Prop)} {l:List (TypeId × (AH->List AV->Prop))} (h:R x) (hl:∀ p∈l,R p):∀ p∈x::l,R p:=fun p hp=>by
 rcases bO.1 hp with rfl | hp
 · exact h
 · exact hl p hp
noncomputable def By:List (TypeId × (AH->List AV->Prop)):=[(9,E3),(4,As)]
noncomputable def QP:List (TypeId × (AH->List AV->Prop)):=[(9,E3),(3,iL .i64)]
noncomputable def QO:List (TypeId × (AH->List AV->Prop)):=[(3,iL .i64),(3,iL .i64),(3,iL .i64),(3,iL .i64),(3,iL .i64),(21,iL .i32),(3,iL .i64),(3,iL .i64)]
noncomputable def vN:List (TypeId × (AH->List AV->Prop)):=[(9,E3),(62,QSl aa 74 (QL By)),(63,QSl aa 77 (QL QP)),(3,iL .i64),(64,QSl aa 80 (QL QO))]
noncomputable def qh:List (TypeId × (AH->List AV->Prop)):=[(3,iL .i64),(3,iL .i64),(3,iL .i64),(3,iL .i64),(3,iL .i64),(3,iL .i64),(3,iL .i64),(32,QSl aa 21 (iL .i32)),(21,iL .i32)]
noncomputable def Du:List (TypeId × (AH->List AV->Prop)):=[(3,iL .i64),(4,As),(3,iL .i64),(3,iL .i64),(3,iL .i64),(3,iL .i64),(3,iL .i64)]
noncomputable def GM:List (TypeId × (AH->List AV->Prop)):=[(22,QSl aa 66 (QL vN)),(24,QSl aa 32 (QSl aa 21 (iL .i32))),(25,QSl aa 31 (QSl aa 34 (QL qh))),(27,QL Du)]
theorem PA:gZ enc aa 74 (QL By)/\gL (QL By):=my (by kernel_rfl) (by simp [By]) (by kernel_rfl) (all_cons Kh (all_cons Kj all_nil))
theorem WH:gZ enc aa 77 (QL QP)/\gL (QL QP):=my (by kernel_rfl) (by simp [QP]) (by kernel_rfl) (all_cons Kh (all_cons jq all_nil))
theorem WG:gZ enc aa 80 (QL QO)/\gL (QL QO):=my (by kernel_rfl) (by simp [QO]) (by kernel_rfl) (all_cons jq (all_cons jq (all_cons jq (all_cons jq (all_cons jq (all_cons Ki (all_cons jq (all_cons jq all_nil))))))))
theorem T4:gZ enc aa 66 (QL vN)/\gL (QL vN):=my (by kernel_rfl) (by simp [vN]) (by kernel_rfl) (all_cons Kh (all_cons (m6 (by kernel_rfl) (of_decide_eq_true (by kernel_rfl)) PA) (all_cons (m6 (by kernel_rfl) (of_decide_eq_true (by kernel_rfl)) WH) (all_cons jq (all_cons (m6 (by kernel_rfl) (of_decide_eq_true (by kernel_rfl)) WG) all_nil)))))
theorem Kk:gZ enc aa 32 (QSl aa 21 (iL .i32))/\gL (QSl aa 21 (iL .i32)):=m6 (by kernel_rfl) (of_decide_eq_true (by kernel_rfl)) Ki
theorem TY:gZ enc aa 34 (QL qh)/\gL (QL qh):=my (by kernel_rfl) (by simp [qh]) (by kernel_rfl) (all_cons jq (all_cons jq (all_cons jq (all_cons jq (all_cons jq (all_cons jq (all_cons jq (all_cons Kk (all_cons Ki all_nil)))))))))
theorem TZ:gZ enc aa 27 (QL Du)/\gL (QL Du):=my (by kernel_rfl) (by simp [Du]) (by kernel_rfl) (all_cons jq (all_cons Kj (all_cons jq (all_cons jq (all_cons jq (all_cons jq (all_cons jq all_nil)))))))
theorem PC:gZ enc aa 22 (QSl aa 66 (QL vN))/\gL (QSl aa 66 (QL vN)):=m6 (by kernel_rfl) (of_decide_eq_true (by kernel_rfl)) T4
theorem WE:gZ enc aa 24 (QSl aa 32 (QSl aa 21 (iL .i32)))/\gL (QSl aa 32 (QSl aa 21 (iL .i32))):=m6 (by kernel_rfl) (of_decide_eq_true (by kernel_rfl)) Kk
theorem PB:gZ enc aa 31 (QSl aa 34 (QL qh))/\gL (QSl aa 34 (QL qh)):=m6 (by kernel_rfl) (of_decide_eq_true (by kernel_rfl)) TY
theorem TW:gZ enc aa 25 (QSl aa 31 (QSl aa 34 (QL qh)))/\gL (QSl aa 31 (QSl aa 34 (QL qh))):=m6 (by kernel_rfl) (of_decide_eq_true (by kernel_rfl)) PB
theorem TX:gZ enc aa 29 (QL GM)/\gL (QL GM):=my (by kernel_rfl) (by simp [GM]) (by kernel_rfl) (all_cons PC (all_cons WE (all_cons TW (all_cons TZ all_nil))))
end
theorem U4:aa.cellsOf 21=1:=by kernel_rfl
theorem Zi:aa.cellsOf 32=1:=by kernel_rfl
theorem Zj:aa.cellsOf 31=1:=by kernel_rfl
theorem M0:aa.cellsOf 74=2:=by kernel_rfl
theorem U5:aa.cellsOf 77=2:=by kernel_rfl
theorem U3:aa.cellsOf 80=8:=by kernel_rfl
theorem Qt:aa.cellsOf 66=5:=by kernel_rfl
theorem Qs:aa.cellsOf 34=9:=by kernel_rfl
theorem Fg {G:AH} {avs:List AV} (h:QSl aa 21 (iL .i32) G avs):∃ (v:AV) (xs:List Int),avs=[v]/\SlS 32 1 G v (xs.map dw)/\xs.length < 2 ^ 50/\∀ a∈xs,e9 a:=by
 obtain ⟨v,rows,rfl,hs,hr,hn⟩:=h
 rw [U4] at hs hr
 obtain ⟨l,rfl,hl⟩:=pick (f:=dw) (R:=e9) rows fun r h=>by
   obtain ⟨_,n,rfl,hw⟩:=hr r h
   exact ⟨n,rfl,wf_i32 hw⟩
 exact ⟨v,l,rfl,hs.sls zU (fun r h=>(hr r h).1),by
   have:=mY (of_decide_eq_true (by kernel_rfl)) hn
   simpa using this,hl⟩
theorem Tm {G:AH} {avs:List AV} (h:QSl aa 32 (QSl aa 21 (iL .i32)) G avs):∃ v m,avs=[v]/\dZ G m v:=by
 obtain ⟨v,rows,rfl,hs,hr,hn⟩:=h
 rw [Zi] at hs hr
 obtain ⟨l,rfl,hl⟩:=pick (f:=fun p:List Int × AV=>[p.2]) (R:=fun p=>SlS 32 1 G p.2 (p.1.map dw)/\p.1.length < 2 ^ 50/\∀ a∈p.1,e9 a) rows fun r h=>by
   obtain ⟨w,xs,rfl,h1,h2,h3⟩:=Fg (hr r h).2
   exact ⟨(xs,w),rfl,h1,h2,h3⟩
 refine ⟨v,l.map (·.1),rfl,⟨l,rfl,hs.sls FO (fun r h=>(hr r h).1),fun p hp=>(hl p hp).1⟩,?_,fun b hb=>?_,fun b hb=>?_⟩
 · have:=mY (of_decide_eq_true (by kernel_rfl)) hn
   simpa using this
 · obtain ⟨p,hp,rfl⟩:=bL.1 hb
   exact (hl p hp).2.1
 · obtain ⟨p,hp,rfl⟩:=bL.1 hb
   exact (hl p hp).2.2
theorem OA {G:AH} {avs:List AV} (h:QL qh G avs):∃ x va,avs=aL x va/\SlS 32 1 G va (x.args.map dw)/\x.args.length < 2 ^ 50/\(∀ a∈x.args,e9 a)/\e9 x.word:=by
 obtain ⟨_,_,rfl,⟨n0,rfl,_⟩,_,_,rfl,⟨n1,rfl,_⟩,_,_,rfl,⟨n2,rfl,_⟩,_,_,rfl,⟨n3,rfl,_⟩,_,_,rfl,⟨n4,rfl,_⟩,_,_,rfl,⟨n5,rfl,_⟩,_,_,rfl,⟨n6,rfl,_⟩,_,_,rfl,ha,_,_,rfl,⟨n8,rfl,w8⟩,rfl⟩:=h
 obtain ⟨va,xs,rfl,h1,h2,h3⟩:=Fg ha
 exact ⟨⟨n0,n1,n2,n3,n4,n5,n6,xs,n8⟩,va,rfl,h1,h2,h3,wf_i32 w8⟩
theorem IS {G:AH} {avs:List AV} (h:QSl aa 34 (QL qh) G avs):∃ v xs,avs=[v]/\dY G xs v:=by
 obtain ⟨v,rows,rfl,hs,hr,hn⟩:=h
 rw [Qs] at hs hr
 obtain ⟨l,rfl,hl⟩:=pick (f:=fun p:Itm × AV=>aL p.1 p.2) (R:=fun p=>SlS 32 1 G p.2 (p.1.args.map dw)/\p.1.args.length < 2 ^ 50/\(∀ a∈p.1.args,e9 a)/\e9 p.1.word) rows fun r h=>by
   obtain ⟨x,va,rfl,h1⟩:=OA (hr r h).2
   exact ⟨(x,va),rfl,h1⟩
 refine ⟨v,l.map (·.1),rfl,⟨l,rfl,hs.sls mJ (fun r h=>(hr r h).1),fun p hp=>(hl p hp).1⟩,?_,fun b hb=>?_,fun b hb=>?_,fun b hb=>?_⟩
 · have:=mY (of_decide_eq_true (by kernel_rfl)) hn
   simpa using this
 · obtain ⟨p,hp,rfl⟩:=bL.1 hb
   exact (hl p hp).2.1
 · obtain ⟨p,hp,rfl⟩:=bL.1 hb
   exact (hl p hp).2.2.1
 · obtain ⟨p,hp,rfl⟩:=bL.1 hb
   exact (hl p hp).2.2.2
theorem N6 {G:AH} {avs:List AV} (h:QSl aa 31 (QSl aa 34 (QL qh)) G avs):∃ v ss,avs=[v]/\dy G ss v:=by
 obtain ⟨v,rows,rfl,hs,hr,hn⟩:=h
 rw [Zj] at hs hr
 obtain ⟨l,rfl,hl⟩:=pick (f:=fun p:List Itm × AV=>[p.2]) (R:=fun p=>dY G p.1 p.2) rows fun r h=>by
   obtain ⟨w,xs,rfl,h1⟩:=IS (hr r h).2
   exact ⟨(xs,w),rfl,h1⟩
 refine ⟨v,l.map (·.1),rfl,⟨l,rfl,hs.sls FN (fun r h=>(hr r h).1),hl⟩,?_⟩
 have:=mY (of_decide_eq_true (by kernel_rfl)) hn
 simpa using this
theorem IM {s:ByteArray} (h:s.size<=reachBytes):s.size < 2 ^ 60:=by have:=reachBytes_lt; omega
theorem OC {G:AH} {avs:List AV} (h:QL vN G avs):∃ c vp vs vi,avs=bI c vp vs vi/\eO G c vp vs vi:=by
 obtain ⟨_,_,rfl,⟨nm,rfl,hnm⟩,_,_,rfl,⟨vp,rp,rfl,hp,hpr,hpn⟩,_,_,rfl,⟨vs,rs,rfl,hs,hsr,hsn⟩,_,_,rfl,⟨lo,rfl,_⟩,_,_,rfl,⟨vi,ri,rfl,hi,hir,hin⟩,rfl⟩:=h
 rw [M0] at hp hpr
 rw [U5] at hs hsr
 rw [U3] at hi hir
 obtain ⟨ps,rfl,hps⟩:=pick (f:=ja) (R:=fun p=>p.name.size < 2 ^ 60) rp fun r h=>by
   obtain ⟨_,_,_,rfl,⟨s,rfl,h1⟩,_,_,rfl,⟨b,rfl⟩,rfl⟩:=hpr r h
   exact ⟨⟨s,b⟩,rfl,IM h1⟩
 obtain ⟨ars,rfl,has⟩:=pick (f:=kg) (R:=fun p=>p.name.size < 2 ^ 60) rs fun r h=>by
   obtain ⟨_,_,_,rfl,⟨s,rfl,h1⟩,_,_,rfl,⟨b,rfl,_⟩,rfl⟩:=hsr r h
   exact ⟨⟨s,b⟩,rfl,IM h1⟩
 obtain ⟨iis,rfl,his⟩:=pick (f:=eK) (R:=fun x=>e9 x.imm) ri fun r h=>by
   obtain ⟨_,_,_,rfl,⟨n0,rfl,_⟩,_,_,rfl,⟨n1,rfl,_⟩,_,_,rfl,⟨n2,rfl,_⟩,_,_,rfl,⟨n3,rfl,_⟩,_,_,rfl,⟨n4,rfl,_⟩,_,_,rfl,⟨n5,rfl,w5⟩,_,_,rfl,⟨n6,rfl,_⟩,_,_,rfl,⟨n7,rfl,_⟩,rfl⟩:=hir r h
   exact ⟨⟨n0,n1,n2,n3,n4,n5,n6,n7⟩,rfl,wf_i32 w5⟩
 exact ⟨⟨nm,ps,ars,lo,iis⟩,vp,vs,vi,rfl,hp.sls Sb (fun r h=>(hpr r h).1),hs.sls Sa (fun r h=>(hsr r h).1),hi.sls R9 (fun r h=>(hir r h).1),by
   have:=mY (of_decide_eq_true (by kernel_rfl)) hpn
   simpa using this,by
   have:=mY (of_decide_eq_true (by kernel_rfl)) hsn
   simpa using this,by
   have:=mY (of_decide_eq_true (by kernel_rfl)) hin
   simpa using this,IM hnm,hps,has,his⟩
theorem IT {G:AH} {avs:List AV} (h:QSl aa 66 (QL vN) G avs):∃ v cs,avs=[v]/\dk G cs v:=by
 obtain ⟨v,rows,rfl,hs,hr,hn⟩:=h
 rw [Qt] at hs hr
 obtain ⟨l,rfl,hl⟩:=pick (f:=fun p:Cod × AV × AV × AV=>bI p.1 p.2.1 p.2.2.1 p.2.2.2) (R:=fun p=>eO G p.1 p.2.1 p.2.2.1 p.2.2.2) rows fun r h=>by
   obtain ⟨c,vp,vs,vi,rfl,h1⟩:=OC (hr r h).2
   exact ⟨(c,vp,vs,vi),rfl,h1⟩
 refine ⟨v,l.map (·.1),rfl,⟨l,rfl,hs.sls zV (fun r h=>(hr r h).1),hl⟩,?_⟩
 have:=mY (of_decide_eq_true (by kernel_rfl)) hn
 simpa using this
theorem OB {G:AH} {avs:List AV} (h:QL Du G avs):∃ f,avs=fg f:=by
 obtain ⟨_,_,rfl,⟨n0,rfl,_⟩,_,_,rfl,⟨b,rfl⟩,_,_,rfl,⟨n2,rfl,_⟩,_,_,rfl,⟨n3,rfl,_⟩,_,_,rfl,⟨n4,rfl,_⟩,_,_,rfl,⟨n5,rfl,_⟩,_,_,rfl,⟨n6,rfl,_⟩,rfl⟩:=h
 exact ⟨⟨n0,b,n2,n3,n4,n5,n6⟩,rfl⟩
theorem Oz {G:AH} {avs:List AV} (h:QL GM G avs):∃ vc vm vs f cs m ss,avs=[vc,vm,vs]++fg f/\dk G cs vc/\dZ G m vm/\dy G ss vs:=by
 obtain ⟨_,_,rfl,hc,_,_,rfl,hm,_,_,rfl,hs,_,_,rfl,hf,rfl⟩:=h
 obtain ⟨vc,cs,rfl,h1⟩:=IT hc
 obtain ⟨vm,m,rfl,h2⟩:=Tm hm
 obtain ⟨vs,ss,rfl,h3⟩:=N6 hs
 obtain ⟨f,rfl⟩:=OB hf
 exact ⟨vc,vm,vs,f,cs,m,ss,by simp,h1,h2,h3⟩
end Go.Dv
namespace Go.Dv
open Go.Proofs Go.Proofs.YtilpjnckfkjkbaaGreatDoor
theorem Tg:(Rows.laid_strings_asciiSpace:DataW Unit)=Lib.tabData .u8 Lib.asciiSpaceTab:=by kernel_rfl
theorem TN {W:World} (h:laidMetH aa [("unicode.White_Space",Rows.laid_unicode_White_Space),("strings.asciiSpace",Rows.laid_strings_asciiSpace)] W):oe 0 eA W (fun b=>b < W.heap.size):=by
 rw [MakeChecks.laidMetH_plain _ _ _ (by kernel_rfl)] at h
 have h2:=h.tail
 rw [Tg] at h2
 have ht:Lib.TabIs aa W "strings.asciiSpace" .u8 Lib.asciiSpaceTab:=Lib.tabIs_of_head (g:=0) (t:=309) (e:=5) (n:=256) (by kernel_rfl) (by kernel_rfl) (by kernel_rfl) (by kernel_rfl) (by kernel_rfl) (by kernel_rfl) h2
 have hc:∀ i,i < Lib.asciiSpaceTab.length->W.cell? ⟨0,i,none⟩=some (.int .u8 (Lib.asciiSpaceTab.getD i 0)):=fun i hi=>ht.cell (by kernel_rfl) i hi
 refine ⟨(Ah (hc 0 (by decide))).2,fun j v hj=>?_⟩
 unfold eA at hj
 rw [aM,ah] at hj
 obtain ⟨n,hn,rfl⟩:=hj
 have hl:=aJ hn
 refine ⟨_,hc j hl,?_⟩
 rw [gde,hn]; rfl
theorem DK {H:Type} {P:Program} {ts:List TypeId} {ds:List (DataW H)} (h:(DataW.weightsEach P ts ds).all (·<=reachBytes)=true) {j:Nat} {t:TypeId} {d:DataW H} (ht:ts[j]? =some t) (hd:ds[j]? =some d):∀ z∈d.weights P t,z<=reachBytes:=fun z hz=>by
 have:=List.all_eq_true.1 h z (DataW.weights_mem_each ht hd z hz)
 simpa using this
theorem Ht {H:Type} {enc:TypeId × Value->H} {W:World} {us:Array Value} {d:DataW H} {p:List MemPlace} (hk:0 < W.heap.size) (h:DataW.Trod enc aa W 0 (fun _=>true) true 29 (.agg us) d p) (hz:∀ z∈d.weights aa 29,z<=reachBytes) :
   ∃ φ G vc vm vs f cs m ss,RdW W φ G/\VR φ (.agg ([vc,vm,vs]++fg f)) (.agg us)/\dk G cs vc/\dZ G m vm/\dy G ss vs:=by
 obtain ⟨fuel,hf⟩:=h
 obtain ⟨φ,L,avs,h1,h2,h3,h4⟩:=TX.1 W 0 true fuel _ _ hf hz hk _ [] (RdW.nil W)
 obtain ⟨vc,vm,vs,f,cs,m,ss,rfl,hc,hm,hs⟩:=Oz h4
 exact ⟨φ,[]++L,vc,vm,vs,f,cs,m,ss,h1,⟨us,rfl,h3⟩,hc,hm,hs⟩
end Go.Dv
