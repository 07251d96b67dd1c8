/- Part 35 of the walks (own work). -/
import Derived.Test.YtilpjnckfkjkbaaGreatDoorZ33
import Derived.WalkKit
import Derived.ProofKit
import Derived.OpenShut
import Derived.SizedLaws
import Derived.Test.YtilpjnckfkjkbaaGreatDoorRows
import Derived.Lib.LaidTab
import Derived.Stop.LaidErr
import Derived.MakeChecks
import Derived.WideShapes
import Derived.RowKit
set_option maxRecDepth 100000
set_option maxHeartbeats 4000000
set_option linter.unusedSimpArgs false
set_option linter.unusedVariables false
namespace Go.Dv
theorem Env.le.trans' {φ ψ χ:Env} (h:φ.le ψ) (k:ψ.le χ):φ.le χ:=Env.le_trans h k
structure RdW (w:World) (φ:Env) (G:AH):Prop where
 wr:WR w (fun b=>b < w.heap.size) φ G w
 arg:∀ (i:Nat) (o:AObj),G[i]? =some o->∃ cs,o=AObj.arg cs
theorem RdW.nil (w:World):RdW w (fun _=>none) []:=⟨WR.start w,fun i o h=>by simp at h⟩
theorem RdW.push {w:World} {φ:Env} {G:AH} (h:RdW w φ G) {b off z:Nat} {cs:List AV} (hb:b < w.heap.size)
   (hc:∀ j v,cs[j]? =some v->∃ u,w.cell? ⟨b,off+j,none⟩=some u/\VR φ v u):φ.le (φ.set G.length (b,off,z))/\RdW w (φ.set G.length (b,off,z)) (G++[.arg cs]):=by
 have hle:=Env.le_set (b,off,z) (h.wr.dom G.length (Nat.le_refl _))
 have hA:∀ (i:Nat) (o:AObj),(G++[AObj.arg cs])[i]? =some o->(∃ cs,o=AObj.arg cs)/\((i < G.length/\G[i]? =some o)∨i=G.length/\o=.arg cs):=by
   intro i o hi
   rcases Nat.lt_or_ge i G.length with hl | hl
   · rw [List.getElem?_append_left hl] at hi
     exact ⟨h.arg i o hi,.inl ⟨hl,hi⟩⟩
   · rw [List.getElem?_append_right hl] at hi
     cases hn:i - G.length with
     | zero =>
       rw [hn] at hi
       simp at hi
       exact ⟨⟨cs,hi.symm⟩,.inr ⟨by omega,hi.symm⟩⟩
     | succ n=>rw [hn] at hi; simp at hi
 have hno:∀ i,¬ Owned (G++[AObj.arg cs]) i:=by
   rintro i ⟨o,hi,hw⟩
   obtain ⟨⟨c,rfl⟩,_⟩:=hA i o hi
   cases hw
 refine ⟨hle,⟨⟨fun i hi=>?_,fun i hi=>?_,fun i x hx=>?_,fun i j x y hi=>absurd hi (hno i),fun i x hi=>absurd hi (hno i),fun i x c hi hx=>?_,fun i o hi=>?_,fun _ h=>h,Nat.le_refl _,rfl,rfl,rfl,fun _ _=>rfl⟩,fun i o hi=>(hA i o hi).1⟩⟩
 · simp at hi
   rw [Env.set_ne _ _ (by omega)]
   exact h.wr.dom i (by omega)
 · obtain ⟨⟨c,hc⟩,_⟩:=hA i _ hi
   cases hc
 · by_cases e:i=G.length
   · subst e; rw [Env.set_self] at hx; cases hx; exact hb
   · rw [Env.set_ne _ _ e] at hx; exact h.wr.lt i x hx
 · by_cases e:i=G.length
   · subst e; rw [Env.set_self] at hx; cases hx; exact hb
   · rw [Env.set_ne _ _ e] at hx; exact h.wr.lt i x hx
 · rcases (hA i o hi).2 with ⟨_,hg⟩ | ⟨rfl,rfl⟩
   · exact (h.wr.obj i o hg).keep hle fun _ _=>rfl
   · exact ⟨b,off,z,Env.set_self _ _ _,fun j v hj=>(hc j v hj).imp fun u hu=>⟨hu.1,hu.2.mono hle⟩⟩
def Opens {H:Type} (enc:TypeId × Value->H) (P:Program) (t:TypeId) (Q:AH->List AV->Prop):Prop:=
 ∀ (w:World) (base:Nat) (held:Bool) (fuel:Nat) (cs:List Value) (x:DataW H × List MemPlace),DataW.trod enc P w base (fun _=>true) held fuel t cs=some x->(∀ z∈x.1.weights P t,z<=reachBytes)->0 < w.heap.size ->
   ∀ φ G,RdW w φ G->∃ φ' L avs,RdW w φ' (G++L)/\φ.le φ'/\VRs φ' avs cs/\Q (G++L) avs
def MonoQ (Q:AH->List AV->Prop):Prop:=∀ G L avs,Q G avs->Q (G++L) avs
section
variable {H:Type} {enc:TypeId × Value->H} {P:Program} {t:TypeId}
def QInt (k:IntKind):AH->List AV->Prop:=fun _ avs=>∃ n,avs=[.int k n]/\(Lit.int k n).wf=true
def QBool:AH->List AV->Prop:=fun _ avs=>∃ b,avs=[.bool b]
def QStr:AH->List AV->Prop:=fun _ avs=>∃ s:ByteArray,avs=[.str s]/\s.size<=reachBytes
theorem mono_int (k:IntKind):MonoQ (QInt k):=fun _ _ _ h=>h
theorem mono_bool:MonoQ QBool:=fun _ _ _ h=>h
theorem mono_str:MonoQ QStr:=fun _ _ _ h=>h
theorem opens_int {k:IntKind} (ht:P.underlying t=some (.int k)):Opens enc P t (QInt k):=by
 intro w base held fuel cs x h _ _ φ G hG
 obtain ⟨n,rfl,_,hw⟩:=DataW.trod_int ht h
 exact ⟨φ,[],[.int k n],by rw [List.append_nil]; exact hG,Env.le_refl φ,VRs.one rfl,n,rfl,hw⟩
theorem opens_bool (ht:P.underlying t=some .bool):Opens enc P t QBool:=by
 intro w base held fuel cs x h _ _ φ G hG
 obtain ⟨n,rfl,_⟩:=DataW.trod_bool ht h
 exact ⟨φ,[],[.bool n],by rw [List.append_nil]; exact hG,Env.le_refl φ,VRs.one rfl,n,rfl⟩
theorem opens_str (ht:P.underlying t=some .string):Opens enc P t QStr:=by
 intro w base held fuel cs x h hz _ φ G hG
 obtain ⟨s,rfl,rfl,_⟩:=DataW.trod_string ht h
 exact ⟨φ,[],[.str s],by rw [List.append_nil]; exact hG,Env.le_refl φ,VRs.one rfl,s,rfl,by
   have:=hz s.data.toList.length (by simp [DataW.weights])
   rw [Array.length_toList] at this
   exact this⟩
def SlA (G:AH) (es:Nat) (v:AV) (rows:List (List AV)):Prop:=(v=.nilSlice/\rows=[])∨∃ i c,v=.slice i 0 es rows.length c true/\G[i]? =some (.arg rows.flatten)
def QSl (P:Program) (e:TypeId) (Q:AH->List AV->Prop):AH->List AV->Prop:=fun G avs=>∃ v rows,avs=[v]/\SlA G (P.cellsOf e) v rows/\(∀ r∈rows,r.length=P.cellsOf e/\Q G r)/\rows.length * P.bytesOf e<=reachBytes
theorem SlA.mono {G:AH} {es:Nat} {v:AV} {rows:List (List AV)} (h:SlA G es v rows) (L:AH):SlA (G++L) es v rows:=h.imp id fun ⟨i,c,e,hi⟩=>⟨i,c,e,by
 rw [List.getElem?_append_left]; exact hi
 rcases Nat.lt_or_ge i G.length with hl | hl
 · exact hl
 · rw [List.getElem?_eq_none hl] at hi; cases hi⟩
theorem mono_sl {e:TypeId} {Q:AH->List AV->Prop} (hQ:MonoQ Q):MonoQ (QSl P e Q):=fun G L avs ⟨v,rows,h1,h2,h3,h4⟩=>⟨v,rows,h1,h2.mono L,fun r hr=>⟨(h3 r hr).1,hQ G L r (h3 r hr).2⟩,h4⟩
theorem flat_get {es:Nat} (hes:0 < es):∀ (rows:List (List AV)),(∀ r∈rows,r.length=es)->∀ (n:Nat) (v:AV),rows.flatten[n]? =some v->∃ r,rows[n / es]? =some r/\r[n % es]? =some v
 | [],_,n,v,h=>by simp at h
 | r::rows,hr,n,v,h=>by
   have h0:=hr r List.mem_cons_self
   rw [List.flatten_cons] at h
   rcases Nat.lt_or_ge n es with hl | hl
   · rw [List.getElem?_append_left (by omega)] at h
     exact ⟨r,by rw [Nat.div_eq_of_lt hl]; rfl,by rw [Nat.mod_eq_of_lt hl]; exact h⟩
   · rw [List.getElem?_append_right (by omega),h0] at h
     obtain ⟨q,h1,h2⟩:=flat_get hes rows (fun q hq=>hr q (List.mem_cons_of_mem _ hq)) (n - es) v h
     obtain ⟨m,rfl⟩:=Nat.exists_eq_add_of_le hl
     rw [Nat.add_sub_cancel_left] at h1 h2
     rw [Nat.add_comm es m,Nat.add_div_right m hes,Nat.add_mod_right]
     exact ⟨q,by simpa using h1,h2⟩
theorem cells_get {w:World} {base:Nat} {a:Addr} {n:Nat} {cs:List Value} (h:w.cells? base a n=some cs):cs.length=n/\∀ i,i < n->w.cell? (a.add i)=cs[i]?:=by
 unfold World.cells? at h
 split at h
 · exact ⟨by simpa using mapM_some_length h,fun i hi=>mapM_some_get h i i (by simp [hi])⟩
 · cases h
theorem cell_spot {w:World} {a:Addr} {v:Value} (h:w.cell? a=some v):a.spot=none/\a.block < w.heap.size:=by
 unfold World.cell? at h
 split at h
 · rename_i c e f hb
   split at h
   · cases h
   · rename_i hs
     exact ⟨by simpa using hs,(Array.getElem?_eq_some_iff.1 hb).1⟩
 · cases h
theorem add_add (a:Addr) (n m:Nat):(a.add n).add m=a.add (n+m):=by
 unfold Addr.add
 by_cases hn:n=0
 · subst hn; simp
 · by_cases hm:m=0
   · subst hm; simp
   · rw [if_neg hn,if_neg hm,if_neg (by omega)]
     simp [Nat.add_assoc]
theorem weightsAll_mem {e:TypeId}:∀ (l:List (DataW H)) (i:Nat) (d:DataW H),l[i]? =some d->∀ z∈d.weights P e,z∈DataW.weightsAll P e l
 | [],i,d,h=>by simp at h
 | x::l,0,d,h=>fun z hz=>by simp at h; subst h; simp only [DataW.weightsAll,List.mem_append]; exact .inl hz
 | x::l,i+1,d,h=>fun z hz=>by simp only [DataW.weightsAll,List.mem_append]; exact .inr (weightsAll_mem l i d (by simpa using h) z hz)
theorem opens_slice {e:TypeId} {Q:AH->List AV->Prop} (ht:P.underlying t=some (.slice e)) (he0:0 < P.cellsOf e) (hm:MonoQ Q) (hQ:Opens enc P e Q):Opens enc P t (QSl P e Q):=by
 intro w base held fuel cs x h hz hw φ G hG
 rcases DataW.trod_slice ht h with ⟨rfl,_⟩ | ⟨a,len,cap,elems,rest,n,_,rfl,rfl,_,hl,_,hel,he,hr,_⟩
 · exact ⟨φ,[],[.nilSlice],by rw [List.append_nil]; exact hG,Env.le_refl φ,VRs.one rfl,.nilSlice,[],rfl,.inl ⟨rfl,rfl⟩,fun r hr=>by simp at hr,by simp⟩
 obtain ⟨hrl,hr⟩:=hr rfl
 generalize hes:P.cellsOf e=es at *
 have hwt:DataW.weights P t (.slice (elems.map (·.1)) (rest.map (·.1)))=((elems.map (·.1)).length+(rest.map (·.1)).length) * P.bytesOf e::(DataW.weightsAll P e (elems.map (·.1))++DataW.weightsAll P e (rest.map (·.1))):=by simp only [DataW.weights,ht]
 rw [hwt] at hz
 have hsz:len * P.bytesOf e<=reachBytes:=by
   have:=hz _ List.mem_cons_self
   simp only [List.length_map,hel] at this
   exact Nat.le_trans (Nat.mul_le_mul_right _ (by omega)) this
 have hone:∀ i,i < cap->∃ c,w.cells? base (a.add (i * es)) es=some c:=by
   intro i hi
   have:∃ y,(w.cells? base (a.add (i * es)) es).bind (DataW.trod enc P w base (fun _=>true) held n e)=some y:=by
     rcases Nat.lt_or_ge i len with hil | hil
     · rw [he i hil]; exact ⟨_,List.getElem?_eq_getElem (by omega)⟩
     · have:=hr (i - len) (by omega)
       rw [show len+(i - len)=i by omega] at this
       rw [this]; exact ⟨_,List.getElem?_eq_getElem (by omega)⟩
   obtain ⟨y,hy⟩:=this
   obtain ⟨c,hc,_⟩:=Option.bind_eq_some_iff.1 hy
   exact ⟨c,hc⟩
 have rows:∀ m,m<=len->∃ (φ':Env) (L:AH) (rows:List (List AV)),RdW w φ' (G++L)/\φ.le φ'/\rows.length=m/\(∀ r∈rows,r.length=es/\Q (G++L) r)/\∀ (j:Nat) (r:List AV),rows[j]? =some r->∀ (i:Nat) (v:AV),r[i]? =some v->∃ u,w.cell? (a.add (j * es+i))=some u/\VR φ' v u:=by
   intro m
   induction m with
   | zero=>exact fun _=>⟨φ,[],[],by rw [List.append_nil]; exact hG,Env.le_refl φ,rfl,fun r hr=>by simp at hr,fun j r hr=>by simp at hr⟩
   | succ m ih =>
     intro hm1
     obtain ⟨φ1,L1,rows,h1,h2,h3,h4,h5⟩:=ih (by omega)
     have hy:=he m (by omega)
     rw [List.getElem?_eq_getElem (by omega:m < elems.length)] at hy
     obtain ⟨c,hc,hy⟩:=Option.bind_eq_some_iff.1 hy
     obtain ⟨φ2,L2,avs,k1,k2,k3,k4⟩:=hQ w base held n c _ hy (fun z hz'=>hz z (List.mem_cons_of_mem _ (List.mem_append.2 (.inl (weightsAll_mem _ m _ (by rw [List.getElem?_map,List.getElem?_eq_getElem (by omega:m < elems.length)]; rfl) z hz'))))) hw φ1 (G++L1) h1
     obtain ⟨hcl,hcg⟩:=cells_get hc
     have hal:avs.length=es:=by rw [<-hcl]; exact k3.length
     refine ⟨φ2,L1++L2,rows++[avs],by rw [<-List.append_assoc]; exact k1,h2.trans' k2,by simp [h3],fun r hr=>?_,fun j r hj i v hv=>?_⟩
     · rw [<-List.append_assoc]
       rcases List.mem_append.1 hr with hr | hr
       · exact ⟨(h4 r hr).1,hm _ _ _ (h4 r hr).2⟩
       · simp at hr; subst hr; exact ⟨hal,k4⟩
     · rcases Nat.lt_or_ge j rows.length with hl' | hl'
       · rw [List.getElem?_append_left hl'] at hj
         obtain ⟨u,hu,r'⟩:=h5 j r hj i v hv
         exact ⟨u,hu,r'.mono k2⟩
       · rw [List.getElem?_append_right hl'] at hj
         cases hjn:j - rows.length with
         | succ q=>rw [hjn] at hj; simp at hj
         | zero =>
           rw [hjn] at hj
           simp at hj
           subst hj
           obtain rfl:j=m:=by omega
           have hi:i < es:=by have:=lt_of_get hv; omega
           obtain ⟨u,hu,r'⟩:=k3.get i v hv
           exact ⟨u,by rw [<-add_add,hcg i hi]; exact hu,r'⟩
 obtain ⟨φ1,L1,rs,h1,h2,h3,h4,h5⟩:=rows len (Nat.le_refl _)
 subst h3
 rcases Nat.eq_zero_or_pos cap with h0 | hpos
 · subst h0
   obtain rfl:rs=[]:=List.length_eq_zero_iff.1 (by omega)
   obtain ⟨k1,k2⟩:=h1.push (b:=0) (off:=0) (z:=0) (cs:=[]) hw (fun j v hj=>by simp at hj)
   refine ⟨_,L1++[.arg []],[.slice (G++L1).length 0 es 0 0 true],by rw [<-List.append_assoc]; exact k2,h2.trans' k1,VRs.one ⟨a,0,rfl,Nat.le_refl _,⟨Nat.le_refl _,fun _=>rfl⟩,.inl rfl⟩,_,[],rfl,.inr ⟨_,0,by rw [hes]; rfl,?_⟩,fun r hr=>by simp at hr,by simp⟩
   rw [<-List.append_assoc]; simp
 · obtain ⟨c0,hc0⟩:=hone 0 hpos
   obtain ⟨hl0,hg0⟩:=cells_get hc0
   have hsp:=cell_spot (v:=c0[0]'(by omega)) (by
     have:=hg0 0 he0
     rw [Nat.zero_mul,add_add] at this
     rw [this]; exact List.getElem?_eq_getElem (by omega))
   have ha0:a.add (0+0)=a:=by simp [Addr.add]
   rw [ha0] at hsp
   have hxa:∀ n,a.add n=⟨a.block,a.off+n,none⟩:=fun n=>by
     unfold Addr.add
     split
     · rename_i h; subst h
       obtain ⟨b,o,s⟩:=a
       simp at hsp ⊢; exact hsp.1
     · rfl
   obtain ⟨k1,k2⟩:=h1.push (b:=a.block) (off:=a.off) (z:=a.off+cap * es) (cs:=rs.flatten) hsp.2 (fun j v hj=>by
     obtain ⟨r,hr1,hr2⟩:=flat_get he0 rs (fun r hr=>(h4 r hr).1) j v hj
     obtain ⟨u,hu,r'⟩:=h5 _ r hr1 _ v hr2
     rw [hxa,show j / es * es+j % es=j by rw [Nat.mul_comm]; exact Nat.div_add_mod j es] at hu
     exact ⟨u,hu,r'⟩)
   refine ⟨_,L1++[.arg rs.flatten],[.slice (G++L1).length 0 es rs.length cap true],by rw [<-List.append_assoc]; exact k2,h2.trans' k1,VRs.one ⟨a,cap,rfl,hl,⟨Nat.le_refl _,fun _=>rfl⟩,.inr ⟨a.block,a.off,a.off+cap * es,Env.set_self _ _ _,?_,by omega⟩⟩,_,rs,rfl,.inr ⟨_,cap,by rw [hes],?_⟩,fun r hr=>?_,hsz⟩
   · have:=hxa 0
     rw [show a.add 0=a by simp [Addr.add]] at this
     exact this
   · rw [<-List.append_assoc]; simp
   · rw [<-List.append_assoc,hes]
     exact ⟨(h4 r hr).1,hm _ _ _ (h4 r hr).2⟩
def QL:List (TypeId × (AH->List AV->Prop))->AH->List AV->Prop
 | [],_,avs=>avs=[]
 | p::l,G,avs=>∃ a b,avs=a++b/\p.2 G a/\QL l G b
theorem mono_ql:∀ {l:List (TypeId × (AH->List AV->Prop))},(∀ p∈l,MonoQ p.2)->MonoQ (QL l)
 | [],_=>fun _ _ _ h=>h
 | p::l,h=>fun G L avs ⟨a,b,e,h1,h2⟩=>⟨a,b,e,h p List.mem_cons_self G L a h1,mono_ql (fun q hq=>h q (List.mem_cons_of_mem _ hq)) G L b h2⟩
def layoutOf (P:Program):Nat->List TypeId->List (TypeId × Nat)
 | _,[]=>[]
 | o,t::ts=>(t,o)::layoutOf P (o+P.cellsOf t) ts
def sizeOf' (P:Program):List TypeId->Nat
 | []=>0
 | t::ts=>P.cellsOf t+sizeOf' P ts
def fieldsOf:Option TypeDesc->List (TypeId × Nat)
 | some (.struct fs)=>fs.toList.map fun f=>(f.type,f.offset)
 | _=>[]
theorem opens_fields {w:World} {base n:Nat} {held:Bool} {cs:List Value} (hw:0 < w.heap.size):∀ (l:List (TypeId × (AH->List AV->Prop))) (o:Nat),(∀ p∈l,Opens enc P p.1 p.2/\MonoQ p.2)->cs.length=o+sizeOf' P (l.map (·.1)) ->
   (∀ (i:Nat) (u:TypeId) (off:Nat),(layoutOf P o (l.map (·.1)))[i]? =some (u,off)->∃ y:DataW H × List MemPlace,DataW.trod enc P w base (fun _=>true) held n u ((cs.drop off).take (P.cellsOf u))=some y/\∀ z∈y.1.weights P u,z<=reachBytes) ->
   ∀ φ G,RdW w φ G->∃ φ' L avs,RdW w φ' (G++L)/\φ.le φ'/\VRs φ' avs (cs.drop o)/\QL l (G++L) avs
 | [],o,_,hl,_,φ,G,hG=>⟨φ,[],[],by rw [List.append_nil]; exact hG,Env.le_refl φ,by
   simp [sizeOf'] at hl
   rw [List.drop_eq_nil_of_le (by omega)]; exact .nil _,rfl⟩
 | p::l,o,hp,hl,hf,φ,G,hG=>by
   simp only [List.map_cons,sizeOf'] at hl
   obtain ⟨y,hy,hz⟩:=hf 0 p.1 o rfl
   obtain ⟨φ1,L1,a1,h1,h2,h3,h4⟩:=(hp p List.mem_cons_self).1 w base held n _ y hy hz hw φ G hG
   obtain ⟨φ2,L2,a2,k1,k2,k3,k4⟩:=opens_fields hw l (o+P.cellsOf p.1) (fun q hq=>hp q (List.mem_cons_of_mem _ hq)) (by omega) (fun i u off hi=>hf (i+1) u off (by simpa [layoutOf] using hi)) φ1 (G++L1) h1
   refine ⟨φ2,L1++L2,a1++a2,by rw [<-List.append_assoc]; exact k1,h2.trans' k2,?_,a1,a2,rfl,?_,?_⟩
   · have e:cs.drop o=(cs.drop o).take (P.cellsOf p.1)++cs.drop (o+P.cellsOf p.1):=by rw [<-List.drop_drop,List.take_append_drop]
     rw [e]
     exact VRs.append (VRs.mono k2 _ _ h3) k3
   · rw [<-List.append_assoc]; exact (hp p List.mem_cons_self).2 _ _ _ h4
   · rw [<-List.append_assoc]; exact k4
theorem opens_struct {l:List (TypeId × (AH->List AV->Prop))} (hf:fieldsOf (P.underlying t)=layoutOf P 0 (l.map (·.1))) (hne:l≠[]) (hc:P.cellsOf t=sizeOf' P (l.map (·.1))) (hp:∀ p∈l,Opens enc P p.1 p.2/\MonoQ p.2):Opens enc P t (QL l):=by
 intro w base held fuel cs x h hz hw φ G hG
 unfold fieldsOf at hf
 split at hf
 · rename_i fs ht
   obtain ⟨xs,n,_,rfl,hl,hx,he⟩:=DataW.trod_struct ht h
   have hwt:DataW.weights P t (.agg (xs.map (·.1)))=DataW.weightsEach P (fs.toList.map (·.type)) (xs.map (·.1)):=by simp only [DataW.weights,ht]
   rw [hwt] at hz
   have:=opens_fields (enc:=enc) (base:=base) (n:=n) (held:=held) (cs:=cs) hw l 0 hp (by omega) (fun i u o hi=>by
     rw [<-hf,List.getElem?_map] at hi
     simp only [Option.map_eq_some_iff,Prod.mk.injEq] at hi
     obtain ⟨f,hfi,rfl,rfl⟩:=hi
     have hfi':fs[i]? =some f:=by simpa using hfi
     rw [he i f hfi']
     have hi2:i < xs.length:=by rw [hx]; exact (Array.getElem?_eq_some_iff.1 hfi').1
     refine ⟨_,List.getElem?_eq_getElem hi2,fun z hz'=>hz z ?_⟩
     exact DataW.weights_mem_each (j:=i) (by rw [List.getElem?_map,hfi]; rfl) (by rw [List.getElem?_map,List.getElem?_eq_getElem hi2]; rfl) z hz') φ G hG
   rw [List.drop_zero] at this
   exact this
 · exfalso
   cases l with
   | nil=>exact hne rfl
   | cons p l=>cases hf
end
end Go.Dv
namespace Go.Dv
open Go.Proofs
theorem pick {α:Type} {f:α->List AV} {R:α->Prop}:∀ (rows:List (List AV)),(∀ r∈rows,∃ a,r=f a/\R a)->∃ l:List α,rows=l.map f/\∀ a∈l,R a
 | [],_=>⟨[],rfl,fun a h=>by simp at h⟩
 | r::rows,h=>by
   obtain ⟨a,rfl,ha⟩:=h r List.mem_cons_self
   obtain ⟨l,rfl,hl⟩:=pick rows fun q hq=>h q (List.mem_cons_of_mem _ hq)
   exact ⟨a::l,rfl,fun b hb=>by
     rcases List.mem_cons.1 hb with rfl | hb
     · exact ha
     · exact hl b hb⟩
theorem SlA.sls {T es:Nat} (X:IxT T es) {G:AH} {v:AV} {rows:List (List AV)} (h:SlA G es v rows) (hr:∀ r∈rows,r.length=es):SlS T es G v rows:=by
 rcases h with ⟨rfl,rfl⟩ | ⟨i,c,rfl,hi⟩
 · exact sls_nil X G
 · refine sls_of X hr (by unfold okC; rw [hi]) ?_
   unfold rdCells
   rw [hi]
   simp only [flat_len hr,Nat.zero_add,Nat.le_refl,if_true,List.drop_zero]
   rw [List.take_of_length_le (by rw [flat_len hr]; exact Nat.le_refl _)]
theorem wf_i32 {n:Int} (h:(Lit.int .i32 n).wf=true):i32R n:=by
 have:=bounds_i32 h
 exact ⟨this.1,by omega⟩
theorem reach50 {n k:Nat} (hk:0 < k) (h:n * k<=reachBytes):n < 2 ^ 50:=by
 have:=reachBytes_lt
 have:n * 1<=n * k:=Nat.mul_le_mul_left n hk
 omega
section
variable {H:Type} {enc:TypeId × Value->H}
theorem und_int:Tryz.prog.underlying 3=some (.int .i64):=by kernel_rfl
theorem und_i32:Tryz.prog.underlying 21=some (.int .i32):=by kernel_rfl
theorem und_bool:Tryz.prog.underlying 4=some .bool:=by kernel_rfl
theorem und_str:Tryz.prog.underlying 9=some .string:=by kernel_rfl
theorem o_int:Opens enc Tryz.prog 3 (QInt .i64)/\MonoQ (QInt .i64):=⟨opens_int und_int,mono_int _⟩
theorem o_i32:Opens enc Tryz.prog 21 (QInt .i32)/\MonoQ (QInt .i32):=⟨opens_int und_i32,mono_int _⟩
theorem o_bool:Opens enc Tryz.prog 4 QBool/\MonoQ QBool:=⟨opens_bool und_bool,mono_bool⟩
theorem o_str:Opens enc Tryz.prog 9 QStr/\MonoQ QStr:=⟨opens_str und_str,mono_str⟩
theorem o_slice {t e:TypeId} {Q:AH->List AV->Prop} (ht:Tryz.prog.underlying t=some (.slice e)) (hc:0 < Tryz.prog.cellsOf e) (h:Opens enc Tryz.prog e Q/\MonoQ Q):Opens enc Tryz.prog t (QSl Tryz.prog e Q)/\MonoQ (QSl Tryz.prog e Q):=⟨opens_slice ht hc h.2 h.1,mono_sl h.2⟩
theorem o_struct {t:TypeId} {l:List (TypeId × (AH->List AV->Prop))} (hf:fieldsOf (Tryz.prog.underlying t)=layoutOf Tryz.prog 0 (l.map (·.1))) (hne:l≠[]) (hc:Tryz.prog.cellsOf t=sizeOf' Tryz.prog (l.map (·.1))) (hp:∀ p∈l,Opens enc Tryz.prog p.1 p.2/\MonoQ p.2):Opens enc Tryz.prog t (QL l)/\MonoQ (QL l):=⟨opens_struct hf hne hc hp,mono_ql fun p h=>(hp p h).2⟩
theorem all_nil {R:(TypeId × (AH->List AV->Prop))->Prop}:∀ p∈([]:List (TypeId × (AH->List AV->Prop))),R p:=fun p h=>by simp at h
theorem all_cons {R:(TypeId × (AH->List AV->Prop))->Prop} {x:TypeId × (AH->List AV->Prop)} {l:List (TypeId × (AH->List AV->Prop))} (h:R x) (hl:∀ p∈l,R p):∀ p∈x::l,R p:=fun p hp=>by
 rcases List.mem_cons.1 hp with rfl | hp
 · exact h
 · exact hl p hp
noncomputable def LParam:List (TypeId × (AH->List AV->Prop)):=[(9,QStr),(4,QBool)]
noncomputable def LArr:List (TypeId × (AH->List AV->Prop)):=[(9,QStr),(3,QInt .i64)]
noncomputable def LIns:List (TypeId × (AH->List AV->Prop)):=[(3,QInt .i64),(3,QInt .i64),(3,QInt .i64),(3,QInt .i64),(3,QInt .i64),(21,QInt .i32),(3,QInt .i64),(3,QInt .i64)]
noncomputable def LCode:List (TypeId × (AH->List AV->Prop)):=[(9,QStr),(62,QSl Tryz.prog 74 (QL LParam)),(63,QSl Tryz.prog 77 (QL LArr)),(3,QInt .i64),(64,QSl Tryz.prog 80 (QL LIns))]
noncomputable def LItem:List (TypeId × (AH->List AV->Prop)):=[(3,QInt .i64),(3,QInt .i64),(3,QInt .i64),(3,QInt .i64),(3,QInt .i64),(3,QInt .i64),(3,QInt .i64),(32,QSl Tryz.prog 21 (QInt .i32)),(21,QInt .i32)]
noncomputable def LConf:List (TypeId × (AH->List AV->Prop)):=[(3,QInt .i64),(4,QBool),(3,QInt .i64),(3,QInt .i64),(3,QInt .i64),(3,QInt .i64),(3,QInt .i64)]
noncomputable def LPlan:List (TypeId × (AH->List AV->Prop)):=[(22,QSl Tryz.prog 66 (QL LCode)),(24,QSl Tryz.prog 32 (QSl Tryz.prog 21 (QInt .i32))),(25,QSl Tryz.prog 31 (QSl Tryz.prog 34 (QL LItem))),(27,QL LConf)]
theorem o_param:Opens enc Tryz.prog 74 (QL LParam)/\MonoQ (QL LParam):=o_struct (by kernel_rfl) (by simp [LParam]) (by kernel_rfl) (all_cons o_str (all_cons o_bool all_nil))
theorem o_arr:Opens enc Tryz.prog 77 (QL LArr)/\MonoQ (QL LArr):=o_struct (by kernel_rfl) (by simp [LArr]) (by kernel_rfl) (all_cons o_str (all_cons o_int all_nil))
theorem o_ins:Opens enc Tryz.prog 80 (QL LIns)/\MonoQ (QL LIns):=o_struct (by kernel_rfl) (by simp [LIns]) (by kernel_rfl) (all_cons o_int (all_cons o_int (all_cons o_int (all_cons o_int (all_cons o_int (all_cons o_i32 (all_cons o_int (all_cons o_int all_nil))))))))
theorem o_code:Opens enc Tryz.prog 66 (QL LCode)/\MonoQ (QL LCode):=o_struct (by kernel_rfl) (by simp [LCode]) (by kernel_rfl) (all_cons o_str (all_cons (o_slice (by kernel_rfl) (of_decide_eq_true (by kernel_rfl)) o_param) (all_cons (o_slice (by kernel_rfl) (of_decide_eq_true (by kernel_rfl)) o_arr) (all_cons o_int (all_cons (o_slice (by kernel_rfl) (of_decide_eq_true (by kernel_rfl)) o_ins) all_nil)))))
theorem o_args:Opens enc Tryz.prog 32 (QSl Tryz.prog 21 (QInt .i32))/\MonoQ (QSl Tryz.prog 21 (QInt .i32)):=o_slice (by kernel_rfl) (of_decide_eq_true (by kernel_rfl)) o_i32
theorem o_item:Opens enc Tryz.prog 34 (QL LItem)/\MonoQ (QL LItem):=o_struct (by kernel_rfl) (by simp [LItem]) (by kernel_rfl) (all_cons o_int (all_cons o_int (all_cons o_int (all_cons o_int (all_cons o_int (all_cons o_int (all_cons o_int (all_cons o_args (all_cons o_i32 all_nil)))))))))
theorem o_conf:Opens enc Tryz.prog 27 (QL LConf)/\MonoQ (QL LConf):=o_struct (by kernel_rfl) (by simp [LConf]) (by kernel_rfl) (all_cons o_int (all_cons o_bool (all_cons o_int (all_cons o_int (all_cons o_int (all_cons o_int (all_cons o_int all_nil)))))))
theorem o_codes:Opens enc Tryz.prog 22 (QSl Tryz.prog 66 (QL LCode))/\MonoQ (QSl Tryz.prog 66 (QL LCode)):=o_slice (by kernel_rfl) (of_decide_eq_true (by kernel_rfl)) o_code
theorem o_mem:Opens enc Tryz.prog 24 (QSl Tryz.prog 32 (QSl Tryz.prog 21 (QInt .i32)))/\MonoQ (QSl Tryz.prog 32 (QSl Tryz.prog 21 (QInt .i32))):=o_slice (by kernel_rfl) (of_decide_eq_true (by kernel_rfl)) o_args
theorem o_items:Opens enc Tryz.prog 31 (QSl Tryz.prog 34 (QL LItem))/\MonoQ (QSl Tryz.prog 34 (QL LItem)):=o_slice (by kernel_rfl) (of_decide_eq_true (by kernel_rfl)) o_item
theorem o_strs:Opens enc Tryz.prog 25 (QSl Tryz.prog 31 (QSl Tryz.prog 34 (QL LItem)))/\MonoQ (QSl Tryz.prog 31 (QSl Tryz.prog 34 (QL LItem))):=o_slice (by kernel_rfl) (of_decide_eq_true (by kernel_rfl)) o_items
theorem o_plan:Opens enc Tryz.prog 29 (QL LPlan)/\MonoQ (QL LPlan):=o_struct (by kernel_rfl) (by simp [LPlan]) (by kernel_rfl) (all_cons o_codes (all_cons o_mem (all_cons o_strs (all_cons o_conf all_nil))))
end
theorem ce_i32:Tryz.prog.cellsOf 21=1:=by kernel_rfl
theorem ce_32:Tryz.prog.cellsOf 32=1:=by kernel_rfl
theorem ce_31:Tryz.prog.cellsOf 31=1:=by kernel_rfl
theorem ce_param:Tryz.prog.cellsOf 74=2:=by kernel_rfl
theorem ce_arr:Tryz.prog.cellsOf 77=2:=by kernel_rfl
theorem ce_ins:Tryz.prog.cellsOf 80=8:=by kernel_rfl
theorem ce_code:Tryz.prog.cellsOf 66=5:=by kernel_rfl
theorem ce_item:Tryz.prog.cellsOf 34=9:=by kernel_rfl
theorem sl_args {G:AH} {avs:List AV} (h:QSl Tryz.prog 21 (QInt .i32) G avs):∃ (v:AV) (xs:List Int),avs=[v]/\SlS 32 1 G v (xs.map row1)/\xs.length < 2 ^ 50/\∀ a∈xs,i32R a:=by
 obtain ⟨v,rows,rfl,hs,hr,hn⟩:=h
 rw [ce_i32] at hs hr
 obtain ⟨l,rfl,hl⟩:=pick (f:=row1) (R:=i32R) rows fun r h=>by
   obtain ⟨_,n,rfl,hw⟩:=hr r h
   exact ⟨n,rfl,wf_i32 hw⟩
 exact ⟨v,l,rfl,hs.sls ix32T (fun r h=>(hr r h).1),by
   have:=reach50 (of_decide_eq_true (by kernel_rfl)) hn
   simpa using this,hl⟩
theorem sl_mem {G:AH} {avs:List AV} (h:QSl Tryz.prog 32 (QSl Tryz.prog 21 (QInt .i32)) G avs):∃ v m,avs=[v]/\MemR G m v:=by
 obtain ⟨v,rows,rfl,hs,hr,hn⟩:=h
 rw [ce_32] at hs hr
 obtain ⟨l,rfl,hl⟩:=pick (f:=fun p:List Int × AV=>[p.2]) (R:=fun p=>SlS 32 1 G p.2 (p.1.map row1)/\p.1.length < 2 ^ 50/\∀ a∈p.1,i32R a) rows fun r h=>by
   obtain ⟨w,xs,rfl,h1,h2,h3⟩:=sl_args (hr r h).2
   exact ⟨(xs,w),rfl,h1,h2,h3⟩
 refine ⟨v,l.map (·.1),rfl,⟨l,rfl,hs.sls ix24T (fun r h=>(hr r h).1),fun p hp=>(hl p hp).1⟩,?_,fun b hb=>?_,fun b hb=>?_⟩
 · have:=reach50 (of_decide_eq_true (by kernel_rfl)) hn
   simpa using this
 · obtain ⟨p,hp,rfl⟩:=List.mem_map.1 hb
   exact (hl p hp).2.1
 · obtain ⟨p,hp,rfl⟩:=List.mem_map.1 hb
   exact (hl p hp).2.2
theorem ql_item {G:AH} {avs:List AV} (h:QL LItem G avs):∃ x va,avs=rowX x va/\SlS 32 1 G va (x.args.map row1)/\x.args.length < 2 ^ 50/\(∀ a∈x.args,i32R a)/\i32R x.word:=by
 obtain ⟨_,_,rfl,⟨n0,rfl,_⟩,_,_,rfl,⟨n1,rfl,_⟩,_,_,rfl,⟨n2,rfl,_⟩,_,_,rfl,⟨n3,rfl,_⟩,_,_,rfl,⟨n4,rfl,_⟩,_,_,rfl,⟨n5,rfl,_⟩,_,_,rfl,⟨n6,rfl,_⟩,_,_,rfl,ha,_,_,rfl,⟨n8,rfl,w8⟩,rfl⟩:=h
 obtain ⟨va,xs,rfl,h1,h2,h3⟩:=sl_args ha
 exact ⟨⟨n0,n1,n2,n3,n4,n5,n6,xs,n8⟩,va,rfl,h1,h2,h3,wf_i32 w8⟩
theorem sl_items {G:AH} {avs:List AV} (h:QSl Tryz.prog 34 (QL LItem) G avs):∃ v xs,avs=[v]/\ItmsR G xs v:=by
 obtain ⟨v,rows,rfl,hs,hr,hn⟩:=h
 rw [ce_item] at hs hr
 obtain ⟨l,rfl,hl⟩:=pick (f:=fun p:Itm × AV=>rowX p.1 p.2) (R:=fun p=>SlS 32 1 G p.2 (p.1.args.map row1)/\p.1.args.length < 2 ^ 50/\(∀ a∈p.1.args,i32R a)/\i32R p.1.word) rows fun r h=>by
   obtain ⟨x,va,rfl,h1⟩:=ql_item (hr r h).2
   exact ⟨(x,va),rfl,h1⟩
 refine ⟨v,l.map (·.1),rfl,⟨l,rfl,hs.sls ix31T (fun r h=>(hr r h).1),fun p hp=>(hl p hp).1⟩,?_,fun b hb=>?_,fun b hb=>?_,fun b hb=>?_⟩
 · have:=reach50 (of_decide_eq_true (by kernel_rfl)) hn
   simpa using this
 · obtain ⟨p,hp,rfl⟩:=List.mem_map.1 hb
   exact (hl p hp).2.1
 · obtain ⟨p,hp,rfl⟩:=List.mem_map.1 hb
   exact (hl p hp).2.2.1
 · obtain ⟨p,hp,rfl⟩:=List.mem_map.1 hb
   exact (hl p hp).2.2.2
theorem str60 {s:ByteArray} (h:s.size<=reachBytes):s.size < 2 ^ 60:=by have:=reachBytes_lt; omega
theorem ql_code {G:AH} {avs:List AV} (h:QL LCode G avs):∃ c vp vs vi,avs=rowC c vp vs vi/\CodR G c vp vs vi:=by
 obtain ⟨_,_,rfl,⟨nm,rfl,hnm⟩,_,_,rfl,⟨vp,rp,rfl,hp,hpr,hpn⟩,_,_,rfl,⟨vs,rs,rfl,hs,hsr,hsn⟩,_,_,rfl,⟨lo,rfl,_⟩,_,_,rfl,⟨vi,ri,rfl,hi,hir,hin⟩,rfl⟩:=h
 rw [ce_param] at hp hpr
 rw [ce_arr] at hs hsr
 rw [ce_ins] at hi hir
 obtain ⟨ps,rfl,hps⟩:=pick (f:=rowP) (R:=fun p=>p.name.size < 2 ^ 60) rp fun r h=>by
   obtain ⟨_,_,_,rfl,⟨s,rfl,h1⟩,_,_,rfl,⟨b,rfl⟩,rfl⟩:=hpr r h
   exact ⟨⟨s,b⟩,rfl,str60 h1⟩
 obtain ⟨ars,rfl,has⟩:=pick (f:=rowA) (R:=fun p=>p.name.size < 2 ^ 60) rs fun r h=>by
   obtain ⟨_,_,_,rfl,⟨s,rfl,h1⟩,_,_,rfl,⟨b,rfl,_⟩,rfl⟩:=hsr r h
   exact ⟨⟨s,b⟩,rfl,str60 h1⟩
 obtain ⟨iis,rfl,his⟩:=pick (f:=rowI) (R:=fun x=>i32R x.imm) ri fun r h=>by
   obtain ⟨_,_,_,rfl,⟨n0,rfl,_⟩,_,_,rfl,⟨n1,rfl,_⟩,_,_,rfl,⟨n2,rfl,_⟩,_,_,rfl,⟨n3,rfl,_⟩,_,_,rfl,⟨n4,rfl,_⟩,_,_,rfl,⟨n5,rfl,w5⟩,_,_,rfl,⟨n6,rfl,_⟩,_,_,rfl,⟨n7,rfl,_⟩,rfl⟩:=hir r h
   exact ⟨⟨n0,n1,n2,n3,n4,n5,n6,n7⟩,rfl,wf_i32 w5⟩
 exact ⟨⟨nm,ps,ars,lo,iis⟩,vp,vs,vi,rfl,hp.sls ix62T (fun r h=>(hpr r h).1),hs.sls ix63T (fun r h=>(hsr r h).1),hi.sls ix64T (fun r h=>(hir r h).1),by
   have:=reach50 (of_decide_eq_true (by kernel_rfl)) hpn
   simpa using this,by
   have:=reach50 (of_decide_eq_true (by kernel_rfl)) hsn
   simpa using this,by
   have:=reach50 (of_decide_eq_true (by kernel_rfl)) hin
   simpa using this,str60 hnm,hps,has,his⟩
theorem sl_codes {G:AH} {avs:List AV} (h:QSl Tryz.prog 66 (QL LCode) G avs):∃ v cs,avs=[v]/\CodsR G cs v:=by
 obtain ⟨v,rows,rfl,hs,hr,hn⟩:=h
 rw [ce_code] at hs hr
 obtain ⟨l,rfl,hl⟩:=pick (f:=fun p:Cod × AV × AV × AV=>rowC p.1 p.2.1 p.2.2.1 p.2.2.2) (R:=fun p=>CodR G p.1 p.2.1 p.2.2.1 p.2.2.2) rows fun r h=>by
   obtain ⟨c,vp,vs,vi,rfl,h1⟩:=ql_code (hr r h).2
   exact ⟨(c,vp,vs,vi),rfl,h1⟩
 refine ⟨v,l.map (·.1),rfl,⟨l,rfl,hs.sls ix22T (fun r h=>(hr r h).1),hl⟩,?_⟩
 have:=reach50 (of_decide_eq_true (by kernel_rfl)) hn
 simpa using this
theorem ql_conf {G:AH} {avs:List AV} (h:QL LConf G avs):∃ f,avs=rowF f:=by
 obtain ⟨_,_,rfl,⟨n0,rfl,_⟩,_,_,rfl,⟨b,rfl⟩,_,_,rfl,⟨n2,rfl,_⟩,_,_,rfl,⟨n3,rfl,_⟩,_,_,rfl,⟨n4,rfl,_⟩,_,_,rfl,⟨n5,rfl,_⟩,_,_,rfl,⟨n6,rfl,_⟩,rfl⟩:=h
 exact ⟨⟨n0,b,n2,n3,n4,n5,n6⟩,rfl⟩
end Go.Dv
namespace Go.Dv
open Go.Proofs Go.Proofs.YtilpjnckfkjkbaaGreatDoor
theorem tab_eq:(Rows.laid_strings_asciiSpace:DataW Unit)=Lib.tabData .u8 Lib.asciiSpaceTab:=by kernel_rfl
theorem pin_of {W:World} (h:laidMetH Tryz.prog [("unicode.White_Space",Rows.laid_unicode_White_Space),("strings.asciiSpace",Rows.laid_strings_asciiSpace)] W):PinAt 0 tabCs W (fun b=>b < W.heap.size):=by
 rw [MakeChecks.laidMetH_plain _ _ _ (by kernel_rfl)] at h
 have h2:=h.tail
 rw [tab_eq] at h2
 have ht:Lib.TabIs Tryz.prog W "strings.asciiSpace" .u8 Lib.asciiSpaceTab:=Lib.tabIs_of_head (g:=0) (t:=309) (e:=5) (n:=256) (by kernel_rfl) (by kernel_rfl) (by kernel_rfl) (by kernel_rfl) (by kernel_rfl) (by kernel_rfl) h2
 have hc:∀ i,i < Lib.asciiSpaceTab.length->W.cell? ⟨0,i,none⟩=some (.int .u8 (Lib.asciiSpaceTab.getD i 0)):=fun i hi=>ht.cell (by kernel_rfl) i hi
 refine ⟨(cell_spot (hc 0 (by decide))).2,fun j v hj=>?_⟩
 unfold tabCs at hj
 rw [List.getElem?_map,Option.map_eq_some_iff] at hj
 obtain ⟨n,hn,rfl⟩:=hj
 have hl:=lt_of_get hn
 refine ⟨_,hc j hl,?_⟩
 rw [gde,hn]; rfl
theorem o_turns {H:Type} {enc:TypeId × Value->H}:Opens enc Tryz.prog 30 (QSl Tryz.prog 3 (QInt .i64))/\MonoQ (QSl Tryz.prog 3 (QInt .i64)):=o_slice (by kernel_rfl) (of_decide_eq_true (by kernel_rfl)) o_int
theorem weight_arg {H:Type} {P:Program} {ts:List TypeId} {ds:List (DataW H)} (h:(DataW.weightsEach P ts ds).all (·<=reachBytes)=true) {j:Nat} {t:TypeId} {d:DataW H} (ht:ts[j]? =some t) (hd:ds[j]? =some d):∀ z∈d.weights P t,z<=reachBytes:=fun z hz=>by
 have:=List.all_eq_true.1 h z (DataW.weights_mem_each ht hd z hz)
 simpa using this
end Go.Dv
namespace Go.Dv
open Go.Proofs Go.Proofs.YtilpjnckfkjkbaaGreatDoor
theorem big_items {G:AH} {avs:List AV} (h:QSl Tryz.prog 34 (QL LItem) G avs):∃ v xs,avs=[v]/\ItmsR G xs v/\xs.length * Tryz.prog.bytesOf 34<=reachBytes:=by
 obtain ⟨v,xs,e,hi⟩:=sl_items h
 obtain ⟨v',rows,e',hs,hr,hn⟩:=h
 rw [ce_item] at hs hr
 cases e.symm.trans e'
 have h1:=(hs.sls ix31T fun r h=>(hr r h).1).len G
 rw [hi.len G] at h1
 have:xs.length=rows.length:=by
   simp only [Option.some.injEq,AV.int.injEq,true_and] at h1
   exact Int.ofNat.inj h1
 exact ⟨v,xs,e,hi,by rw [this]; exact hn⟩
theorem big_strs {G:AH} {avs:List AV} (h:QSl Tryz.prog 31 (QSl Tryz.prog 34 (QL LItem)) G avs):∃ v ss,avs=[v]/\StrsR G ss v/\ss.length * Tryz.prog.bytesOf 31<=reachBytes/\∀ l∈ss,l.length * Tryz.prog.bytesOf 34<=reachBytes:=by
 obtain ⟨v,rows,rfl,hs,hr,hn⟩:=h
 rw [ce_31] at hs hr
 obtain ⟨l,rfl,hl⟩:=pick (f:=fun p:List Itm × AV=>[p.2]) (R:=fun p=>ItmsR G p.1 p.2/\p.1.length * Tryz.prog.bytesOf 34<=reachBytes) rows fun r h=>by
   obtain ⟨w,xs,rfl,h1⟩:=big_items (hr r h).2
   exact ⟨(xs,w),rfl,h1⟩
 rw [List.length_map] at hn
 refine ⟨v,l.map (·.1),rfl,⟨⟨l,rfl,hs.sls ix25T (fun r h=>(hr r h).1),fun p hp=>(hl p hp).1⟩,?_⟩,by rw [List.length_map]; exact hn,fun b hb=>?_⟩
 · have:=reach50 (of_decide_eq_true (by kernel_rfl)) hn
   rw [List.length_map]
   exact this
 · obtain ⟨p,hp,rfl⟩:=List.mem_map.1 hb
   exact (hl p hp).2
theorem big_plan {H:Type} {enc:TypeId × Value->H} {W:World} {us:Array Value} {d:DataW H} {p:List MemPlace} (hk:0 < W.heap.size) (h:DataW.Trod enc Tryz.prog W 0 (fun _=>true) true 29 (.agg us) d p) (hz:∀ z∈d.weights Tryz.prog 29,z<=reachBytes) :
   ∃ φ G vc vm vs f cs m ss,RdW W φ G/\VR φ (.agg ([vc,vm,vs]++rowF f)) (.agg us)/\CodsR G cs vc/\MemR G m vm/\StrsR G ss vs/\ss.length * Tryz.prog.bytesOf 31<=reachBytes/\∀ l∈ss,l.length * Tryz.prog.bytesOf 34<=reachBytes:=by
 obtain ⟨fuel,hf⟩:=h
 obtain ⟨φ,L,avs,h1,h2,h3,h4⟩:=o_plan.1 W 0 true fuel _ _ hf hz hk _ [] (RdW.nil W)
 obtain ⟨_,_,rfl,hc,_,_,rfl,hm,_,_,rfl,hs,_,_,rfl,hf,rfl⟩:=h4
 obtain ⟨vc,cs,rfl,k1⟩:=sl_codes hc
 obtain ⟨vm,m,rfl,k2⟩:=sl_mem hm
 obtain ⟨vs,ss,rfl,k3,k4⟩:=big_strs hs
 obtain ⟨f,rfl⟩:=ql_conf hf
 exact ⟨φ,[]++L,vc,vm,vs,f,cs,m,ss,h1,⟨us,rfl,by rw [List.append_nil] at h3; exact h3⟩,k1,k2,k3,k4⟩
theorem open_turns {H:Type} {enc:TypeId × Value->H} {W:World} {φ:Env} {G:AH} (hG:RdW W φ G) (hk:0 < W.heap.size) {v:Value} {d:DataW H} {p:List MemPlace} (h:DataW.Trod enc Tryz.prog W 0 (fun _=>true) true 30 v d p) (hz:∀ z∈d.weights Tryz.prog 30,z<=reachBytes) (hv:v.cells.toList=[v]) :
   ∃ φ' L w tl,RdW W φ' (G++L)/\φ.le φ'/\VR φ' w v/\SlS 30 1 (G++L) w (turnR tl)/\tl.length < 2 ^ 60:=by
 obtain ⟨fuel,hf⟩:=h
 obtain ⟨φ',L,avs,h1,h2,h3,w,rows,rfl,hs,hr,hn⟩:=o_turns.1 W 0 true fuel _ _ hf hz hk φ G hG
 rw [show Tryz.prog.cellsOf 3=1 by kernel_rfl] at hs hr
 obtain ⟨tl,rfl,_⟩:=pick (f:=fun x:Int=>[I x]) (R:=fun _=>True) rows fun r h=>by
   obtain ⟨_,n,rfl,_⟩:=hr r h
   exact ⟨n,rfl,trivial⟩
 rw [hv] at h3
 obtain ⟨u,us,e,hu,_⟩:=h3
 cases e
 have:=reach50 (of_decide_eq_true (by kernel_rfl)) hn
 rw [List.length_map] at this
 exact ⟨φ',L,w,tl,h1,h2,hu,hs.sls ix30T (fun r h=>(hr r h).1),by omega⟩
theorem grow_r {b n k:Nat} (hb:Nat.ble 1 b=true/\Nat.ble b 1000=true) (hk:k * b<=reachBytes) (hn:n<=k):growOk b n=true:=by
 have h1:=Nat.le_of_ble_eq_true hb.1
 have h2:=Nat.le_of_ble_eq_true hb.2
 have h3:=Nat.mul_le_mul_right b hn
 have h4:n * 1<=n * b:=Nat.mul_le_mul_left n h1
 have h5:4 * (n / 4) * b<=n * b:=Nat.mul_le_mul_right b (Nat.mul_div_le n 4)
 have h6:600 * b<=600 * 1000:=Nat.mul_le_mul_left 600 h2
 have h7:reachBytes < 2 ^ 47:=by decide
 rw [Nat.mul_assoc] at h5
 unfold growOk
 rw [Bool.and_eq_true,decide_eq_true_iff,decide_eq_true_iff,Nat.add_mul,Nat.add_mul]
 constructor <;> omega
theorem b31b:Nat.ble 1 (Tryz.prog.bytesOf 31)=true/\Nat.ble (Tryz.prog.bytesOf 31) 1000=true:=⟨by kernel_rfl,by kernel_rfl⟩
theorem b34b:Nat.ble 1 (Tryz.prog.bytesOf 34)=true/\Nat.ble (Tryz.prog.bytesOf 34) 1000=true:=⟨by kernel_rfl,by kernel_rfl⟩
end Go.Dv
