/- Part 01 of the walks (own work). -/
import Derived.Orders
import Derived.Below
import Derived.Laws.Sem
import Derived.WalkKit
import Derived.Laws.Cells
import Derived.Laws.IdiomCopy
set_option maxRecDepth 100000
set_option maxHeartbeats 4000000
set_option linter.unusedSimpArgs false
set_option linter.unusedVariables false
namespace Go.Dv
inductive AV where
 | int (k:IntKind) (n:Int)
 | bool (b:Bool)
 | str (s:ByteArray)
 | nilPtr
 | ptr (i k:Nat)
 | nilSlice
 | slice (i k es len cap:Nat) (ex:Bool)
 | nilMap
 | map (i:Nat)
 | func (fn:Fn) (first captured:List AV)
 | nilFunc
 | iface (t:TypeId) (v:AV)
 | nilIface
 | agg (cs:List AV)
 | tuple (vs:List AV)
 | junk
 deriving Inhabited
def uA:AV:=.tuple []
def AV.cells:AV->List AV
 | .agg cs=>cs
 | v=>[v]
abbrev Env:=Nat->Option (Nat × Nat × Nat)
mutual
def VR (φ:Env):AV->Value->Prop
 | .int k n,v=>v=.int k n
 | .bool b,v=>v=.bool b
 | .str s,v=>v=.string s
 | .nilPtr,v=>v=.pointer none
 | .ptr i k,v=>∃ b o z,φ i=some (b,o,z)/\v=.pointer (some ⟨b,o+k,none⟩)
 | .nilSlice,v=>v=.slice none 0 0
 | .slice i k es len cap ex,v=>∃ a c,v=.slice (some a) len c/\len<=cap/\(cap<=c/\(ex=true->c=cap)) /\
     (c=0∨∃ b o z,φ i=some (b,o,z)/\a=⟨b,o+k,none⟩/\o+k+c * es<=z)
 | .nilMap,v=>v=.map none
 | .map i,v=>∃ b z,φ i=some (b,0,z)/\v=.map (some b)
 | .func fn f c,v=>∃ f' c':Array Value,v=.func fn f' c'/\VRs φ f f'.toList/\VRs φ c c'.toList
 | .nilFunc,v=>v=.nilFunc
 | .iface t x,v=>∃ u,v=.iface t u/\VR φ x u
 | .nilIface,v=>v=.nilIface
 | .agg cs,v=>∃ us:Array Value,v=.agg us/\VRs φ cs us.toList
 | .tuple cs,v=>∃ us:Array Value,v=.tuple us/\VRs φ cs us.toList
 | .junk,v=>v.oneCell'=true/\∀ b,v≠.bool b
def VRs (φ:Env):List AV->List Value->Prop
 | [],l=>l=[]
 | x::xs,l=>∃ u us,l=u::us/\VR φ x u/\VRs φ xs us
end
def Env.le (φ ψ:Env):Prop:=∀ i x,φ i=some x->ψ i=some x
theorem Env.le_refl (φ:Env):φ.le φ:=fun _ _ h=>h
theorem Env.le_trans {φ ψ χ:Env} (h:φ.le ψ) (k:ψ.le χ):φ.le χ:=fun i x e=>k i x (h i x e)
mutual
theorem VR.mono {φ ψ:Env} (h:φ.le ψ):∀ (x:AV) (v:Value),VR φ x v->VR ψ x v
 | .int ..,_,r=>r
 | .bool ..,_,r=>r
 | .str ..,_,r=>r
 | .nilPtr,_,r=>r
 | .ptr ..,_,⟨b,o,z,e,r⟩=>⟨b,o,z,h _ _ e,r⟩
 | .nilSlice,_,r=>r
 | .slice ..,_,⟨a,c,r,s,t,u⟩=>⟨a,c,r,s,t,u.imp id fun ⟨b,o,z,e,q⟩=>⟨b,o,z,h _ _ e,q⟩⟩
 | .nilMap,_,r=>r
 | .map ..,_,⟨b,z,e,r⟩=>⟨b,z,h _ _ e,r⟩
 | .func _ f c,_,⟨f',c',e,r,s⟩=>⟨f',c',e,VRs.mono h f _ r,VRs.mono h c _ s⟩
 | .nilFunc,_,r=>r
 | .iface _ x,_,⟨u,e,r⟩=>⟨u,e,VR.mono h x _ r⟩
 | .nilIface,_,r=>r
 | .agg cs,_,⟨us,e,r⟩=>⟨us,e,VRs.mono h cs _ r⟩
 | .tuple cs,_,⟨us,e,r⟩=>⟨us,e,VRs.mono h cs _ r⟩
 | .junk,_,r=>r
theorem VRs.mono {φ ψ:Env} (h:φ.le ψ):∀ (xs:List AV) (l:List Value),VRs φ xs l->VRs ψ xs l
 | [],_,r=>r
 | x::xs,_,⟨u,us,e,r,s⟩=>⟨u,us,e,VR.mono h x _ r,VRs.mono h xs _ s⟩
end
theorem VRs.nil (φ:Env):VRs φ [] []:=rfl
theorem VRs.cons {φ:Env} {x:AV} {v:Value} {xs:List AV} {vs:List Value} (h:VR φ x v) (hs:VRs φ xs vs):VRs φ (x::xs) (v::vs):=⟨v,vs,rfl,h,hs⟩
theorem VRs.one {φ:Env} {x:AV} {v:Value} (h:VR φ x v):VRs φ [x] [v]:=.cons h (.nil φ)
theorem VRs.length {φ:Env}:∀ {xs:List AV} {vs:List Value},VRs φ xs vs->xs.length=vs.length
 | [],_,h=>by rw [show _=[] from h]; rfl
 | _::_,_,⟨_,_,e,_,hs⟩=>by rw [e,List.length_cons,List.length_cons,hs.length]
theorem VRs.get {φ:Env}:∀ {xs:List AV} {vs:List Value},VRs φ xs vs->∀ (i:Nat) (x:AV),xs[i]? =some x->∃ v,vs[i]? =some v/\VR φ x v
 | [],_,_,i,x,hi=>by simp at hi
 | y::xs,_,⟨u,us,e,r,hs⟩,0,x,hi=>by subst e; simp at hi; subst hi; exact ⟨u,rfl,r⟩
 | y::xs,_,⟨u,us,e,r,hs⟩,i+1,x,hi=>by subst e; simp at hi; simpa using hs.get i x hi
theorem VRs.of_get {φ:Env}:∀ {xs:List AV} {vs:List Value},xs.length=vs.length->(∀ (i:Nat) (x:AV) (v:Value),xs[i]? =some x->vs[i]? =some v->VR φ x v)->VRs φ xs vs
 | [],[],_,_=>rfl
 | [],_::_,h,_=>by simp at h
 | _::_,[],h,_=>by simp at h
 | x::xs,v::vs,h,g=>.cons (g 0 x v rfl rfl) (VRs.of_get (by simpa using h) fun i y u hy hu=>g (i+1) y u (by simpa using hy) (by simpa using hu))
theorem VRs.append {φ:Env}:∀ {xs:List AV} {vs:List Value} {ys:List AV} {us:List Value},VRs φ xs vs->VRs φ ys us->VRs φ (xs++ys) (vs++us)
 | [],_,_,_,h,k=>by rw [show _=[] from h]; exact k
 | _::_,_,_,_,⟨u,us,e,r,hs⟩,k=>by subst e; exact .cons r (hs.append k)
theorem VRs.take {φ:Env} {xs:List AV} {vs:List Value} (h:VRs φ xs vs) (n:Nat):VRs φ (xs.take n) (vs.take n):=
 .of_get (by simp [h.length]) fun i x v hx hv=>by
   rw [List.getElem?_take] at hx hv
   split at hx
   · rename_i hlt
     rw [if_pos hlt] at hv
     obtain ⟨u,hu,r⟩:=h.get i x hx
     rw [hu] at hv; cases hv; exact r
   · cases hx
theorem VRs.drop {φ:Env} {xs:List AV} {vs:List Value} (h:VRs φ xs vs) (n:Nat):VRs φ (xs.drop n) (vs.drop n):=
 .of_get (by simp [h.length]) fun i x v hx hv=>by
   rw [List.getElem?_drop] at hx hv
   obtain ⟨u,hu,r⟩:=h.get _ x hx
   rw [hu] at hv; cases hv; exact r
theorem VRs.set {φ:Env} {xs:List AV} {vs:List Value} (h:VRs φ xs vs) (n:Nat) {x:AV} {v:Value} (hx:VR φ x v):VRs φ (xs.set n x) (vs.set n v):=
 .of_get (by simp [h.length]) fun i y u hy hu=>by
   rw [List.getElem?_set] at hy hu
   split at hy
   · rename_i e; subst e
     rw [if_pos rfl] at hu
     split at hy
     · rename_i hl; rw [if_pos (h.length ▸ hl)] at hu; cases hy; cases hu; exact hx
     · cases hy
   · rename_i e
     rw [if_neg e] at hu
     obtain ⟨v',hv',r⟩:=h.get i y hy
     rw [hv'] at hu; cases hu; exact r
theorem VR.cells {φ:Env} {x:AV} {v:Value} (h:VR φ x v):VRs φ x.cells v.cells.toList:=by
 cases x <;> simp only [AV.cells]
 case agg cs=>obtain ⟨us,rfl,r⟩:=h; exact r
 all_goals (have h':=h; simp only [VR] at h)
 case int=>subst h; exact .one h'
 case bool=>subst h; exact .one h'
 case str=>subst h; exact .one h'
 case nilPtr=>subst h; exact .one h'
 case nilSlice=>subst h; exact .one h'
 case nilMap=>subst h; exact .one h'
 case nilFunc=>subst h; exact .one h'
 case nilIface=>subst h; exact .one h'
 case ptr=>obtain ⟨b,o,z,e,rfl⟩:=h; exact .one h'
 case slice=>obtain ⟨a,c,rfl,_⟩:=h; exact .one h'
 case junk=>cases v <;> first | exact .one h' | (simp [Value.oneCell'] at h)
 case map=>obtain ⟨b,z,e,rfl⟩:=h; exact .one h'
 case func=>obtain ⟨f',c',rfl,_⟩:=h; exact .one h'
 case iface=>obtain ⟨u,rfl,_⟩:=h; exact .one h'
 case tuple=>obtain ⟨us,rfl,_⟩:=h; exact .one h'
mutual
def toV:AV->Option Value
 | .int k n=>some (.int k n)
 | .bool b=>some (.bool b)
 | .str s=>some (.string s)
 | .nilPtr=>some (.pointer none)
 | .nilSlice=>some (.slice none 0 0)
 | .nilMap=>some (.map none)
 | .nilFunc=>some .nilFunc
 | .nilIface=>some .nilIface
 | .iface t x=>(toV x).map (.iface t)
 | .agg cs=>(toVs cs).map fun l=>.agg l.toArray
 | .tuple cs=>(toVs cs).map fun l=>.tuple l.toArray
 | .func fn f c=>(toVs f).bind fun l=>(toVs c).map fun m=>.func fn l.toArray m.toArray
 | .ptr .. | .slice .. | .map .. | .junk=>none
def toVs:List AV->Option (List Value)
 | []=>some []
 | x::xs=>(toV x).bind fun v=>(toVs xs).map (v::·)
end
mutual
theorem toV_spec {φ:Env}:∀ (x:AV) (v:Value),toV x=some v->∀ u,VR φ x u->u=v
 | .int ..,v,h,u,r=>by simp only [toV,Option.some.injEq] at h; subst h; exact r
 | .bool ..,v,h,u,r=>by simp only [toV,Option.some.injEq] at h; subst h; exact r
 | .str ..,v,h,u,r=>by simp only [toV,Option.some.injEq] at h; subst h; exact r
 | .nilPtr,v,h,u,r=>by simp only [toV,Option.some.injEq] at h; subst h; exact r
 | .nilSlice,v,h,u,r=>by simp only [toV,Option.some.injEq] at h; subst h; exact r
 | .nilMap,v,h,u,r=>by simp only [toV,Option.some.injEq] at h; subst h; exact r
 | .nilFunc,v,h,u,r=>by simp only [toV,Option.some.injEq] at h; subst h; exact r
 | .nilIface,v,h,u,r=>by simp only [toV,Option.some.injEq] at h; subst h; exact r
 | .ptr ..,v,h,u,r=>by simp [toV] at h
 | .slice ..,v,h,u,r=>by simp [toV] at h
 | .map ..,v,h,u,r=>by simp [toV] at h
 | .junk,v,h,u,r=>by simp [toV] at h
 | .iface t x,v,h,u,⟨u',e,r⟩=>by
   simp only [toV,Option.map_eq_some_iff] at h
   obtain ⟨y,hy,rfl⟩:=h
   rw [e,toV_spec x y hy u' r]
 | .agg cs,v,h,u,⟨us,e,r⟩=>by
   simp only [toV,Option.map_eq_some_iff] at h
   obtain ⟨y,hy,rfl⟩:=h
   rw [e,<-toVs_spec cs y hy _ r]
 | .tuple cs,v,h,u,⟨us,e,r⟩=>by
   simp only [toV,Option.map_eq_some_iff] at h
   obtain ⟨y,hy,rfl⟩:=h
   rw [e,<-toVs_spec cs y hy _ r]
 | .func fn f c,v,h,u,⟨f',c',e,r,s⟩=>by
   simp only [toV,Option.bind_eq_some_iff,Option.map_eq_some_iff] at h
   obtain ⟨y,hy,z,hz,rfl⟩:=h
   rw [e,<-toVs_spec f y hy _ r,<-toVs_spec c z hz _ s]
theorem toVs_spec {φ:Env}:∀ (xs:List AV) (l:List Value),toVs xs=some l->∀ m,VRs φ xs m->m=l
 | [],l,h,m,r=>by simp only [toVs,Option.some.injEq] at h; subst h; exact r
 | x::xs,l,h,m,⟨u,us,e,r,s⟩=>by
   simp only [toVs,Option.bind_eq_some_iff,Option.map_eq_some_iff] at h
   obtain ⟨y,hy,z,hz,rfl⟩:=h
   rw [e,toV_spec x y hy u r,toVs_spec xs z hz us s]
end
def ofV:Nat->Value->Option AV
 | 0,_=>none
 | n+1,v=>match v with
   | .int k n=>some (.int k n)
   | .bool b=>some (.bool b)
   | .string s=>some (.str s)
   | .pointer none=>some .nilPtr
   | .slice none 0 0=>some .nilSlice
   | .map none=>some .nilMap
   | .nilFunc=>some .nilFunc
   | .nilIface=>some .nilIface
   | .iface t x=>(ofV n x).map (.iface t)
   | .agg cs=>(ofVs (ofV n) cs.toList).map .agg
   | .tuple cs=>(ofVs (ofV n) cs.toList).map .tuple
   | .func fn f c=>(ofVs (ofV n) f.toList).bind fun l=>(ofVs (ofV n) c.toList).map fun m=>.func fn l m
   | _=>none
where ofVs (g:Value->Option AV):List Value->Option (List AV)
 | []=>some []
 | x::xs=>(g x).bind fun v=>(ofVs g xs).map (v::·)
theorem ofVs_spec {φ:Env} {g:Value->Option AV} (hg:∀ v x,g v=some x->VR φ x v):∀ (l:List Value) (xs:List AV),ofV.ofVs g l=some xs->VRs φ xs l
 | [],xs,h=>by simp only [ofV.ofVs,Option.some.injEq] at h; subst h; exact .nil φ
 | v::l,xs,h=>by
   simp only [ofV.ofVs,Option.bind_eq_some_iff,Option.map_eq_some_iff] at h
   obtain ⟨y,hy,z,hz,rfl⟩:=h
   exact .cons (hg v y hy) (ofVs_spec hg l z hz)
theorem ofV_spec {φ:Env}:∀ (n:Nat) (v:Value) (x:AV),ofV n v=some x->VR φ x v
 | 0,_,_,h=>by simp [ofV] at h
 | n+1,v,x,h=>by
   have ih:=ofV_spec (φ:=φ) n
   unfold ofV at h
   split at h
   case h_9 =>
     simp only [Option.map_eq_some_iff] at h
     obtain ⟨y,hy,rfl⟩:=h
     exact ⟨_,rfl,ih _ _ hy⟩
   case h_10 =>
     simp only [Option.map_eq_some_iff] at h
     obtain ⟨y,hy,rfl⟩:=h
     exact ⟨_,rfl,ofVs_spec ih _ _ hy⟩
   case h_11 =>
     simp only [Option.map_eq_some_iff] at h
     obtain ⟨y,hy,rfl⟩:=h
     exact ⟨_,rfl,ofVs_spec ih _ _ hy⟩
   case h_12 =>
     simp only [Option.bind_eq_some_iff,Option.map_eq_some_iff] at h
     obtain ⟨y,hy,z,hz,rfl⟩:=h
     exact ⟨_,_,rfl,ofVs_spec ih _ _ hy,ofVs_spec ih _ _ hz⟩
   all_goals first
     | (simp only [Option.some.injEq] at h; subst h; rfl)
     | cases h
inductive AObj where
 | fresh
 | dead
 | cells (cs:List AV) (elem:TypeId)
 | arg (cs:List AV)
 | map (es:List (AV × AV × Nat)) (clock:Nat)
 | strIter (s:ByteArray) (pos:Nat)
 deriving Inhabited
abbrev AH:=List AObj
def AObj.owned:AObj->Bool
 | .cells .. | .map .. | .strIter ..=>true
 | _=>false
def Owned (H:AH) (i:Nat):Prop:=∃ o,H[i]? =some o/\o.owned=true
def MR (φ:Env):List (AV × AV × Nat)->List MapEntry->Prop
 | [],l=>l=[]
 | (k,v,n)::es,l=>∃ e l',l=e::l'/\VR φ k e.key/\VR φ v e.val/\e.born=n/\MR φ es l'
theorem MR.mono {φ ψ:Env} (h:φ.le ψ):∀ (es:List (AV × AV × Nat)) (l:List MapEntry),MR φ es l->MR ψ es l
 | [],_,r=>r
 | (_,_,_)::es,_,⟨e,l',q,rk,rv,rn,rs⟩=>⟨e,l',q,rk.mono h,rv.mono h,rn,MR.mono h es _ rs⟩
def OR (φ:Env) (w:World) (i:Nat):AObj->Prop
 | .fresh | .dead=>True
 | .cells cs elem=>∃ b o z c,φ i=some (b,o,z)/\w.heap[b]? =some (.cells c elem (0,0))/\c.size=z/\o+cs.length<=z /\
     ∀ j v,cs[j]? =some v->∃ u,c[o+j]? =some u/\VR φ v u
 | .arg cs=>∃ b o z,φ i=some (b,o,z)/\∀ j v,cs[j]? =some v->∃ u,w.cell? ⟨b,o+j,none⟩=some u/\VR φ v u
 | .map es clock=>∃ b z es',φ i=some (b,0,z)/\w.heap[b]? =some (.map es' clock)/\MR φ es es'.toList
 | .strIter s p=>∃ b z,φ i=some (b,0,z)/\w.heap[b]? =some (.stringIter s p)
structure WR (w0:World) (Pr:Nat->Prop) (φ:Env) (H:AH) (w:World):Prop where
 dom:∀ i,H.length<=i->φ i=none
 fresh:∀ i,H[i]? =some .fresh->φ i=none
 lt:∀ i x,φ i=some x->x.1 < w.heap.size
 inj:∀ i j x y,Owned H i->Owned H j->φ i=some x->φ j=some y->x.1=y.1->i=j
 own:∀ i x,Owned H i->φ i=some x->¬ Pr x.1
 argP:∀ i x cs,H[i]? =some (.arg cs)->φ i=some x->Pr x.1
 obj:∀ i o,H[i]? =some o->OR φ w i o
 prLt:∀ b,Pr b->b < w0.heap.size
 size:w0.heap.size<=w.heap.size
 os:w.os=w0.os
 tape:w.tape=w0.tape
 output:w.output=w0.output
 old:∀ b,Pr b->w.heap[b]? =w0.heap[b]?
theorem OR.keep {φ ψ:Env} {w w':World} {i:Nat} {o:AObj} (h:OR φ w i o) (hle:φ.le ψ)
   (hb:∀ x,φ i=some x->w'.heap[x.1]? =w.heap[x.1]?):OR ψ w' i o:=by
 cases o with
 | fresh=>trivial
 | dead=>trivial
 | cells cs e =>
   obtain ⟨b,o,z,c,hi,hc,hz,hl,hv⟩:=h
   refine ⟨b,o,z,c,hle _ _ hi,?_,hz,hl,fun j v hj=>?_⟩
   · rw [hb _ hi]; exact hc
   · obtain ⟨u,hu,r⟩:=hv j v hj; exact ⟨u,hu,r.mono hle⟩
 | arg cs =>
   obtain ⟨b,o,z,hi,hv⟩:=h
   refine ⟨b,o,z,hle _ _ hi,fun j v hj=>?_⟩
   obtain ⟨u,hu,r⟩:=hv j v hj
   refine ⟨u,?_,r.mono hle⟩
   rw [<-hu]
   exact World.cell?_of_block (w:=w) (a:=⟨b,o+j,none⟩) (hb _ hi)
 | map es clock =>
   obtain ⟨b,z,es',hi,hm,r⟩:=h
   exact ⟨b,z,es',hle _ _ hi,by rw [hb _ hi]; exact hm,MR.mono hle _ _ r⟩
 | strIter s p =>
   obtain ⟨b,z,hi,hm⟩:=h
   exact ⟨b,z,hle _ _ hi,by rw [hb _ hi]; exact hm⟩
def Env.set (φ:Env) (i:Nat) (x:Nat × Nat × Nat):Env:=fun j=>if j=i then some x else φ j
theorem Env.set_self (φ:Env) (i:Nat) (x):φ.set i x i=some x:=by simp [Env.set]
theorem Env.set_ne (φ:Env) {i j:Nat} (x) (h:j≠i):φ.set i x j=φ j:=by simp [Env.set,h]
theorem Env.le_set {φ:Env} {i:Nat} (x) (h:φ i=none):φ.le (φ.set i x):=fun j y hj=>by
 by_cases e:j=i
 · subst e; rw [h] at hj; cases hj
 · rw [Env.set_ne φ x e]; exact hj
def put (slot:Option Nat) (H:AH) (o:AObj):Option (Nat × AH):=
 match slot with
 | none=>some (H.length,H++[o])
 | some i=>match H[i]? with
   | some .fresh=>some (i,H.set i o)
   | _=>none
theorem put_spec {w0:World} {Pr:Nat->Prop} {φ:Env} {H:AH} {w:World} (h:WR w0 Pr φ H w) {slot:Option Nat} {o:AObj} {i:Nat} {H':AH}
   (hp:put slot H o=some (i,H')) :
   φ i=none/\(∀ j,j≠i->H'[j]? =H[j]?)/\H'[i]? =some o/\H.length<=H'.length/\(∀ j,H'.length<=j->H.length<=j/\j≠i):=by
 unfold put at hp
 split at hp
 · simp only [Option.some.injEq,Prod.mk.injEq] at hp
   obtain ⟨rfl,rfl⟩:=hp
   refine ⟨h.dom _ (Nat.le_refl _),fun j hj=>?_,by simp,by simp,fun j hj=>?_⟩
   · rcases Nat.lt_or_ge j H.length with hl | hl
     · rw [List.getElem?_append_left hl]
     · rw [List.getElem?_append_right hl,List.getElem?_eq_none hl,List.getElem?_eq_none (by simp; omega)]
   · simp at hj; omega
 · rename_i i'
   split at hp
   · rename_i hf
     simp only [Option.some.injEq,Prod.mk.injEq] at hp
     obtain ⟨rfl,rfl⟩:=hp
     have hl:i' < H.length:=by
       rcases Nat.lt_or_ge i' H.length with hl | hl
       · exact hl
       · rw [List.getElem?_eq_none hl] at hf; cases hf
     refine ⟨h.fresh _ hf,fun j hj=>List.getElem?_set_ne (Ne.symm hj),by simp [hl],by simp,fun j hj=>?_⟩
     simp at hj; omega
   · cases hp
theorem WR.alloc {w0:World} {Pr:Nat->Prop} {φ:Env} {H:AH} {w:World} (h:WR w0 Pr φ H w) {slot:Option Nat} {o:AObj} {i:Nat} {H':AH}
   (hp:put slot H o=some (i,H')) (ob:Obj) (z:Nat)
   (ho:OR (φ.set i (w.heap.size,0,z)) { w with heap:=w.heap.push ob } i o) (hown:o.owned=true) :
   φ.le (φ.set i (w.heap.size,0,z))/\WR w0 Pr (φ.set i (w.heap.size,0,z)) H' { w with heap:=w.heap.push ob }:=by
 obtain ⟨hn,hne,hi,hlen,hdom⟩:=put_spec h hp
 have hle:=Env.le_set (w.heap.size,0,z) hn
 have hown':∀ j,Owned H' j->j≠i->Owned H j:=fun j ⟨o,ho,hw⟩ hj=>⟨o,by rw [<-hne j hj]; exact ho,hw⟩
 have hbl:∀ b,b < w.heap.size->(w.heap.push ob)[b]? =w.heap[b]?:=fun b hb=>by
   rw [Array.getElem?_push,if_neg (by omega)]
 refine ⟨hle,⟨fun j hj=>?_,fun j hj=>?_,fun j x hx=>?_,fun j k x y hj hk hx hy e=>?_,fun j x hj hx=>?_,fun j x cs hj hx=>?_,fun j o' hj=>?_,h.prLt,?_,h.os,h.tape,h.output,fun b hb=>?_⟩⟩
 · obtain ⟨h1,h2⟩:=hdom j hj
   rw [Env.set_ne _ _ h2]; exact h.dom j h1
 · have hji:j≠i:=by rintro rfl; rw [hi] at hj; cases hj; cases hown
   rw [Env.set_ne _ _ hji]
   exact h.fresh j (by rw [<-hne j hji]; exact hj)
 · by_cases e:j=i
   · subst e; rw [Env.set_self] at hx; cases hx; simp
   · rw [Env.set_ne _ _ e] at hx
     have:=h.lt j x hx
     simp; omega
 · by_cases ej:j=i <;> by_cases ek:k=i
   · rw [ej,ek]
   · subst ej; rw [Env.set_self] at hx; rw [Env.set_ne _ _ ek] at hy; cases hx
     have:=h.lt k y hy; simp only at e; omega
   · subst ek; rw [Env.set_self] at hy; rw [Env.set_ne _ _ ej] at hx; cases hy
     have:=h.lt j x hx; simp only at e; omega
   · rw [Env.set_ne _ _ ej] at hx; rw [Env.set_ne _ _ ek] at hy
     exact h.inj j k x y (hown' j hj ej) (hown' k hk ek) hx hy e
 · by_cases ej:j=i
   · subst ej; rw [Env.set_self] at hx; cases hx
     intro hb; have:=h.prLt _ hb; have:=h.size; simp only at *; omega
   · rw [Env.set_ne _ _ ej] at hx
     exact h.own j x (hown' j hj ej) hx
 · have hji:j≠i:=by rintro rfl; rw [hi] at hj; cases hj; cases hown
   rw [Env.set_ne _ _ hji] at hx
   exact h.argP j x cs (by rw [<-hne j hji]; exact hj) hx
 · by_cases ej:j=i
   · subst ej; rw [hi] at hj; cases hj; exact ho
   · rw [hne j ej] at hj
     exact (h.obj j o' hj).keep hle fun x hx=>hbl _ (h.lt j x hx)
 · have:=h.size; simp; omega
 · show (w.heap.push ob)[b]? =_
   rw [hbl b (by have:=h.prLt b hb; have:=h.size; omega)]
   exact h.old b hb
theorem WR.rewrite {w0:World} {Pr:Nat->Prop} {φ:Env} {H:AH} {w w':World} (h:WR w0 Pr φ H w) {i:Nat} {o o':AObj} {b off z:Nat}
   (hi:H[i]? =some o) (hown:o.owned=true) (hown':o'.owned=true) (hφ:φ i=some (b,off,z))
   (hsz:w'.heap.size=w.heap.size) (hos:w'.os=w.os) (htp:w'.tape=w.tape) (hout:w'.output=w.output)
   (hne:∀ c,c≠b->w'.heap[c]? =w.heap[c]?) (ho:OR φ w' i o'):WR w0 Pr φ (H.set i o') w':=by
 have hl:i < H.length:=by
   rcases Nat.lt_or_ge i H.length with hl | hl
   · exact hl
   · rw [List.getElem?_eq_none hl] at hi; cases hi
 have hO:∀ j,Owned (H.set i o') j->Owned H j:=fun j ⟨q,hq,hw⟩=>by
   by_cases e:j=i
   · subst e; exact ⟨o,hi,hown⟩
   · rw [List.getElem?_set_ne (Ne.symm e)] at hq; exact ⟨q,hq,hw⟩
 have hOi:Owned H i:=⟨o,hi,hown⟩
 refine ⟨fun j hj=>h.dom j (by simpa using hj),fun j hj=>?_,fun j x hx=>by rw [hsz]; exact h.lt j x hx,fun j k x y hj hk=>h.inj j k x y (hO j hj) (hO k hk),fun j x hj=>h.own j x (hO j hj),fun j x cs hj hx=>?_,fun j q hj=>?_,h.prLt,by rw [hsz]; exact h.size,hos.trans h.os,htp.trans h.tape,hout.trans h.output,fun c hc=>?_⟩
 · by_cases e:j=i
   · subst e; simp [hl] at hj; subst hj; cases hown'
   · rw [List.getElem?_set_ne (Ne.symm e)] at hj; exact h.fresh j hj
 · by_cases e:j=i
   · subst e; simp [hl] at hj; subst hj; cases hown'
   · rw [List.getElem?_set_ne (Ne.symm e)] at hj; exact h.argP j x cs hj hx
 · by_cases e:j=i
   · subst e; simp [hl] at hj; subst hj; exact ho
   · rw [List.getElem?_set_ne (Ne.symm e)] at hj
     have hk:=h.obj j q hj
     have go:(∀ x,φ j=some x->x.1≠b)->OR φ w' j q:=fun g=>hk.keep (Env.le_refl φ) fun x hx=>hne _ (g x hx)
     cases q with
     | fresh=>trivial
     | dead=>trivial
     | arg cs=>exact go fun x hx hxb=>h.own i _ hOi hφ (by rw [<-hxb]; exact h.argP j x cs hj hx)
     | cells cs e'=>exact go fun x hx hxb=>e (h.inj j i x _ ⟨_,hj,rfl⟩ hOi hx hφ hxb)
     | map es cl=>exact go fun x hx hxb=>e (h.inj j i x _ ⟨_,hj,rfl⟩ hOi hx hφ hxb)
     | strIter s p=>exact go fun x hx hxb=>e (h.inj j i x _ ⟨_,hj,rfl⟩ hOi hx hφ hxb)
 · rw [hne c (fun e=>h.own i _ hOi hφ (by subst e; exact hc))]
   exact h.old c hc
end Go.Dv
namespace Go.Dv
theorem lt_of_get {α:Type} {l:List α} {i:Nat} {o:α} (h:l[i]? =some o):i < l.length:=by
 rcases Nat.lt_or_ge i l.length with hl | hl
 · exact hl
 · rw [List.getElem?_eq_none hl] at h; cases h
def rdCells (H:AH) (i k n:Nat):Option (List AV):=
 match H[i]? with
 | some (.cells cs _)=>if k+n<=cs.length then some ((cs.drop k).take n) else none
 | some (.arg cs)=>if k+n<=cs.length then some ((cs.drop k).take n) else none
 | _=>none
section
variable {w0:World} {Pr:Nat->Prop} {φ:Env} {H:AH} {w:World}
theorem cellOf {b j:Nat} {c:Array Value} {e:TypeId} {fz:Nat × Nat} (h:w.heap[b]? =some (.cells c e fz)):w.cell? ⟨b,j,none⟩=c[j]?:=by
 simp [World.cell?,h]
theorem WR.cell_at (h:WR w0 Pr φ H w) {i b o z:Nat} (hφ:φ i=some (b,o,z)) {cs:List AV} (hi:(∃ e,H[i]? =some (.cells cs e))∨H[i]? =some (.arg cs))
   (j:Nat) (x:AV) (hj:cs[j]? =some x):∃ v,w.cell? ⟨b,o+j,none⟩=some v/\VR φ x v:=by
 rcases hi with ⟨e,hi⟩ | hi
 · obtain ⟨b',o',z',c,hφ',hc,_,_,hv⟩:=h.obj i _ hi
   rw [hφ] at hφ'; cases hφ'
   obtain ⟨u,hu,r⟩:=hv j x hj
   exact ⟨u,by rw [cellOf hc]; exact hu,r⟩
 · obtain ⟨b',o',z',hφ',hv⟩:=h.obj i _ hi
   rw [hφ] at hφ'; cases hφ'
   exact hv j x hj
theorem WR.read (h:WR w0 Pr φ H w) {i b o z:Nat} (hφ:φ i=some (b,o,z)) {k n:Nat} {xs:List AV} (hr:rdCells H i k n=some xs) :
   ∃ vs:List Value,VRs φ xs vs/\vs.length=n/\∀ j v,vs[j]? =some v->w.cell? ⟨b,o+k+j,none⟩=some v:=by
 have key:∀ cs:List AV,((∃ e,H[i]? =some (.cells cs e))∨H[i]? =some (.arg cs))->k+n<=cs.length ->
     ∃ vs:List Value,VRs φ ((cs.drop k).take n) vs/\vs.length=n/\∀ j v,vs[j]? =some v->w.cell? ⟨b,o+k+j,none⟩=some v:=by
   intro cs hi hle
   have hx:∀ j,j < n->∃ v,w.cell? ⟨b,o+k+j,none⟩=some v/\∀ x,cs[k+j]? =some x->VR φ x v:=fun j hj=>by
     have hl:k+j < cs.length:=by omega
     obtain ⟨v,hv,r⟩:=h.cell_at hφ hi (k+j) _ (List.getElem?_eq_getElem hl)
     refine ⟨v,by rw [show o+k+j=o+(k+j) by omega]; exact hv,fun x hx=>?_⟩
     rw [List.getElem?_eq_getElem hl] at hx; cases hx; exact r
   refine ⟨(List.range n).map fun j=>(w.cell? ⟨b,o+k+j,none⟩).getD undef,.of_get (by simp; omega) fun j x v hxj hvj=>?_,by simp,fun j v hvj=>?_⟩
   · rw [List.getElem?_take] at hxj
     split at hxj
     · rename_i hjn
       obtain ⟨u,hu,r⟩:=hx j hjn
       rw [List.getElem?_drop] at hxj
       simp [hjn,hu] at hvj
       subst hvj; exact r x hxj
     · cases hxj
   · have hjn:j < n:=by simpa using lt_of_get hvj
     obtain ⟨u,hu,_⟩:=hx j hjn
     simp [hjn,hu] at hvj
     subst hvj; exact hu
 unfold rdCells at hr
 split at hr
 · rename_i cs e hi
   split at hr
   · rename_i hle; cases hr; exact key cs (.inl ⟨e,hi⟩) hle
   · cases hr
 · rename_i cs hi
   split at hr
   · rename_i hle; cases hr; exact key cs (.inr hi) hle
   · cases hr
 · cases hr
def AV.one:AV->Bool
 | .agg _ | .tuple _=>false
 | _=>true
theorem one_spec {x:AV} {v:Value} (h:x.one=true) (r:VR φ x v):v.oneCell'=true:=by
 cases x <;> simp only [AV.one] at h <;> try (cases h; done)
 case func=>obtain ⟨_,_,rfl,_⟩:=r; rfl
 case iface=>obtain ⟨_,rfl,_⟩:=r; rfl
 case ptr=>obtain ⟨_,_,_,_,rfl⟩:=r; rfl
 case slice=>obtain ⟨_,_,rfl,_⟩:=r; rfl
 case junk=>exact r.1
 case map=>obtain ⟨_,_,_,rfl⟩:=r; rfl
 all_goals (simp only [VR] at r; subst r; rfl)
def spl:List AV->Nat->List AV->List AV
 | cs,_,[]=>cs
 | cs,k,v::vs=>spl (cs.set k v) (k+1) vs
theorem spl_length:∀ (vs cs:List AV) (k:Nat),(spl cs k vs).length=cs.length
 | [],_,_=>rfl
 | v::vs,cs,k=>by rw [spl,spl_length vs]; simp
def wrCells (H:AH) (i k:Nat) (vs:List AV):Option AH:=
 match H[i]? with
 | some (.cells cs e)=>if k+vs.length<=cs.length/\vs.all AV.one=true then some (H.set i (.cells (spl cs k vs) e)) else none
 | _=>none
theorem run_store_at {P:Program} {b j:Nat} {c:Array Value} {e:TypeId} (h:w.heap[b]? =some (.cells c e (0,0))) {v:Value} (hv:v.oneCell'=true) (hj:j < c.size) (m:Go.Mode) :
   (store ⟨b,j,none⟩ v m).run P w=.ok () (w.setCell ⟨b,j,none⟩ v):=by
 have hc:w.cell? ⟨b,j,none⟩=some c[j]:=by rw [cellOf h]; exact Array.getElem?_eq_getElem hj
 have hf:w.frozen? ⟨b,j,none⟩=false:=by simp [World.frozen?,h]
 cases v <;> first | (simp [Value.oneCell'] at hv; done) | simp [store,Sem.run,hc,hf]
theorem WR.store1 (h:WR w0 Pr φ H w) {P:Program} {i b o z:Nat} (hφ:φ i=some (b,o,z)) {cs:List AV} {e:TypeId} (hi:H[i]? =some (.cells cs e))
   {k:Nat} (hk:k < cs.length) {x:AV} {v:Value} (r:VR φ x v) (h1:x.one=true) (m:Go.Mode) :
   (store ⟨b,o+k,none⟩ v m).run P w=.ok () (w.setCell ⟨b,o+k,none⟩ v)/\WR w0 Pr φ (H.set i (.cells (cs.set k x) e)) (w.setCell ⟨b,o+k,none⟩ v):=by
 obtain ⟨b',o',z',c,hφ',hc,hz,hl,hv⟩:=h.obj i _ hi
 rw [hφ] at hφ'; cases hφ'
 have hheap:(w.setCell ⟨b,o+k,none⟩ v).heap[b]? =some (.cells (c.setIfInBounds (o+k) v) e (0,0)):=by
   simp [World.setCell,Array.getElem?_modify,hc]
 refine ⟨run_store_at hc (one_spec h1 r) (by omega) m,h.rewrite hi rfl rfl hφ (by simp [World.setCell]) rfl rfl rfl (fun d hd=>?_) ⟨b,o,z,_,hφ,hheap,by simpa using hz,by simpa using hl,fun j y hj=>?_⟩⟩
 · simp only [World.setCell,Array.getElem?_modify]
   rw [if_neg (fun e=>hd e.symm)]
 · rw [List.getElem?_set] at hj
   split at hj
   · rename_i hkj; subst hkj
     simp [hk] at hj; subst hj
     exact ⟨v,by rw [Array.getElem?_setIfInBounds]; simp; omega,r⟩
   · rename_i hkj
     obtain ⟨u,hu,r'⟩:=hv j y hj
     exact ⟨u,by rw [Array.getElem?_setIfInBounds,if_neg (by omega)]; exact hu,r'⟩
theorem add_none (b o n:Nat):(⟨b,o,none⟩:Addr).add n=⟨b,o+n,none⟩:=by
 unfold Addr.add; split <;> simp_all
theorem WR.stores {P:Program} {i b o z:Nat} (hφ:φ i=some (b,o,z)) {e:TypeId}:∀ (xs:List AV) (vs:List Value) (cs:List AV) (H:AH) (w:World) (k o' n:Nat),
   WR w0 Pr φ H w->H[i]? =some (.cells cs e)->k+xs.length<=cs.length->xs.all AV.one=true->VRs φ xs vs->o' + n=o+k ->
   ∃ w',(storeCells ⟨b,o',none⟩ vs n).run P w=.ok () w'/\WR w0 Pr φ (H.set i (.cells (spl cs k xs) e)) w'
 | [],vs,cs,H,w,k,o',n,h,hi,hk,h1,r,ho=>by
   rw [show vs=[] from r]
   refine ⟨w,rfl,?_⟩
   have:H.set i (.cells cs e)=H:=by
     apply List.ext_getElem?; intro j
     rw [List.getElem?_set]
     split
     · rename_i hij; subst hij; rw [hi]; simp [lt_of_get hi]
     · rfl
   simp only [spl,this]; exact h
 | x::xs,vs,cs,H,w,k,o',n,h,hi,hk,h1,⟨v,vs',hvs,rx,rs⟩,ho=>by
   subst hvs
   simp only [List.length_cons] at hk
   simp only [List.all_cons,Bool.and_eq_true] at h1
   obtain ⟨hst,hW⟩:=h.store1 (P:=P) hφ hi (k:=k) (by omega) rx h1.1 .plain
   have hil:i < H.length:=lt_of_get hi
   obtain ⟨w',hw',hW'⟩:=WR.stores (P:=P) hφ xs vs' (cs.set k x) _ _ (k+1) o' (n+1) hW (show (H.set i (.cells (cs.set k x) e))[i]? =some (.cells (cs.set k x) e) by simp [hil]) (by simp; omega) h1.2 rs (by omega)
   refine ⟨w',?_,?_⟩
   · simp only [storeCells,Sem.run_bind,add_none,ho,hst,Result.andThen_ok,hw']
   · simpa [spl,List.set_set] using hW'
theorem WR.drew (h:WR w0 Pr φ H w) (n:Nat):WR w0 Pr φ H { w with drawn:=n }:=
 ⟨h.dom,h.fresh,h.lt,h.inj,h.own,h.argP,fun i o hi=>(h.obj i o hi).keep (Env.le_refl φ) fun _ _=>rfl,h.prLt,h.size,h.os,h.tape,h.output,h.old⟩
theorem WR.kill (h:WR w0 Pr φ H w) {i:Nat}:WR w0 Pr φ (H.set i .dead) w:=by
 have hO:∀ j,Owned (H.set i .dead) j->Owned H j/\j≠i:=fun j ⟨q,hq,hw⟩=>by
   by_cases e:j=i
   · subst e
     rw [List.getElem?_set] at hq; simp only [if_true] at hq
     split at hq
     · cases hq; cases hw
     · cases hq
   · rw [List.getElem?_set_ne (Ne.symm e)] at hq; exact ⟨⟨q,hq,hw⟩,e⟩
 have hG:∀ {j:Nat} {q:AObj},(H.set i .dead)[j]? =some q->q=.dead∨H[j]? =some q:=fun {j q} hq=>by
   by_cases e:j=i
   · subst e
     rw [List.getElem?_set] at hq; simp only [if_true] at hq
     split at hq
     · cases hq; exact .inl rfl
     · cases hq
   · rw [List.getElem?_set_ne (Ne.symm e)] at hq; exact .inr hq
 refine ⟨fun j hj=>h.dom j (by simpa using hj),fun j hj=>?_,h.lt,fun j k x y hj hk=>h.inj j k x y (hO j hj).1 (hO k hk).1,fun j x hj=>h.own j x (hO j hj).1,fun j x cs hj hx=>?_,fun j q hj=>?_,h.prLt,h.size,h.os,h.tape,h.output,h.old⟩
 · rcases hG hj with e | e
   · cases e
   · exact h.fresh j e
 · rcases hG hj with e | e
   · cases e
   · exact h.argP j x cs e hx
 · rcases hG hj with e | e
   · subst e; trivial
   · exact h.obj j q e
theorem WR.turn {w':World} (h:WR w0 Pr φ H w) {b:Nat} (hb:¬ Pr b) (hno:∀ i x,Owned H i->φ i=some x->x.1≠b)
   (hsz:w'.heap.size=w.heap.size) (hos:w'.os=w.os) (htp:w'.tape=w.tape) (hout:w'.output=w.output)
   (hne:∀ c,c≠b->w'.heap[c]? =w.heap[c]?):WR w0 Pr φ H w':=by
 refine ⟨h.dom,h.fresh,fun i x hx=>by rw [hsz]; exact h.lt i x hx,h.inj,h.own,h.argP,fun i o hi=>?_,h.prLt,by rw [hsz]; exact h.size,hos.trans h.os,htp.trans h.tape,hout.trans h.output,fun c hc=>?_⟩
 · have hk:=h.obj i o hi
   cases o with
   | fresh=>trivial
   | dead=>trivial
   | arg cs=>exact hk.keep (Env.le_refl φ) fun x hx=>hne _ fun e=>hb (e ▸ h.argP i x cs hi hx)
   | cells cs e'=>exact hk.keep (Env.le_refl φ) fun x hx=>hne _ (hno i x ⟨_,hi,rfl⟩ hx)
   | map es cl=>exact hk.keep (Env.le_refl φ) fun x hx=>hne _ (hno i x ⟨_,hi,rfl⟩ hx)
   | strIter s p=>exact hk.keep (Env.le_refl φ) fun x hx=>hne _ (hno i x ⟨_,hi,rfl⟩ hx)
 · rw [hne c (fun e=>hb (e ▸ hc))]; exact h.old c hc
theorem WR.adopt (h:WR w0 Pr φ H w) {slot:Option Nat} {o:AObj} {i:Nat} {H':AH}
   (hp:put slot H o=some (i,H')) {b off z:Nat} (hb:b < w.heap.size) (hPr:¬ Pr b) (hno:∀ i x,Owned H i->φ i=some x->x.1≠b)
   (ho:OR (φ.set i (b,off,z)) w i o) (hown:o.owned=true) :
   φ.le (φ.set i (b,off,z))/\WR w0 Pr (φ.set i (b,off,z)) H' w:=by
 obtain ⟨hn,hne,hi,hlen,hdom⟩:=put_spec h hp
 have hle:=Env.le_set (b,off,z) hn
 have hown':∀ j,Owned H' j->j≠i->Owned H j:=fun j ⟨o,ho,hw⟩ hj=>⟨o,by rw [<-hne j hj]; exact ho,hw⟩
 refine ⟨hle,⟨fun j hj=>?_,fun j hj=>?_,fun j x hx=>?_,fun j k x y hj hk hx hy e=>?_,fun j x hj hx=>?_,fun j x cs hj hx=>?_,fun j o' hj=>?_,h.prLt,h.size,h.os,h.tape,h.output,h.old⟩⟩
 · obtain ⟨h1,h2⟩:=hdom j hj
   rw [Env.set_ne _ _ h2]; exact h.dom j h1
 · have hji:j≠i:=by rintro rfl; rw [hi] at hj; cases hj; cases hown
   rw [Env.set_ne _ _ hji]
   exact h.fresh j (by rw [<-hne j hji]; exact hj)
 · by_cases e:j=i
   · subst e; rw [Env.set_self] at hx; cases hx; exact hb
   · rw [Env.set_ne _ _ e] at hx; exact h.lt j x hx
 · by_cases ej:j=i <;> by_cases ek:k=i
   · rw [ej,ek]
   · subst ej; rw [Env.set_self] at hx; rw [Env.set_ne _ _ ek] at hy; cases hx
     exact absurd e.symm (hno k y (hown' k hk ek) hy)
   · subst ek; rw [Env.set_self] at hy; rw [Env.set_ne _ _ ej] at hx; cases hy
     exact absurd e (hno j x (hown' j hj ej) hx)
   · rw [Env.set_ne _ _ ej] at hx; rw [Env.set_ne _ _ ek] at hy
     exact h.inj j k x y (hown' j hj ej) (hown' k hk ek) hx hy e
 · by_cases ej:j=i
   · subst ej; rw [Env.set_self] at hx; cases hx; exact hPr
   · rw [Env.set_ne _ _ ej] at hx; exact h.own j x (hown' j hj ej) hx
 · have hji:j≠i:=by rintro rfl; rw [hi] at hj; cases hj; cases hown
   rw [Env.set_ne _ _ hji] at hx
   exact h.argP j x cs (by rw [<-hne j hji]; exact hj) hx
 · by_cases ej:j=i
   · subst ej; rw [hi] at hj; cases hj; exact ho
   · rw [hne j ej] at hj
     exact (h.obj j o' hj).keep hle fun x hx=>rfl
theorem setCells_heap:∀ (vs:List Value) (w:World) (b o:Nat) (c:Array Value) (e:TypeId),w.heap[b]? =some (.cells c e (0,0))->o+vs.length<=c.size ->
   ∃ c':Array Value,(w.setCells b o vs).heap[b]? =some (.cells c' e (0,0))/\c'.size=c.size/\(∀ j,j < o->c'[j]? =c[j]?)/\(∀ j v,vs[j]? =some v->c'[o+j]? =some v)
 | [],w,b,o,c,e,h,_=>⟨c,h,rfl,fun _ _=>rfl,fun j v hj=>by simp at hj⟩
 | v::vs,w,b,o,c,e,h,hl=>by
   simp only [List.length_cons] at hl
   have h1:(w.setCell ⟨b,o,none⟩ v).heap[b]? =some (.cells (c.setIfInBounds o v) e (0,0)):=by simp [World.setCell,Array.getElem?_modify,h]
   obtain ⟨c',hc',hs,hlo,hin⟩:=setCells_heap vs (w.setCell ⟨b,o,none⟩ v) b (o+1) _ e h1 (by simp; omega)
   refine ⟨c',hc',by simpa using hs,fun j hj=>?_,fun j u hj=>?_⟩
   · rw [hlo j (by omega),Array.getElem?_setIfInBounds,if_neg (by omega)]
   · cases j with
     | zero =>
       simp at hj; subst hj
       rw [Nat.add_zero,hlo o (by omega),Array.getElem?_setIfInBounds,if_pos rfl,if_pos (by omega)]
     | succ j=>rw [show o+(j+1)=o+1+j by omega]; exact hin j u (by simpa using hj)
theorem setCells_frame:∀ (vs:List Value) (w:World) (b o:Nat),(w.setCells b o vs).heap.size=w.heap.size/\(w.setCells b o vs).os=w.os/\(w.setCells b o vs).tape=w.tape /\
   (w.setCells b o vs).output=w.output/\∀ c,c≠b->(w.setCells b o vs).heap[c]? =w.heap[c]?
 | [],_,_,_=>⟨rfl,rfl,rfl,rfl,fun _ _=>rfl⟩
 | v::vs,w,b,o=>by
   obtain ⟨h1,h2,h3,h4,h5⟩:=setCells_frame vs (w.setCell ⟨b,o,none⟩ v) b (o+1)
   refine ⟨h1.trans (by simp [World.setCell]),h2,h3,h4,fun c hc=>(h5 c hc).trans ?_⟩
   simp only [World.setCell,Array.getElem?_modify]
   rw [if_neg (fun e=>hc e.symm)]
end
end Go.Dv
namespace Go.Dv
inductive ANext where
 | val (v:AV)
 | skip
 | enter (f:FuncId) (args:List AV)
 deriving Inhabited
def pureRun {α:Type} (p:Program):Sem α->Option α
 | .pure a=>some a
 | .program k=>pureRun p (k p)
 | _=>none
theorem pureRun_spec {α:Type} {p:Program}:∀ (e:Sem α) (a:α),pureRun p e=some a->∀ w,e.run p w=.ok a w
 | .pure a,b,h,w=>by simp only [pureRun,Option.some.injEq] at h; subst h; rfl
 | .program k,b,h,w=>by simp only [pureRun] at h; exact pureRun_spec (k p) b h w
 | .load ..,_,h,_ | .store ..,_,h,_ | .new ..,_,h,_ | .shape ..,_,h,_ | .freeze ..,_,h,_ | .frozen ..,_,h,_
 | .getObj ..,_,h,_ | .setObj ..,_,h,_ | .choose ..,_,h,_ | .sys ..,_,h,_ | .mark ..,_,h,_ | .halt ..,_,h,_=>by simp [pureRun] at h
def Fits (φ:Env) (w':World):ANext->Result Next->Prop
 | .val v,r=>∃ u,r=.ok (.value u) w'/\VR φ v u
 | .skip,r=>r=.ok .skip w'
 | .enter f args,r=>∃ us:Array Value,r=.ok (.enter f us) w'/\VRs φ args us.toList
section
variable {P:Program} {w0:World} {Pr:Nat->Prop} {φ:Env} {H:AH} {w:World}
theorem run_und {t:TypeId} {d:TypeDesc} (h:P.underlying t=some d):(underlying t).run P w=.ok d w:=by simp [underlying,h]
theorem run_info {t:TypeId} {d:TypeInfo} (h:P.info? t=some d):(typeInfo t).run P w=.ok d w:=by simp [typeInfo,h]
theorem info_of_und {t:TypeId} {d:TypeDesc} (h:P.underlying t=some d):∃ i,P.info? t=some i:=by
 unfold Program.underlying at h
 split at h <;> first | exact ⟨_,‹_›⟩ | cases h
theorem run_size {t:TypeId} {i:TypeInfo} (h:P.info? t=some i):(sizeOf t).run P w=.ok (P.cellsOf t) w:=by simp [sizeOf,typeInfo,h,Program.cellsOf]
theorem run_zero {t:TypeId} {i:TypeInfo} {z:Value} (h:P.info? t=some i) (hz:i.zero=some z):(zeroValue t).run P w=.ok z w:=by simp [zeroValue,typeInfo,h,hz]
def isAggA (P:Program) (t:TypeId):Option Bool:=
 match P.underlying t with
 | some (.struct _) | some (.array _ _)=>some true
 | some _=>some false
 | none=>none
theorem run_isAgg {t:TypeId} {b:Bool} (h:isAggA P t=some b):(isAgg t).run P w=.ok b w:=by
 unfold isAggA at h
 split at h
 · rename_i hu; cases h; simp [isAgg,underlying,hu]
 · rename_i hu; cases h; simp [isAgg,underlying,hu]
 · rename_i d h1 h2 hu
   cases h
   cases d <;> first | exact absurd rfl (h1 _) | exact absurd rfl (h2 _ _) | simp [isAgg,underlying,hu]
 · cases h
theorem isAgg_info {t:TypeId} {b:Bool} (h:isAggA P t=some b):∃ i,P.info? t=some i:=by
 unfold isAggA at h
 split at h <;> first | exact info_of_und ‹_› | cases h
def ldA (P:Program) (t:TypeId) (H:AH) (i k:Nat):Option AV:=
 match isAggA P t with
 | some true=>(rdCells H i k (P.cellsOf t)).map .agg
 | some false=>(rdCells H i k 1).bind (·.head?)
 | none=>none
theorem ldA_spec (h:WR w0 Pr φ H w) {t:TypeId} {i k b o z:Nat} {v:AV} (hφ:φ i=some (b,o,z)) (hl:ldA P t H i k=some v) :
   ∃ u,(loadVar t ⟨b,o+k,none⟩).run P w=.ok u w/\VR φ v u:=by
 unfold ldA at hl
 split at hl
 · rename_i ha
   simp only [Option.map_eq_some_iff] at hl
   obtain ⟨xs,hx,rfl⟩:=hl
   obtain ⟨vs,rs,hlen,hc⟩:=h.read hφ hx
   obtain ⟨ti,hti⟩:=isAgg_info ha
   refine ⟨.agg vs.toArray,?_,vs.toArray,rfl,by simpa using rs⟩
   have hrun:(loadCells ⟨b,o+k,none⟩ (P.cellsOf t)).run P w=.ok vs.toArray w:=by
     rw [<-hlen]
     exact run_loadCells_list w _ vs fun j v hj=>by rw [add_none]; exact hc j v hj
   simp only [loadVar,Sem.run_bind,run_isAgg ha,Result.andThen_ok,if_true,run_size hti,hrun,Sem.run_pure]
 · rename_i ha
   simp only [Option.bind_eq_some_iff] at hl
   obtain ⟨xs,hx,hv⟩:=hl
   obtain ⟨vs,rs,hlen,hc⟩:=h.read hφ hx
   match xs,vs,rs with
   | [],_,_=>simp at hv
   | x::xs,_,⟨u,us,e,r,_⟩ =>
     subst e; simp at hv; subst hv
     refine ⟨u,?_,r⟩
     have:=hc 0 u rfl
     simp only [loadVar,Sem.run_bind,run_isAgg ha,Result.andThen_ok,Bool.false_eq_true,if_false,run_load]
     rw [Nat.add_zero] at this
     rw [this]
 · cases hl
def stA (P:Program) (t:TypeId) (H:AH) (i k:Nat) (x:AV):Option AH:=
 match P.info? t with
 | some _=>if x.cells.length=P.cellsOf t then wrCells H i k x.cells else none
 | none=>none
theorem wrCells_spec (h:WR w0 Pr φ H w) {i k b o z o' n:Nat} {xs:List AV} {vs:List Value} {H':AH} (hφ:φ i=some (b,o,z)) (hw:wrCells H i k xs=some H') (r:VRs φ xs vs) (ho:o' + n=o+k) :
   ∃ w',(storeCells ⟨b,o',none⟩ vs n).run P w=.ok () w'/\WR w0 Pr φ H' w':=by
 unfold wrCells at hw
 split at hw
 · rename_i cs e hi
   split at hw
   · rename_i hk
     cases hw
     exact WR.stores hφ xs vs cs H w k o' n h hi hk.1 hk.2 r ho
   · cases hw
 · cases hw
theorem stA_spec (h:WR w0 Pr φ H w) {t:TypeId} {i k b o z:Nat} {x:AV} {v:Value} {H':AH} (hφ:φ i=some (b,o,z)) (hs:stA P t H i k x=some H') (r:VR φ x v) :
   ∃ w',(storeVar t ⟨b,o+k,none⟩ v).run P w=.ok () w'/\WR w0 Pr φ H' w':=by
 unfold stA at hs
 split at hs
 · rename_i ti hti
   split at hs
   · rename_i hlen
     obtain ⟨w',hw',hW⟩:=wrCells_spec (P:=P) h hφ hs r.cells (Nat.add_zero _)
     refine ⟨w',?_,hW⟩
     have hsz:v.cells.size=P.cellsOf t:=by rw [<-hlen,r.cells.length]; simp
     simp only [storeVar,Sem.run_bind,run_size hti,Result.andThen_ok,hsz,ne_eq,not_true,if_false,hw']
   · cases hs
 · cases hs
theorem new_spec (h:WR w0 Pr φ H w) {slot:Option Nat} {cs:List AV} {elem:TypeId} {i:Nat} {H':AH} (hp:put slot H (.cells cs elem)=some (i,H')) {vs:Array Value} (r:VRs φ cs vs.toList) :
   ∃ φ' w',φ.le φ'/\WR w0 Pr φ' H' w'/\(newRow elem vs).run P w=.ok ⟨w.heap.size,0,none⟩ w'/\φ' i=some (w.heap.size,0,vs.size):=by
 have hn:=(put_spec h hp).1
 obtain ⟨hle,hW⟩:=h.alloc hp (.cells vs elem) vs.size ⟨w.heap.size,0,vs.size,vs,Env.set_self _ _ _,by simp,rfl,by simp [r.length],fun j v hj=>by
   obtain ⟨u,hu,ru⟩:=r.get j v hj
   exact ⟨u,by simpa using hu,ru.mono (Env.le_set _ hn)⟩⟩ rfl
 exact ⟨_,_,hle,hW,by simp [newRow],Env.set_self _ _ _⟩
def zeroA (P:Program) (t:TypeId):Option AV:=((P.info? t).bind (·.zero)).bind (ofV 6)
theorem zeroA_spec {t:TypeId} {x:AV} (h:zeroA P t=some x) (φ:Env):∃ i z,P.info? t=some i/\i.zero=some z/\VR φ x z:=by
 simp only [zeroA,Option.bind_eq_some_iff] at h
 obtain ⟨z,⟨i,hi,hz⟩,hx⟩:=h
 exact ⟨i,z,hi,hz,ofV_spec _ _ _ hx⟩
end
end Go.Dv
