/- Part 05 of the walks (own work). -/
import Derived.Test.YtilpjnckfkjkbaaGreatDoorZ04
import Derived.StillTail
set_option maxRecDepth 100000
set_option maxHeartbeats 4000000
set_option linter.unusedSimpArgs false
set_option linter.unusedVariables false
namespace Go.Dv
mutual
theorem toV_VR {φ:Env}:∀ (x:AV) (v:Value),toV x=some v->VR φ x v
 | .int ..,v,h=>by simp only [toV,Option.some.injEq] at h; exact h.symm
 | .bool ..,v,h=>by simp only [toV,Option.some.injEq] at h; exact h.symm
 | .str ..,v,h=>by simp only [toV,Option.some.injEq] at h; exact h.symm
 | .nilPtr,v,h=>by simp only [toV,Option.some.injEq] at h; exact h.symm
 | .nilSlice,v,h=>by simp only [toV,Option.some.injEq] at h; exact h.symm
 | .nilMap,v,h=>by simp only [toV,Option.some.injEq] at h; exact h.symm
 | .nilFunc,v,h=>by simp only [toV,Option.some.injEq] at h; exact h.symm
 | .nilIface,v,h=>by simp only [toV,Option.some.injEq] at h; exact h.symm
 | .ptr ..,v,h=>by simp [toV] at h
 | .slice ..,v,h=>by simp [toV] at h
 | .map ..,v,h=>by simp [toV] at h
 | .junk,v,h=>by simp [toV] at h
 | .iface t x,v,h=>by
   simp only [toV,Option.map_eq_some_iff] at h
   obtain ⟨y,hy,rfl⟩:=h
   exact ⟨y,rfl,toV_VR x y hy⟩
 | .agg cs,v,h=>by
   simp only [toV,Option.map_eq_some_iff] at h
   obtain ⟨y,hy,rfl⟩:=h
   exact ⟨_,rfl,toVs_VR cs y hy⟩
 | .tuple cs,v,h=>by
   simp only [toV,Option.map_eq_some_iff] at h
   obtain ⟨y,hy,rfl⟩:=h
   exact ⟨_,rfl,toVs_VR cs y hy⟩
 | .func fn f c,v,h=>by
   simp only [toV,Option.bind_eq_some_iff,Option.map_eq_some_iff] at h
   obtain ⟨y,hy,z,hz,rfl⟩:=h
   exact ⟨_,_,rfl,toVs_VR f y hy,toVs_VR c z hz⟩
theorem toVs_VR {φ:Env}:∀ (xs:List AV) (l:List Value),toVs xs=some l->VRs φ xs l
 | [],l,h=>by simp only [toVs,Option.some.injEq] at h; exact h.symm
 | x::xs,l,h=>by
   simp only [toVs,Option.bind_eq_some_iff,Option.map_eq_some_iff] at h
   obtain ⟨y,hy,z,hz,rfl⟩:=h
   exact ⟨_,_,rfl,toV_VR x y hy,toVs_VR xs z hz⟩
end
theorem toV_env {φ ψ:Env} {x:AV} {u:Value} (h:(toV x).isSome=true) (r:VR φ x u):VR ψ x u:=by
 obtain ⟨v,hv⟩:=Option.isSome_iff_exists.1 h
 rw [toV_spec x v hv u r]
 exact toV_VR x v hv
theorem toVs_env {φ ψ:Env} {xs:List AV} {us:List Value} (h:(toVs xs).isSome=true) (r:VRs φ xs us):VRs ψ xs us:=by
 obtain ⟨v,hv⟩:=Option.isSome_iff_exists.1 h
 rw [toVs_spec xs v hv us r]
 exact toVs_VR xs v hv
theorem WR.start (w:World):WR w (fun b=>b < w.heap.size) (fun _=>none) [] w where
 dom:=fun _ _=>rfl
 fresh:=fun _ _=>rfl
 lt:=fun i x h=>by cases h
 inj:=fun i j x y hi hj hx=>by cases hx
 own:=fun i x hi hx=>by cases hx
 argP:=fun i x cs hi hx=>by cases hx
 obj:=fun i o h=>by simp at h
 prLt:=fun b h=>h
 size:=Nat.le_refl _
 os:=rfl
 tape:=rfl
 output:=rfl
 old:=fun _ _=>rfl
theorem WR.later {w0:World} {Pr:Nat->Prop} {φ:Env} {H:AH} {w w':World} (h:WR w0 Pr φ H w) (hs:w.heap.size<=w'.heap.size)
   (hb:∀ b,b < w.heap.size->w'.heap[b]? =w.heap[b]?) (hos:w'.os=w.os) (htp:w'.tape=w.tape) (hout:w'.output=w.output):WR w0 Pr φ H w' where
 dom:=h.dom
 fresh:=h.fresh
 lt:=fun i x hx=>Nat.lt_of_lt_of_le (h.lt i x hx) hs
 inj:=h.inj
 own:=h.own
 argP:=h.argP
 obj:=fun i o ho=>(h.obj i o ho).keep (Env.le_refl φ) fun x hx=>hb _ (h.lt i x hx)
 prLt:=h.prLt
 size:=Nat.le_trans h.size hs
 os:=hos.trans h.os
 tape:=htp.trans h.tape
 output:=hout.trans h.output
 old:=fun b hp=>(hb b (Nat.lt_of_lt_of_le (h.prLt b hp) h.size)).trans (h.old b hp)
def roO:AObj->AObj
 | .cells cs _=>.arg cs
 | .arg cs=>.arg cs
 | _=>.dead
def ro (H:AH):AH:=H.map roO
theorem ro_get {H:AH} {i:Nat} {o:AObj} (h:(ro H)[i]? =some o):∃ o',H[i]? =some o'/\o=roO o':=by
 simp only [ro,List.getElem?_map,Option.map_eq_some_iff] at h
 obtain ⟨o',h1,h2⟩:=h
 exact ⟨o',h1,h2.symm⟩
theorem ro_rd {H:AH} {i k n:Nat} {xs:List AV} (h:rdCells H i k n=some xs):rdCells (ro H) i k n=some xs:=by
 unfold rdCells at h ⊢
 simp only [ro,List.getElem?_map]
 cases hi:H[i]? with
 | none=>rw [hi] at h; exact h
 | some o =>
   rw [hi] at h
   cases o <;> simp only [Option.map_some,roO] at h ⊢ <;> first
     | exact h
     | (cases h; done)
theorem WR.reads {w0:World} {Pr:Nat->Prop} {φ:Env} {H:AH} {w:World} (h:WR w0 Pr φ H w):WR w (fun b=>b < w.heap.size) φ (ro H) w where
 dom:=fun i hi=>h.dom i (by simpa [ro] using hi)
 fresh:=fun i hi=>by
   obtain ⟨o,_,ho⟩:=ro_get hi
   cases o <;> cases ho
 lt:=h.lt
 inj:=fun i j x y ⟨o,hi,hw⟩=>by
   obtain ⟨o',_,rfl⟩:=ro_get hi
   cases o' <;> cases hw
 own:=fun i x ⟨o,hi,hw⟩=>by
   obtain ⟨o',_,rfl⟩:=ro_get hi
   cases o' <;> cases hw
 argP:=fun i x cs _ hx=>h.lt i x hx
 obj:=fun i o hi=>by
   obtain ⟨o',hi',rfl⟩:=ro_get hi
   have ho:=h.obj i o' hi'
   cases o' with
   | fresh=>trivial
   | dead=>trivial
   | map=>trivial
   | strIter=>trivial
   | arg cs=>exact ho
   | cells cs e =>
     obtain ⟨b,o,z,c,hφ,hb,hz,hl,hv⟩:=ho
     refine ⟨b,o,z,hφ,fun j v hj=>?_⟩
     obtain ⟨u,hu,r⟩:=hv j v hj
     refine ⟨u,?_,r⟩
     unfold World.cell?
     simp [hb,hu]
 prLt:=fun b h=>h
 size:=Nat.le_refl _
 os:=rfl
 tape:=rfl
 output:=rfl
 old:=fun _ _=>rfl
def okC (H:AH) (i:Nat):Bool:=match H[i]? with
 | some (.cells _ _) | some (.arg _)=>true
 | _=>false
def okM (H:AH) (i:Nat):Bool:=match H[i]? with
 | some (.map _ _)=>true
 | _=>false
mutual
def oldA (H:AH):AV->Bool
 | .ptr i _ | .slice i _ _ _ _ _=>okC H i
 | .map i=>okM H i
 | .func _ f c=>oldAs H f && oldAs H c
 | .iface _ x=>oldA H x
 | .agg l | .tuple l=>oldAs H l
 | .int .. | .bool .. | .str .. | .nilPtr | .nilSlice | .nilMap | .nilFunc | .nilIface | .junk=>true
def oldAs (H:AH):List AV->Bool
 | []=>true
 | x::xs=>oldA H x && oldAs H xs
end
theorem okC_env {w0:World} {Pr:Nat->Prop} {φ ψ:Env} {H:AH} {w:World} (hW:WR w0 Pr φ H w) (hle:φ.le ψ) {i:Nat} (h:okC H i=true):ψ i=φ i:=by
 unfold okC at h
 split at h
 · rename_i cs e hi
   obtain ⟨b,o,z,c,hp,_⟩:=hW.obj _ _ hi
   rw [hp,hle _ _ hp]
 · rename_i cs hi
   obtain ⟨b,o,z,hp,_⟩:=hW.obj _ _ hi
   rw [hp,hle _ _ hp]
 · cases h
theorem okM_env {w0:World} {Pr:Nat->Prop} {φ ψ:Env} {H:AH} {w:World} (hW:WR w0 Pr φ H w) (hle:φ.le ψ) {i:Nat} (h:okM H i=true):ψ i=φ i:=by
 unfold okM at h
 split at h
 · rename_i cs e hi
   obtain ⟨b,z,es,hp,_⟩:=hW.obj _ _ hi
   rw [hp,hle _ _ hp]
 · cases h
mutual
theorem old_env {w0:World} {Pr:Nat->Prop} {φ ψ:Env} {H:AH} {w:World} (hW:WR w0 Pr φ H w) (hle:φ.le ψ):∀ (x:AV) (u:Value),oldA H x=true->VR ψ x u->VR φ x u
 | .int ..,_,_,r=>r
 | .bool ..,_,_,r=>r
 | .str ..,_,_,r=>r
 | .nilPtr,_,_,r=>r
 | .nilSlice,_,_,r=>r
 | .nilMap,_,_,r=>r
 | .nilFunc,_,_,r=>r
 | .nilIface,_,_,r=>r
 | .junk,_,_,r=>r
 | .ptr i k,_,h,⟨b,o,z,e,r⟩=>⟨b,o,z,by rw [<-okC_env hW hle (by simpa only [oldA] using h)]; exact e,r⟩
 | .slice i k es len cap ex,_,h,⟨a,c,r,s,t,u⟩=>⟨a,c,r,s,t,u.imp id fun ⟨b,o,z,e,q⟩=>⟨b,o,z,by rw [<-okC_env hW hle (by simpa only [oldA] using h)]; exact e,q⟩⟩
 | .map i,_,h,⟨b,z,e,r⟩=>⟨b,z,by rw [<-okM_env hW hle (by simpa only [oldA] using h)]; exact e,r⟩
 | .func fn f c,_,h,⟨f',c',e,r,s⟩=>by
   simp only [oldA,Bool.and_eq_true] at h
   exact ⟨f',c',e,olds_env hW hle f _ h.1 r,olds_env hW hle c _ h.2 s⟩
 | .iface t x,_,h,⟨u,e,r⟩=>⟨u,e,old_env hW hle x _ (by simpa only [oldA] using h) r⟩
 | .agg l,_,h,⟨us,e,r⟩=>⟨us,e,olds_env hW hle l _ (by simpa only [oldA] using h) r⟩
 | .tuple l,_,h,⟨us,e,r⟩=>⟨us,e,olds_env hW hle l _ (by simpa only [oldA] using h) r⟩
theorem olds_env {w0:World} {Pr:Nat->Prop} {φ ψ:Env} {H:AH} {w:World} (hW:WR w0 Pr φ H w) (hle:φ.le ψ):∀ (xs:List AV) (l:List Value),oldAs H xs=true->VRs ψ xs l->VRs φ xs l
 | [],_,_,r=>r
 | x::xs,_,h,⟨u,us,e,r,s⟩=>by
   simp only [oldAs,Bool.and_eq_true] at h
   exact ⟨u,us,e,old_env hW hle x _ h.1 r,olds_env hW hle xs _ h.2 s⟩
end
def finA (b:Bool) (H:AH) (r:AV × AH):Option (AV × AH):=if b then (if oldA H r.1 then some (r.1,H) else none) else some r
theorem finA_same {H:AH} {r:AV × AH} {v:AV} {H':AH} (h:finA true H r=some (v,H')):H'=H:=by
 unfold finA at h
 rw [if_pos rfl] at h
 split at h
 · exact (Prod.mk.inj (Option.some.inj h)).2.symm
 · cases h
mutual
def AV.beq:AV->AV->Bool
 | .int k n,.int k' n'=>k == k' && n == n'
 | .bool b,.bool b'=>b == b'
 | .str s,.str s'=>decide (s=s')
 | .nilPtr,.nilPtr=>true
 | .ptr i k,.ptr i' k'=>i == i' && k == k'
 | .nilSlice,.nilSlice=>true
 | .slice i k es l c x,.slice i' k' es' l' c' x'=>i == i' && k == k' && es == es' && l == l' && c == c' && x == x'
 | .nilMap,.nilMap=>true
 | .map i,.map i'=>i == i'
 | .func fn f c,.func fn' f' c'=>decide (fn=fn') && AV.beqs f f' && AV.beqs c c'
 | .nilFunc,.nilFunc=>true
 | .iface t x,.iface t' x'=>t == t' && AV.beq x x'
 | .nilIface,.nilIface=>true
 | .agg cs,.agg cs'=>AV.beqs cs cs'
 | .tuple cs,.tuple cs'=>AV.beqs cs cs'
 | .junk,.junk=>true
 | _,_=>false
def AV.beqs:List AV->List AV->Bool
 | [],[]=>true
 | x::xs,y::ys=>AV.beq x y && AV.beqs xs ys
 | _,_=>false
end
mutual
theorem AV.beq_eq:∀ x y:AV,AV.beq x y=true->x=y
 | .int k n,y,h=>by cases y <;> simp_all [AV.beq]
 | .bool b,y,h=>by cases y <;> simp_all [AV.beq]
 | .str s,y,h=>by cases y <;> simp_all [AV.beq]
 | .nilPtr,y,h=>by cases y <;> simp_all [AV.beq]
 | .ptr i k,y,h=>by cases y <;> simp_all [AV.beq]
 | .nilSlice,y,h=>by cases y <;> simp_all [AV.beq]
 | .slice i k es l c x,y,h=>by cases y <;> simp_all [AV.beq]
 | .nilMap,y,h=>by cases y <;> simp_all [AV.beq]
 | .map i,y,h=>by cases y <;> simp_all [AV.beq]
 | .func fn f c,y,h=>by
   cases y <;> simp only [AV.beq,Bool.and_eq_true,decide_eq_true_eq,Bool.false_eq_true] at h
   rw [h.1.1,AV.beqs_eq f _ h.1.2,AV.beqs_eq c _ h.2]
 | .nilFunc,y,h=>by cases y <;> simp_all [AV.beq]
 | .iface t x,y,h=>by
   cases y <;> simp only [AV.beq,Bool.and_eq_true,beq_iff_eq,Bool.false_eq_true] at h
   rw [h.1,AV.beq_eq x _ h.2]
 | .nilIface,y,h=>by cases y <;> simp_all [AV.beq]
 | .junk,y,h=>by cases y <;> simp_all [AV.beq]
 | .agg cs,y,h=>by
   cases y <;> simp only [AV.beq,Bool.false_eq_true] at h
   rw [AV.beqs_eq cs _ h]
 | .tuple cs,y,h=>by
   cases y <;> simp only [AV.beq,Bool.false_eq_true] at h
   rw [AV.beqs_eq cs _ h]
theorem AV.beqs_eq:∀ xs ys:List AV,AV.beqs xs ys=true->xs=ys
 | [],[],_=>rfl
 | [],_::_,h=>by simp [AV.beqs] at h
 | _::_,[],h=>by simp [AV.beqs] at h
 | x::xs,y::ys,h=>by
   simp only [AV.beqs,Bool.and_eq_true] at h
   rw [AV.beq_eq x y h.1,AV.beqs_eq xs ys h.2]
end
mutual
theorem AV.beq_self:∀ x:AV,AV.beq x x=true
 | .int k n | .bool b | .str s | .nilPtr | .ptr i k | .nilSlice | .slice i k es l c x | .nilMap | .map i | .nilFunc | .nilIface | .junk=>by simp [AV.beq]
 | .func fn f c=>by simp [AV.beq,AV.beqs_self f,AV.beqs_self c]
 | .iface t x=>by simp [AV.beq,AV.beq_self x]
 | .agg cs=>by simp [AV.beq,AV.beqs_self cs]
 | .tuple cs=>by simp [AV.beq,AV.beqs_self cs]
theorem AV.beqs_self:∀ xs:List AV,AV.beqs xs xs=true
 | []=>rfl
 | x::xs=>by simp [AV.beqs,AV.beq_self x,AV.beqs_self xs]
end
def entBeq:List (AV × AV × Nat)->List (AV × AV × Nat)->Bool
 | [],[]=>true
 | (k,v,n)::es,(k',v',n')::es'=>AV.beq k k' && AV.beq v v' && n == n' && entBeq es es'
 | _,_=>false
theorem entBeq_eq:∀ es es',entBeq es es'=true->es=es'
 | [],[],_=>rfl
 | [],_::_,h=>by simp [entBeq] at h
 | _::_,[],h=>by simp [entBeq] at h
 | (k,v,n)::es,(k',v',n')::es',h=>by
   simp only [entBeq,Bool.and_eq_true,beq_iff_eq] at h
   rw [AV.beq_eq _ _ h.1.1.1,AV.beq_eq _ _ h.1.1.2,h.1.2,entBeq_eq _ _ h.2]
theorem entBeq_self:∀ es,entBeq es es=true
 | []=>rfl
 | (k,v,n)::es=>by simp [entBeq,AV.beq_self,entBeq_self es]
def AObj.beq:AObj->AObj->Bool
 | .fresh,.fresh=>true
 | .dead,.dead=>true
 | .cells cs e,.cells cs' e'=>AV.beqs cs cs' && e == e'
 | .arg cs,.arg cs'=>AV.beqs cs cs'
 | .map es c,.map es' c'=>entBeq es es' && c == c'
 | .strIter s p,.strIter s' p'=>decide (s=s') && p == p'
 | _,_=>false
theorem AObj.beq_eq (x y:AObj) (h:AObj.beq x y=true):x=y:=by
 cases x <;> cases y <;> simp only [AObj.beq,Bool.and_eq_true,beq_iff_eq,Bool.false_eq_true,decide_eq_true_eq] at h <;> first
   | rfl
   | (rw [AV.beqs_eq _ _ h.1,h.2])
   | (rw [AV.beqs_eq _ _ h])
   | (rw [entBeq_eq _ _ h.1,h.2])
   | (rw [h.1,h.2])
theorem AObj.beq_self (x:AObj):AObj.beq x x=true:=by
 cases x <;> simp [AObj.beq,AV.beqs_self,entBeq_self]
def heapBeq:AH->AH->Bool
 | [],[]=>true
 | x::xs,y::ys=>AObj.beq x y && heapBeq xs ys
 | _,_=>false
theorem heapBeq_eq:∀ xs ys,heapBeq xs ys=true->xs=ys
 | [],[],_=>rfl
 | [],_::_,h=>by simp [heapBeq] at h
 | _::_,[],h=>by simp [heapBeq] at h
 | x::xs,y::ys,h=>by
   simp only [heapBeq,Bool.and_eq_true] at h
   rw [AObj.beq_eq x y h.1,heapBeq_eq xs ys h.2]
theorem heapBeq_self:∀ xs,heapBeq xs xs=true
 | []=>rfl
 | x::xs=>by simp [heapBeq,AObj.beq_self,heapBeq_self xs]
abbrev St:=List AV × AH
def evalA (gl:GL) (tm:List AV):Operand->Option AV
 | .tmp t=>some (tm.getD t uA)
 | .const v=>ofV 6 v
 | .global g=>(gl g).map fun i=>.ptr i 0
 | .func f=>some (.func (.func f) [] [])
def putA (dst:Option Tmp) (v:AV) (tm:List AV):List AV:=
 match dst with
 | some d=>tm.set d v
 | none=>tm
def yieldedA (ops:Array Oper) (tm:List AV) (j:Nat):Option Bool:=
 match ((ops[j]?).bind (·.dst)).bind (tm[·]?) with
 | some (.bool b)=>some b
 | _=>none
def stepA (P:Program) (C:Cfg P) (call:CallF) (slot:Option Nat) (ops:Array Oper) (i:Nat) (s:St):Option St:=
 match ops[i]? with
 | none=>some s
 | some o =>
   if Region.wanted o (yieldedA ops s.1) then
     match aop P C slot (evalA C.gl s.1) o s.2 with
     | some (.val v,H')=>some (putA o.dst v s.1,H')
     | some (.skip,H')=>some (putA o.dst uA s.1,H')
     | some (.enter f args,H')=>(call f args H').map fun (v,H'')=>(putA o.dst v s.1,H'')
     | none=>none
   else some (putA o.dst uA s.1,s.2)
def runOps (P:Program) (C:Cfg P) (call:CallF) (ops:Array Oper):List Nat->St->Option St
 | [],s=>some s
 | i::is,s=>(stepA P C call none ops i s).bind fun s'=>runOps P C call ops is s'
def quietA (P:Program) (ev:Operand->Option AV) (o:Oper):Option AV:=
 match o.op with
 | .move x=>ev x
 | .assign x=>ev x
 | .pick c a b=>(ev c).bind fun cv=>match cv with
   | .bool true=>ev a
   | .bool false=>ev b
   | _=>none
 | .binOp op t x y _=>(ev x).bind fun xv=>(ev y).bind fun yv =>
   match xv,yv with
   | .int k a,.int k' b=>match (if k=k' then intBinA op k a b else none) with
     | some v=>some v
     | none=>(pureA P ev o).bind fun n=>match n with | .val v=>some v | _=>none
   | _,_=>match op,eqVG P t xv yv with
     | .eql,some r=>some (.bool r)
     | .neq,some r=>some (.bool (!r))
     | _,_=>(pureA P ev o).bind fun n=>match n with | .val v=>some v | _=>none
 | .unOp .. | .convert .. | .index .. | .typeAssert ..=>(pureA P ev o).bind fun n=>match n with | .val v=>some v | _=>none
 | .makeInterface t x=>(ev x).bind fun v=>match P.underlying t with
   | some (.interface _)=>none
   | some _=>some (.iface t v)
   | none=>none
 | .makeFunc fn first cap=>(evL ev first.toList).bind fun f=>(evL ev cap.toList).map fun c=>.func fn f c
 | .fieldAddr t x f=>(ev x).bind fun xv=>fieldAddrA P t xv f
 | .field t x f=>(ev x).bind fun xv=>fieldA P t xv f
 | .indexAddr t x ix=>(ev x).bind fun xv=>(ev ix).bind fun iv=>indexAddrA P t xv iv
 | .extract t ix=>(ev t).bind fun tv=>match tv with
   | .tuple vs=>vs[ix]?
   | _=>none
 | .nilCheck x=>(ev x).bind nilCheckA
 | _=>none
inductive Plan where
 | done
 | take (i:Nat) (p:Plan)
 | all (l:List (Nat × Plan))
 | join (p q:Plan)
 | rd (i:Nat) (p:Plan)
 deriving Inhabited
def isTake:Op->Bool
 | .move _ | .assign _ | .pick .. | .binOp .. | .unOp .. | .convert .. | .index .. | .makeInterface .. | .makeFunc .. | .fieldAddr .. | .field .. | .indexAddr .. | .extract .. | .nilCheck _=>true
 | _=>false
def isRead:Op->Bool
 | .load .. | .lookup ..=>true
 | .call c=>match c.callee with
   | .builtin .len=>true
   | _=>false
 | _=>false
def isGent (o:Op):Bool:=isTake o || isRead o || match o with
 | .alloc _ | .box .. | .buildSlice .. | .makeSlice .. | .makeMap _ none | .slice .. | .build ..=>true
 | _=>false
def depB (ops:Array Oper):Nat->Nat->Nat->Bool
 | 0,_,_=>false
 | n+1,j,i=>match ops[j]? with
   | some oj=>oj.after.any fun e=>Region.binds .any e && (e.on == i || depB ops n e.on i)
   | none=>false
def canRd (ops:Array Oper) (L:Array Bool) (i:Nat):Bool:=((ops[i]?).map fun o=>isRead o.op).getD false && Region.free .any ops L i &&
 (List.range ops.size).all fun j=>j == i || L.getD j true || ((ops[j]?).map fun o=>isGent o.op).getD true || depB ops ops.size j i
def canTake (ops:Array Oper) (listed:Array Bool) (i:Nat):Bool:=((ops[i]?).map fun o=>isTake o.op).getD false && Region.free .any ops listed i
mutual
def ends (ops:Array Oper):Plan->Nat->Array Bool->Option (Nat × Array Bool)
 | .done,n,L=>some (n,L)
 | .take i p,n,L=>match n with
   | 0=>none
   | n+1=>if (Region.ready .any ops L).contains i && canTake ops L i then ends ops p n (L.setIfInBounds i true) else none
 | .all l,n,L=>match n with
   | 0=>none
   | n+1=>if (l.map (·.1)) == Region.ready .any ops L && !l.isEmpty then endsL ops l n L none else none
 | .join p q,n,L=>(ends ops p n L).bind fun (n',L')=>ends ops q n' L'
 | .rd i p,n,L=>match n with
   | 0=>none
   | n+1=>if (Region.ready .any ops L).contains i && canRd ops L i then ends ops p n (L.setIfInBounds i true) else none
def endsL (ops:Array Oper):List (Nat × Plan)->Nat->Array Bool->Option (Nat × Array Bool)->Option (Nat × Array Bool)
 | [],_,_,r=>r
 | (i,p)::l,n,L,r=>(ends ops p n (L.setIfInBounds i true)).bind fun e=>match r with
   | none=>endsL ops l n L (some e)
   | some e0=>if e0.1 == e.1 && e0.2 == e.2 then endsL ops l n L (some e0) else none
end
def planOk (ops:Array Oper) (p:Plan):Bool:=match ends ops p ops.size (Array.replicate ops.size false) with
 | some (_,L)=>(Region.ready .any ops L).isEmpty
 | none=>false
theorem ends_done (ops:Array Oper) (n:Nat) (L:Array Bool):ends ops .done n L=some (n,L):=by unfold ends; rfl
theorem ends_join (ops:Array Oper) (p q:Plan) (n:Nat) (L:Array Bool):ends ops (.join p q) n L=(ends ops p n L).bind fun e=>ends ops q e.1 e.2:=by conv=>lhs; unfold ends
theorem ends_take0 (ops:Array Oper) (i:Nat) (p:Plan) (L:Array Bool):ends ops (.take i p) 0 L=none:=by unfold ends; rfl
theorem ends_take (ops:Array Oper) (i:Nat) (p:Plan) (n:Nat) (L:Array Bool):ends ops (.take i p) (n+1) L=if (Region.ready .any ops L).contains i && canTake ops L i then ends ops p n (L.setIfInBounds i true) else none:=by conv=>lhs; unfold ends
theorem ends_rd0 (ops:Array Oper) (i:Nat) (p:Plan) (L:Array Bool):ends ops (.rd i p) 0 L=none:=by unfold ends; rfl
theorem ends_rd (ops:Array Oper) (i:Nat) (p:Plan) (n:Nat) (L:Array Bool):ends ops (.rd i p) (n+1) L=if (Region.ready .any ops L).contains i && canRd ops L i then ends ops p n (L.setIfInBounds i true) else none:=by conv=>lhs; unfold ends
theorem ends_all0 (ops:Array Oper) (l:List (Nat × Plan)) (L:Array Bool):ends ops (.all l) 0 L=none:=by unfold ends; rfl
theorem ends_all (ops:Array Oper) (l:List (Nat × Plan)) (n:Nat) (L:Array Bool):ends ops (.all l) (n+1) L=if (l.map (·.1)) == Region.ready .any ops L && !l.isEmpty then endsL ops l n L none else none:=by conv=>lhs; unfold ends
theorem endsL_nil (ops:Array Oper) (n:Nat) (L:Array Bool) (r:Option (Nat × Array Bool)):endsL ops [] n L r=r:=by unfold endsL; rfl
theorem endsL_cons (ops:Array Oper) (i:Nat) (p:Plan) (l:List (Nat × Plan)) (n:Nat) (L:Array Bool) (r:Option (Nat × Array Bool)):endsL ops ((i,p)::l) n L r=(ends ops p n (L.setIfInBounds i true)).bind fun e=>match r with
   | none=>endsL ops l n L (some e)
   | some e0=>if e0.1 == e.1 && e0.2 == e.2 then endsL ops l n L (some e0) else none:=by conv=>lhs; unfold endsL
def stBeq (a b:St):Bool:=AV.beqs a.1 b.1 && heapBeq a.2 b.2
theorem stBeq_eq {a b:St} (h:stBeq a b=true):a=b:=by
 simp only [stBeq,Bool.and_eq_true] at h
 exact Prod.ext (AV.beqs_eq _ _ h.1) (heapBeq_eq _ _ h.2)
theorem stBeq_self (a:St):stBeq a a=true:=by simp [stBeq,AV.beqs_self,heapBeq_self]
def readA (P:Program) (ev:Operand->Option AV) (o:Oper) (H:AH):Option AV:=
 match o.op with
 | .load t a=>(ev a).bind fun av=>match av with
   | .ptr i k=>ldA P t H i k
   | _=>none
 | .lookup t m k ok=>(ev m).bind fun mv=>(ev k).bind fun kv=>lookupA P t mv kv ok H
 | .slice t x lo hi mx=>(ev x).bind fun xv=>(evO ev lo).bind fun l=>(evO ev hi).bind fun h=>(evO ev mx).bind fun m=>sliceA P t H xv l h m
 | .call c=>match c.callee with
   | .builtin .len=>(evL ev c.args.toList).bind fun as=>match as with
     | [x]=>(c.argTypes[0]?).bind fun t=>lenA P t H x
     | _=>none
   | _=>none
 | _=>quietA P ev o
mutual
def runPlan (P:Program) (C:Cfg P) (call:CallF) (base:Nat) (ops:Array Oper):Plan->St->Option St
 | .done,s=>some s
 | .take i p,s =>
   match ops[i]? with
   | none=>none
   | some o=>(if Region.wanted o (yieldedA ops s.1) then quietA P (evalA C.gl s.1) o else some uA).bind fun v =>
       runPlan P C call base ops p (putA o.dst v s.1,s.2)
 | .all l,s=>runAll P C call base ops l s none
 | .rd i p,s =>
   match ops[i]? with
   | none=>none
   | some o=>(if Region.wanted o (yieldedA ops s.1) then readA P (evalA C.gl s.1) o s.2 else some uA).bind fun v =>
       runPlan P C call base ops p (putA o.dst v s.1,s.2)
 | .join p q,s=>(runPlan P C call base ops p s).bind fun t=>runPlan P C call base ops q t
def runAll (P:Program) (C:Cfg P) (call:CallF) (base:Nat) (ops:Array Oper):List (Nat × Plan)->St->Option St->Option St
 | [],_,r=>r
 | (i,p)::l,s,r=>(stepA P C call (some (base+i)) ops i s).bind fun s'=>(runPlan P C call base ops p s').bind fun t =>
   match r with
   | none=>runAll P C call base ops l s (some t)
   | some t0=>if stBeq t0 t then runAll P C call base ops l s (some t0) else none
end
inductive AExit where
 | normal
 | exit (id:Nat)
 | ret
 deriving Inhabited
def loopA (f:St->Option (AExit × St)):Nat->St->Option (AExit × St)
 | 0,_=>none
 | n+1,s=>match f s with
   | some (.normal,s')=>loopA f n s'
   | r=>r
def allocates:Op->Bool
 | .alloc _ | .box .. | .buildSlice .. | .makeSlice .. | .makeMap ..=>true
 | .call { callee:=.builtin .append,.. }=>true
 | _=>false
def readsA (P:Program) (gl:GL) (ops:Array Oper):List Oper->St->Option St
 | [],s=>some s
 | o::os,s=>if Region.wanted o (yieldedA ops s.1) then (readA P (evalA gl s.1) o s.2).bind fun v=>readsA P gl ops os (putA o.dst v s.1,s.2) else readsA P gl ops os (putA o.dst uA s.1,s.2)
def calmA (P:Program) (C:Cfg P) (call:CallF) (ev:Operand->Option AV) (o:Oper) (H:AH):Option AV:=
 match o.op with
 | .call c=>match c.callee with
   | .builtin _=>readA P ev o H
   | _=>(callA P C none ev o c H).bind fun r=>match r with
     | (.enter f args,_)=>if C.reads f then (call f args H).map (·.1) else none
     | _=>none
 | _=>readA P ev o H
def calmsA (P:Program) (C:Cfg P) (call:CallF) (ops:Array Oper):List Oper->St->Option St
 | [],s=>some s
 | o::os,s=>if Region.wanted o (yieldedA ops s.1) then (calmA P C call (evalA C.gl s.1) o s.2).bind fun v=>calmsA P C call ops os (putA o.dst v s.1,s.2) else calmsA P C call ops os (putA o.dst uA s.1,s.2)
inductive Way where
 | plan (p:Plan)
 | reads
 | tail (n:Nat)
 | mix (p:Plan) (k:Nat)
 | known (p:Plan) (l:List (St × St))
 | calm
def wayOk (ops:Array Oper):Way->Bool
 | .plan p=>Region.noSelect ops && planOk ops p
 | .reads=>Region.lexB .any ops
 | .tail n=>Region.lexTailB .any ops.toList.toArray n
 | .mix _ _=>false
 | .known p _=>Region.noSelect ops && planOk ops p
 | .calm=>Region.lexB .any ops
def waySure (P:Program) (ops:Array Oper):Way->Prop
 | .known p l=>∀ e∈l,∀ (C:Cfg P) (call:CallF),runPlan P C call e.1.2.length ops p (e.1.1,if ops.any (allocates ·.op) then e.1.2++List.replicate ops.size .fresh else e.1.2)=some e.2
 | _=>True
def waysSure (P:Program) (pl:Nat->Option Way):Code->Prop
 | .region id ops true=>match pl id with
   | some p=>waySure P ops p
   | none=>True
 | .seq a b=>waysSure P pl a/\waysSure P pl b
 | .cond _ x y=>waysSure P pl x/\waysSure P pl y
 | .block _ b=>waysSure P pl b
 | .loop b=>waysSure P pl b
 | _=>True
def waysOk (pl:Nat->Option Way):Code->Bool
 | .region id ops true=>match pl id with
   | some p=>wayOk ops p
   | none=>true
 | .seq a b=>waysOk pl a && waysOk pl b
 | .cond _ x y=>waysOk pl x && waysOk pl y
 | .block _ b=>waysOk pl b
 | .loop b=>waysOk pl b
 | _=>true
structure Ways (P:Program) where
 pl:FuncId->Nat->Option Way
 ok:∀ f fn c,P.funcs[f]? =some fn->fn.body=some c->waysOk (pl f) c=true/\waysSure P (pl f) c
def evC (P:Program) (C:Cfg P) (call:CallF) (pl:Nat->Option Way) (n:Nat):Code->St->Option (AExit × St)
 | .skip,s=>some (.normal,s)
 | .region _ ops false,s=>(runOps P C call ops (List.range ops.size) s).map fun s'=>(.normal,s')
 | .region id ops true,s =>
   match pl id with
   | some (.plan p)=>(runPlan P C call s.2.length ops p (s.1,if ops.any (allocates ·.op) then s.2++List.replicate ops.size .fresh else s.2)).map fun s'=>(.normal,s')
   | some .reads=>(readsA P C.gl ops ops.toList s).map fun s'=>(.normal,s')
   | some (.tail k)=>(readsA P C.gl ops (ops.toList.take k) s).bind fun s1=>(runOps P C call ops (List.range' k (ops.toList.drop k).length) s1).map fun s'=>(.normal,s')
   | some (.mix p k)=>(runPlan P C call s.2.length ops p (s.1,if ops.any (allocates ·.op) then s.2++List.replicate ops.size .fresh else s.2)).bind fun s1=>(readsA P C.gl ops (ops.toList.drop k) s1).map fun s'=>(.normal,s')
   | some (.known _ l)=>(l.find? fun e=>stBeq e.1 s).map fun e=>(.normal,e.2)
   | some .calm=>(calmsA P C call ops ops.toList s).map fun s'=>(.normal,s')
   | none=>none
 | .seq a b,s=>match evC P C call pl n a s with
   | some (.normal,s')=>evC P C call pl n b s'
   | r=>r
 | .cond c x y,s=>match evalA C.gl s.1 c with
   | some (.bool true)=>evC P C call pl n x s
   | some (.bool false)=>evC P C call pl n y s
   | _=>none
 | .block id body,s=>match evC P C call pl n body s with
   | some (.exit id',s')=>if id'=id then some (.normal,s') else some (.exit id',s')
   | r=>r
 | .loop body,s=>loopA (fun s=>evC P C call pl n body s) n s
 | .exit id,s=>some (.exit id,s)
 | .ret,s=>some (.ret,s)
 | _,_=>none
def resultsA (P:Program) (tm:List AV) (H:AH):List ResultVar->Option (List AV)
 | []=>some []
 | .tmp t::rs=>(resultsA P tm H rs).map (tm.getD t uA::·)
 | .cell a t::rs=>match tm.getD a uA with
   | .ptr i k=>(ldA P t H i k).bind fun v=>(resultsA P tm H rs).map (v::·)
   | _=>none
def retA (P:Program) (fn:Func) (s:St):Option (AV × AH):=
 (resultsA P s.1 s.2 fn.results.toList).map fun vs=>(match vs with | [v]=>v | vs=>.tuple vs,s.2)
def evCall (P:Program) (C:Cfg P) (W:Ways P):Nat->CallF
 | 0,_,_,_=>none
 | n+1,f,args,H=>match C.orc f args H with
   | some r=>some r
   | none=>(P.funcs[f]?).bind fun fn=>fn.body.bind fun c =>
     match evC P C (evCall P C W n) (W.pl f) n c (args++List.replicate (fn.ntmps - args.length) uA,if C.reads f then ro H else H) with
     | some (.normal,s)=>(retA P fn s).bind (finA (C.reads f) H)
     | some (.ret,s)=>(retA P fn s).bind (finA (C.reads f) H)
     | _=>none
end Go.Dv
