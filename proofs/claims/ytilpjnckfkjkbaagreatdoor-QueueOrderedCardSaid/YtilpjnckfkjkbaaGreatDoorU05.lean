/- Part 05 of the walks (own work). -/
import Derived.Test.YtilpjnckfkjkbaaGreatDoorU04
import Derived.StillTail
open Bool renaming and_eq_true→az,false_eq_true→bK
open List renaming getElem?_map→aO,range→bp,replicate→au
open Nat renaming le_refl→aw,lt_of_lt_of_le→bF
open Option renaming bind_eq_some_iff→ae,isSome_iff_exists→zp,map_eq_some_iff→ah,map_some→cH
open Option.some renaming inj→aB,injEq→aU
set_option maxRecDepth 100000
set_option maxHeartbeats 4000000
set_option linter.unusedSimpArgs false
set_option linter.unusedVariables false
namespace Go.Dv
mutual
theorem AP {φ:Env}:∀ (x:AV) (v:Value),toV x=some v->VR φ x v
 | .int ..,v,h=>by simp only [toV,aU] at h; exact h.symm
 | .bool ..,v,h=>by simp only [toV,aU] at h; exact h.symm
 | .str ..,v,h=>by simp only [toV,aU] at h; exact h.symm
 | .nilPtr,v,h=>by simp only [toV,aU] at h; exact h.symm
 | .nilSlice,v,h=>by simp only [toV,aU] at h; exact h.symm
 | .nilMap,v,h=>by simp only [toV,aU] at h; exact h.symm
 | .nilFunc,v,h=>by simp only [toV,aU] at h; exact h.symm
 | .nilIface,v,h=>by simp only [toV,aU] at h; exact h.symm
 | .ptr ..,v,h=>by simp [toV] at h
 | .slice ..,v,h=>by simp [toV] at h
 | .map ..,v,h=>by simp [toV] at h
 | .junk,v,h=>by simp [toV] at h
 | .iface t x,v,h=>by
   simp only [toV,ah] at h
   obtain ⟨y,hy,rfl⟩:=h
   exact ⟨y,rfl,AP x y hy⟩
 | .agg cs,v,h=>by
   simp only [toV,ah] at h
   obtain ⟨y,hy,rfl⟩:=h
   exact ⟨_,rfl,qz cs y hy⟩
 | .tuple cs,v,h=>by
   simp only [toV,ah] at h
   obtain ⟨y,hy,rfl⟩:=h
   exact ⟨_,rfl,qz cs y hy⟩
 | .func fn f c,v,h=>by
   simp only [toV,ae,ah] at h
   obtain ⟨y,hy,z,hz,rfl⟩:=h
   exact ⟨_,_,rfl,qz f y hy,qz c z hz⟩
theorem qz {φ:Env}:∀ (xs:List AV) (l:List Value),uE xs=some l->VRs φ xs l
 | [],l,h=>by simp only [uE,aU] at h; exact h.symm
 | x::xs,l,h=>by
   simp only [uE,ae,ah] at h
   obtain ⟨y,hy,z,hz,rfl⟩:=h
   exact ⟨_,_,rfl,AP x y hy,qz xs z hz⟩
end
theorem AO {φ ψ:Env} {x:AV} {u:Value} (h:(toV x).isSome=true) (r:VR φ x u):VR ψ x u:=by obtain ⟨v,hv⟩:=zp.1 h;rw [jH x v hv u r];exact AP x v hv
theorem Jz {φ ψ:Env} {xs:List AV} {us:List Value} (h:(uE xs).isSome=true) (r:VRs φ xs us):VRs ψ xs us:=by obtain ⟨v,hv⟩:=zp.1 h;rw [mo xs v hv us r];exact qz xs v hv
theorem WR.start (w:World):WR w (fun b=>b < w.heap.size) (fun _=>none) [] w where
 dom:=fun _ _=>rfl
 fresh:=fun _ _=>rfl
 lt:=fun i x h=>by cases h
 inj:=fun i j x y hi hj hx=>by cases hx
 own:=fun i x hi hx=>by cases hx
 jK:=fun i x cs hi hx=>by cases hx
 obj:=fun i o h=>by simp at h
 prLt:=fun b h=>h
 size:=aw _
 os:=rfl
 tape:=rfl
 output:=rfl
 old:=fun _ _=>rfl
theorem WR.later {w0:World} {Pr:Nat->Prop} {φ:Env} {H:AH} {w w':World} (h:WR w0 Pr φ H w) (hs:w.heap.size<=w'.heap.size)
   (hb:∀ b,b < w.heap.size->w'.heap[b]? =w.heap[b]?) (hos:w'.os=w.os) (htp:w'.tape=w.tape) (hout:w'.output=w.output):WR w0 Pr φ H w' where
 dom:=h.dom
 fresh:=h.fresh
 lt:=fun i x hx=>bF (h.lt i x hx) hs
 inj:=h.inj
 own:=h.own
 jK:=h.jK
 obj:=fun i o ho=>(h.obj i o ho).lQ (Env.le_refl φ) fun x hx=>hb _ (h.lt i x hx)
 prLt:=h.prLt
 size:=Nat.le_trans h.size hs
 os:=hos.trans h.os
 tape:=htp.trans h.tape
 output:=hout.trans h.output
 old:=fun b hp=>(hb b (bF (h.prLt b hp) h.size)).trans (h.old b hp)
def roO:bm->bm
 | .cells cs _=>.arg cs
 | .arg cs=>.arg cs
 | _=>.dead
def ro (H:AH):AH:=H.map roO
theorem AW {H:AH} {i:Nat} {o:bm} (h:(ro H)[i]? =some o):∃ o',H[i]? =some o'/\o=roO o':=by simp only [ro,aO,ah] at h;obtain ⟨o',h1,h2⟩:=h;exact ⟨o',h1,h2.symm⟩
theorem s5 {H:AH} {i k n:Nat} {xs:List AV} (h:ak H i k n=some xs):ak (ro H) i k n=some xs:=by
 unfold ak at h ⊢;simp only [ro,aO];cases hi:H[i]? with
 | none=>rw [hi] at h; exact h
 | some o =>
   rw [hi] at h;cases o <;> simp only [cH,roO] at h ⊢ <;> first
     | exact h
     | (cases h; done)
theorem WR.reads {w0:World} {Pr:Nat->Prop} {φ:Env} {H:AH} {w:World} (h:WR w0 Pr φ H w):WR w (fun b=>b < w.heap.size) φ (ro H) w where
 dom:=fun i hi=>h.dom i (by simpa [ro] using hi)
 fresh:=fun i hi=>by
   obtain ⟨o,_,ho⟩:=AW hi
   cases o <;> cases ho
 lt:=h.lt
 inj:=fun i j x y ⟨o,hi,hw⟩=>by
   obtain ⟨o',_,rfl⟩:=AW hi
   cases o' <;> cases hw
 own:=fun i x ⟨o,hi,hw⟩=>by
   obtain ⟨o',_,rfl⟩:=AW hi
   cases o' <;> cases hw
 jK:=fun i x cs _ hx=>h.lt i x hx
 obj:=fun i o hi=>by
   obtain ⟨o',hi',rfl⟩:=AW hi
   have ho:=h.obj i o' hi'
   cases o' with
   | fresh=>trivial
   | dead=>trivial
   | map=>trivial
   | strIter=>trivial
   | arg cs=>exact ho
   | cells cs e =>
     obtain ⟨b,o,z,c,hφ,hb,hz,hl,hv⟩:=ho
     refine ⟨b,o,z,hφ,fun j v hj=>?_⟩
     obtain ⟨u,hu,r⟩:=hv j v hj
     refine ⟨u,?_,r⟩
     unfold World.cell?
     simp [hb,hu]
 prLt:=fun b h=>h
 size:=aw _
 os:=rfl
 tape:=rfl
 output:=rfl
 old:=fun _ _=>rfl
def okC (H:AH) (i:Nat):Bool:=match H[i]? with
 | some (.cells _ _) | some (.arg _)=>true
 | _=>false
def okM (H:AH) (i:Nat):Bool:=match H[i]? with
 | some (.map _ _)=>true
 | _=>false
mutual
def oR (H:AH):AV->Bool
 | .ptr i _ | .slice i _ _ _ _ _=>okC H i
 | .map i=>okM H i
 | .func _ f c=>zX H f && zX H c
 | .iface _ x=>oR H x
 | .agg l | .tuple l=>zX H l
 | .int .. | .bool .. | .str .. | .nilPtr | .nilSlice | .nilMap | .nilFunc | .nilIface | .junk=>true
def zX (H:AH):List AV->Bool
 | []=>true
 | x::xs=>oR H x && zX H xs
end
theorem F1 {w0:World} {Pr:Nat->Prop} {φ ψ:Env} {H:AH} {w:World} (hW:WR w0 Pr φ H w) (hle:φ.le ψ) {i:Nat} (h:okC H i=true):ψ i=φ i:=by
 unfold okC at h;split at h
 · rename_i cs e hi;obtain ⟨b,o,z,c,hp,_⟩:=hW.obj _ _ hi;rw [hp,hle _ _ hp]
 · rename_i cs hi;obtain ⟨b,o,z,hp,_⟩:=hW.obj _ _ hi;rw [hp,hle _ _ hp]
 · cases h
theorem QI {w0:World} {Pr:Nat->Prop} {φ ψ:Env} {H:AH} {w:World} (hW:WR w0 Pr φ H w) (hle:φ.le ψ) {i:Nat} (h:okM H i=true):ψ i=φ i:=by
 unfold okM at h;split at h
 · rename_i cs e hi;obtain ⟨b,z,es,hp,_⟩:=hW.obj _ _ hi;rw [hp,hle _ _ hp]
 · cases h
mutual
theorem wR {w0:World} {Pr:Nat->Prop} {φ ψ:Env} {H:AH} {w:World} (hW:WR w0 Pr φ H w) (hle:φ.le ψ):∀ (x:AV) (u:Value),oR H x=true->VR ψ x u->VR φ x u
 | .int ..,_,_,r=>r
 | .bool ..,_,_,r=>r
 | .str ..,_,_,r=>r
 | .nilPtr,_,_,r=>r
 | .nilSlice,_,_,r=>r
 | .nilMap,_,_,r=>r
 | .nilFunc,_,_,r=>r
 | .nilIface,_,_,r=>r
 | .junk,_,_,r=>r
 | .ptr i k,_,h,⟨b,o,z,e,r⟩=>⟨b,o,z,by rw [<-F1 hW hle (by simpa only [oR] using h)]; exact e,r⟩
 | .slice i k es len cap ex,_,h,⟨a,c,r,s,t,u⟩=>⟨a,c,r,s,t,u.imp id fun ⟨b,o,z,e,q⟩=>⟨b,o,z,by rw [<-F1 hW hle (by simpa only [oR] using h)]; exact e,q⟩⟩
 | .map i,_,h,⟨b,z,e,r⟩=>⟨b,z,by rw [<-QI hW hle (by simpa only [oR] using h)]; exact e,r⟩
 | .func fn f c,_,h,⟨f',c',e,r,s⟩=>by
   simp only [oR,az] at h
   exact ⟨f',c',e,pV hW hle f _ h.1 r,pV hW hle c _ h.2 s⟩
 | .iface t x,_,h,⟨u,e,r⟩=>⟨u,e,wR hW hle x _ (by simpa only [oR] using h) r⟩
 | .agg l,_,h,⟨us,e,r⟩=>⟨us,e,pV hW hle l _ (by simpa only [oR] using h) r⟩
 | .tuple l,_,h,⟨us,e,r⟩=>⟨us,e,pV hW hle l _ (by simpa only [oR] using h) r⟩
theorem pV {w0:World} {Pr:Nat->Prop} {φ ψ:Env} {H:AH} {w:World} (hW:WR w0 Pr φ H w) (hle:φ.le ψ):∀ (xs:List AV) (l:List Value),zX H xs=true->VRs ψ xs l->VRs φ xs l
 | [],_,_,r=>r
 | x::xs,_,h,⟨u,us,e,r,s⟩=>by
   simp only [zX,az] at h
   exact ⟨u,us,e,wR hW hle x _ h.1 r,pV hW hle xs _ h.2 s⟩
end
def kM (b:Bool) (H:AH) (r:AV × AH):Option (AV × AH):=if b then (if oR H r.1 then some (r.1,H) else none) else some r
theorem Am {H:AH} {r:AV × AH} {v:AV} {H':AH} (h:kM true H r=some (v,H')):H'=H:=by
 unfold kM at h;rw [if_pos rfl] at h;split at h
 · exact (Prod.mk.inj (aB h)).2.symm
 · cases h
mutual
def AV.beq:AV->AV->Bool
 | .int k n,.int k' n'=>k == k' && n == n'
 | .bool b,.bool b'=>b == b'
 | .str s,.str s'=>decide (s=s')
 | .nilPtr,.nilPtr=>true
 | .ptr i k,.ptr i' k'=>i == i' && k == k'
 | .nilSlice,.nilSlice=>true
 | .slice i k es l c x,.slice i' k' es' l' c' x'=>i == i' && k == k' && es == es' && l == l' && c == c' && x == x'
 | .nilMap,.nilMap=>true
 | .map i,.map i'=>i == i'
 | .func fn f c,.func fn' f' c'=>decide (fn=fn') && AV.sC f f' && AV.sC c c'
 | .nilFunc,.nilFunc=>true
 | .iface t x,.iface t' x'=>t == t' && AV.beq x x'
 | .nilIface,.nilIface=>true
 | .agg cs,.agg cs'=>AV.sC cs cs'
 | .tuple cs,.tuple cs'=>AV.sC cs cs'
 | .junk,.junk=>true
 | _,_=>false
def AV.sC:List AV->List AV->Bool
 | [],[]=>true
 | x::xs,y::ys=>AV.beq x y && AV.sC xs ys
 | _,_=>false
end
mutual
theorem AV.beq_eq:∀ x y:AV,AV.beq x y=true->x=y
 | .int k n,y,h=>by cases y <;> simp_all [AV.beq]
 | .bool b,y,h=>by cases y <;> simp_all [AV.beq]
 | .str s,y,h=>by cases y <;> simp_all [AV.beq]
 | .nilPtr,y,h=>by cases y <;> simp_all [AV.beq]
 | .ptr i k,y,h=>by cases y <;> simp_all [AV.beq]
 | .nilSlice,y,h=>by cases y <;> simp_all [AV.beq]
 | .slice i k es l c x,y,h=>by cases y <;> simp_all [AV.beq]
 | .nilMap,y,h=>by cases y <;> simp_all [AV.beq]
 | .map i,y,h=>by cases y <;> simp_all [AV.beq]
 | .func fn f c,y,h=>by
   cases y <;> simp only [AV.beq,az,decide_eq_true_eq,bK] at h
   rw [h.1.1,AV.mj f _ h.1.2,AV.mj c _ h.2]
 | .nilFunc,y,h=>by cases y <;> simp_all [AV.beq]
 | .iface t x,y,h=>by
   cases y <;> simp only [AV.beq,az,beq_iff_eq,bK] at h
   rw [h.1,AV.beq_eq x _ h.2]
 | .nilIface,y,h=>by cases y <;> simp_all [AV.beq]
 | .junk,y,h=>by cases y <;> simp_all [AV.beq]
 | .agg cs,y,h=>by
   cases y <;> simp only [AV.beq,bK] at h
   rw [AV.mj cs _ h]
 | .tuple cs,y,h=>by
   cases y <;> simp only [AV.beq,bK] at h
   rw [AV.mj cs _ h]
theorem AV.mj:∀ xs ys:List AV,AV.sC xs ys=true->xs=ys
 | [],[],_=>rfl
 | [],_::_,h=>by simp [AV.sC] at h
 | _::_,[],h=>by simp [AV.sC] at h
 | x::xs,y::ys,h=>by
   simp only [AV.sC,az] at h
   rw [AV.beq_eq x y h.1,AV.mj xs ys h.2]
end
mutual
theorem AV.qm:∀ x:AV,AV.beq x x=true
 | .int k n | .bool b | .str s | .nilPtr | .ptr i k | .nilSlice | .slice i k es l c x | .nilMap | .map i | .nilFunc | .nilIface | .junk=>by simp [AV.beq]
 | .func fn f c=>by simp [AV.beq,AV.kX f,AV.kX c]
 | .iface t x=>by simp [AV.beq,AV.qm x]
 | .agg cs=>by simp [AV.beq,AV.kX cs]
 | .tuple cs=>by simp [AV.beq,AV.kX cs]
theorem AV.kX:∀ xs:List AV,AV.sC xs xs=true
 | []=>rfl
 | x::xs=>by simp [AV.sC,AV.qm x,AV.kX xs]
end
def qg:List (AV × AV × Nat)->List (AV × AV × Nat)->Bool
 | [],[]=>true
 | (k,v,n)::es,(k',v',n')::es'=>AV.beq k k' && AV.beq v v' && n == n' && qg es es'
 | _,_=>false
theorem Ar:∀ es es',qg es es'=true->es=es'
 | [],[],_=>rfl
 | [],_::_,h=>by simp [qg] at h
 | _::_,[],h=>by simp [qg] at h
 | (k,v,n)::es,(k',v',n')::es',h=>by
   simp only [qg,az,beq_iff_eq] at h
   rw [AV.beq_eq _ _ h.1.1.1,AV.beq_eq _ _ h.1.1.2,h.1.2,Ar _ _ h.2]
theorem v5:∀ es,qg es es=true
 | []=>rfl
 | (k,v,n)::es=>by simp [qg,AV.qm,v5 es]
def bm.beq:bm->bm->Bool
 | .fresh,.fresh=>true
 | .dead,.dead=>true
 | .cells cs e,.cells cs' e'=>AV.sC cs cs' && e == e'
 | .arg cs,.arg cs'=>AV.sC cs cs'
 | .map es c,.map es' c'=>qg es es' && c == c'
 | .strIter s p,.strIter s' p'=>decide (s=s') && p == p'
 | _,_=>false
theorem bm.beq_eq (x y:bm) (h:bm.beq x y=true):x=y:=by
 cases x <;> cases y <;> simp only [bm.beq,az,beq_iff_eq,bK,decide_eq_true_eq] at h <;> first
   | rfl
   | (rw [AV.mj _ _ h.1,h.2])
   | (rw [AV.mj _ _ h])
   | (rw [Ar _ _ h.1,h.2])
   | (rw [h.1,h.2])
theorem bm.qm (x:bm):bm.beq x x=true:=by cases x <;> simp [bm.beq,AV.kX,v5]
def nx:AH->AH->Bool
 | [],[]=>true
 | x::xs,y::ys=>bm.beq x y && nx xs ys
 | _,_=>false
theorem yG:∀ xs ys,nx xs ys=true->xs=ys
 | [],[],_=>rfl
 | [],_::_,h=>by simp [nx] at h
 | _::_,[],h=>by simp [nx] at h
 | x::xs,y::ys,h=>by
   simp only [nx,az] at h
   rw [bm.beq_eq x y h.1,yG xs ys h.2]
theorem tH:∀ xs,nx xs xs=true
 | []=>rfl
 | x::xs=>by simp [nx,bm.qm,tH xs]
abbrev St:=List AV × AH
def cY (gl:GL) (tm:List AV):Operand->Option AV
 | .tmp t=>some (tm.getD t uA)
 | .const v=>ofV 6 v
 | .global g=>(gl g).map fun i=>.ptr i 0
 | .func f=>some (.func (.func f) [] [])
def eC (dst:Option Tmp) (v:AV) (tm:List AV):List AV:=
 match dst with
 | some d=>tm.set d v
 | none=>tm
def dp (ops:Array Oper) (tm:List AV) (j:Nat):Option Bool:=
 match ((ops[j]?).bind (·.dst)).bind (tm[·]?) with
 | some (.bool b)=>some b
 | _=>none
def jX (P:Program) (C:Cfg P) (call:cz) (slot:Option Nat) (ops:Array Oper) (i:Nat) (s:St):Option St:=
 match ops[i]? with
 | none=>some s
 | some o =>
   if Region.wanted o (dp ops s.1) then
     match aop P C slot (cY C.gl s.1) o s.2 with
     | some (.val v,H')=>some (eC o.dst v s.1,H')
     | some (.skip,H')=>some (eC o.dst uA s.1,H')
     | some (.enter f args,H')=>(call f args H').map fun (v,H'')=>(eC o.dst v s.1,H'')
     | none=>none
   else some (eC o.dst uA s.1,s.2)
def jR (P:Program) (C:Cfg P) (call:cz) (ops:Array Oper):List Nat->St->Option St
 | [],s=>some s
 | i::is,s=>(jX P C call none ops i s).bind fun s'=>jR P C call ops is s'
def dc (P:Program) (ev:Operand->Option AV) (o:Oper):Option AV:=
 match o.op with
 | .move x=>ev x
 | .assign x=>ev x
 | .pick c a b=>(ev c).bind fun cv=>match cv with
   | .bool true=>ev a
   | .bool false=>ev b
   | _=>none
 | .binOp op t x y _=>(ev x).bind fun xv=>(ev y).bind fun yv =>
   match xv,yv with
   | .int k a,.int k' b=>match (if k=k' then fy op k a b else none) with
     | some v=>some v
     | none=>(dq P ev o).bind fun n=>match n with | .val v=>some v | _=>none
   | _,_=>match op,E8 P t xv yv with
     | .eql,some r=>some (.bool r)
     | .neq,some r=>some (.bool (!r))
     | _,_=>(dq P ev o).bind fun n=>match n with | .val v=>some v | _=>none
 | .unOp .. | .convert .. | .index .. | .typeAssert ..=>(dq P ev o).bind fun n=>match n with | .val v=>some v | _=>none
 | .makeInterface t x=>(ev x).bind fun v=>match P.underlying t with
   | some (.interface _)=>none
   | some _=>some (.iface t v)
   | none=>none
 | .makeFunc fn first cap=>(evL ev first.toList).bind fun f=>(evL ev cap.toList).map fun c=>.func fn f c
 | .fieldAddr t x f=>(ev x).bind fun xv=>aL P t xv f
 | .field t x f=>(ev x).bind fun xv=>qc P t xv f
 | .indexAddr t x ix=>(ev x).bind fun xv=>(ev ix).bind fun iv=>aC P t xv iv
 | .extract t ix=>(ev t).bind fun tv=>match tv with
   | .tuple vs=>vs[ix]?
   | _=>none
 | .nilCheck x=>(ev x).bind jt
 | _=>none
inductive ep where
 | done
 | take (i:Nat) (p:ep)
 | all (l:List (Nat × ep))
 | join (p q:ep)
 | rd (i:Nat) (p:ep)
 deriving Inhabited
def u6:Op->Bool
 | .move _ | .assign _ | .pick .. | .binOp .. | .unOp .. | .convert .. | .index .. | .makeInterface .. | .makeFunc .. | .fieldAddr .. | .field .. | .indexAddr .. | .extract .. | .nilCheck _=>true
 | _=>false
def nS:Op->Bool
 | .load .. | .lookup ..=>true
 | .call c=>match c.callee with
   | .builtin .len=>true
   | _=>false
 | _=>false
def oY (o:Op):Bool:=u6 o || nS o || match o with
 | .alloc _ | .box .. | .buildSlice .. | .makeSlice .. | .makeMap _ none | .slice .. | .build ..=>true
 | _=>false
def Fe (ops:Array Oper):Nat->Nat->Nat->Bool
 | 0,_,_=>false
 | n+1,j,i=>match ops[j]? with
   | some oj=>oj.after.any fun e=>Region.binds .any e && (e.on == i || Fe ops n e.on i)
   | none=>false
def Og (ops:Array Oper) (L:Array Bool) (i:Nat):Bool:=((ops[i]?).map fun o=>nS o.op).getD false && Region.free .any ops L i &&
 (bp ops.size).all fun j=>j == i || L.getD j true || ((ops[j]?).map fun o=>oY o.op).getD true || Fe ops ops.size j i
def BF (ops:Array Oper) (listed:Array Bool) (i:Nat):Bool:=((ops[i]?).map fun o=>u6 o.op).getD false && Region.free .any ops listed i
mutual
def ends (ops:Array Oper):ep->Nat->Array Bool->Option (Nat × Array Bool)
 | .done,n,L=>some (n,L)
 | .take i p,n,L=>match n with
   | 0=>none
   | n+1=>if (Region.ready .any ops L).contains i && BF ops L i then ends ops p n (L.setIfInBounds i true) else none
 | .all l,n,L=>match n with
   | 0=>none
   | n+1=>if (l.map (·.1)) == Region.ready .any ops L && !l.isEmpty then oy ops l n L none else none
 | .join p q,n,L=>(ends ops p n L).bind fun (n',L')=>ends ops q n' L'
 | .rd i p,n,L=>match n with
   | 0=>none
   | n+1=>if (Region.ready .any ops L).contains i && Og ops L i then ends ops p n (L.setIfInBounds i true) else none
def oy (ops:Array Oper):List (Nat × ep)->Nat->Array Bool->Option (Nat × Array Bool)->Option (Nat × Array Bool)
 | [],_,_,r=>r
 | (i,p)::l,n,L,r=>(ends ops p n (L.setIfInBounds i true)).bind fun e=>match r with
   | none=>oy ops l n L (some e)
   | some e0=>if e0.1 == e.1 && e0.2 == e.2 then oy ops l n L (some e0) else none
end
def A5 (ops:Array Oper) (p:ep):Bool:=match ends ops p ops.size (Array.replicate ops.size false) with
 | some (_,L)=>(Region.ready .any ops L).isEmpty
 | none=>false
theorem IT (ops:Array Oper) (n:Nat) (L:Array Bool):ends ops .done n L=some (n,L):=by unfold ends; rfl
theorem IS (ops:Array Oper) (p q:ep) (n:Nat) (L:Array Bool):ends ops (.join p q) n L=(ends ops p n L).bind fun e=>ends ops q e.1 e.2:=by conv=>lhs; unfold ends
theorem E9 (ops:Array Oper) (i:Nat) (p:ep) (L:Array Bool):ends ops (.take i p) 0 L=none:=by unfold ends; rfl
theorem IQ (ops:Array Oper) (i:Nat) (p:ep) (n:Nat) (L:Array Bool):ends ops (.take i p) (n+1) L=if (Region.ready .any ops L).contains i && BF ops L i then ends ops p n (L.setIfInBounds i true) else none:=by conv=>lhs; unfold ends
theorem MY (ops:Array Oper) (i:Nat) (p:ep) (L:Array Bool):ends ops (.rd i p) 0 L=none:=by unfold ends; rfl
theorem Rn (ops:Array Oper) (i:Nat) (p:ep) (n:Nat) (L:Array Bool):ends ops (.rd i p) (n+1) L=if (Region.ready .any ops L).contains i && Og ops L i then ends ops p n (L.setIfInBounds i true) else none:=by conv=>lhs; unfold ends
theorem IU (ops:Array Oper) (l:List (Nat × ep)) (L:Array Bool):ends ops (.all l) 0 L=none:=by unfold ends; rfl
theorem MZ (ops:Array Oper) (l:List (Nat × ep)) (n:Nat) (L:Array Bool):ends ops (.all l) (n+1) L=if (l.map (·.1)) == Region.ready .any ops L && !l.isEmpty then oy ops l n L none else none:=by conv=>lhs; unfold ends
theorem IV (ops:Array Oper) (n:Nat) (L:Array Bool) (r:Option (Nat × Array Bool)):oy ops [] n L r=r:=by unfold oy; rfl
theorem yS (ops:Array Oper) (i:Nat) (p:ep) (l:List (Nat × ep)) (n:Nat) (L:Array Bool) (r:Option (Nat × Array Bool)):oy ops ((i,p)::l) n L r=(ends ops p n (L.setIfInBounds i true)).bind fun e=>match r with
   | none=>oy ops l n L (some e)
   | some e0=>if e0.1 == e.1 && e0.2 == e.2 then oy ops l n L (some e0) else none:=by conv=>lhs; unfold oy
def pJ (a b:St):Bool:=AV.sC a.1 b.1 && nx a.2 b.2
theorem xF {a b:St} (h:pJ a b=true):a=b:=by simp only [pJ,az] at h;exact Prod.ext (AV.mj _ _ h.1) (yG _ _ h.2)
theorem cd (a:St):pJ a a=true:=by simp [pJ,AV.kX,tH]
def fD (P:Program) (ev:Operand->Option AV) (o:Oper) (H:AH):Option AV:=
 match o.op with
 | .load t a=>(ev a).bind fun av=>match av with
   | .ptr i k=>ldA P t H i k
   | _=>none
 | .lookup t m k ok=>(ev m).bind fun mv=>(ev k).bind fun kv=>iJ P t mv kv ok H
 | .slice t x lo hi mx=>(ev x).bind fun xv=>(evO ev lo).bind fun l=>(evO ev hi).bind fun h=>(evO ev mx).bind fun m=>ko P t H xv l h m
 | .call c=>match c.callee with
   | .builtin .len=>(evL ev c.args.toList).bind fun as=>match as with
     | [x]=>(c.argTypes[0]?).bind fun t=>d4 P t H x
     | _=>none
   | _=>none
 | _=>dc P ev o
mutual
def cB (P:Program) (C:Cfg P) (call:cz) (base:Nat) (ops:Array Oper):ep->St->Option St
 | .done,s=>some s
 | .take i p,s =>
   match ops[i]? with
   | none=>none
   | some o=>(if Region.wanted o (dp ops s.1) then dc P (cY C.gl s.1) o else some uA).bind fun v =>
       cB P C call base ops p (eC o.dst v s.1,s.2)
 | .all l,s=>eO P C call base ops l s none
 | .rd i p,s =>
   match ops[i]? with
   | none=>none
   | some o=>(if Region.wanted o (dp ops s.1) then fD P (cY C.gl s.1) o s.2 else some uA).bind fun v =>
       cB P C call base ops p (eC o.dst v s.1,s.2)
 | .join p q,s=>(cB P C call base ops p s).bind fun t=>cB P C call base ops q t
def eO (P:Program) (C:Cfg P) (call:cz) (base:Nat) (ops:Array Oper):List (Nat × ep)->St->Option St->Option St
 | [],_,r=>r
 | (i,p)::l,s,r=>(jX P C call (some (base+i)) ops i s).bind fun s'=>(cB P C call base ops p s').bind fun t =>
   match r with
   | none=>eO P C call base ops l s (some t)
   | some t0=>if pJ t0 t then eO P C call base ops l s (some t0) else none
end
inductive bk where
 | normal
 | exit (id:Nat)
 | ret
 deriving Inhabited
def kE (f:St->Option (bk × St)):Nat->St->Option (bk × St)
 | 0,_=>none
 | n+1,s=>match f s with
   | some (.normal,s')=>kE f n s'
   | r=>r
def bZ:Op->Bool
 | .alloc _ | .box .. | .buildSlice .. | .makeSlice .. | .makeMap ..=>true
 | .call { callee:=.builtin .append,.. }=>true
 | _=>false
def jD (P:Program) (gl:GL) (ops:Array Oper):List Oper->St->Option St
 | [],s=>some s
 | o::os,s=>if Region.wanted o (dp ops s.1) then (fD P (cY gl s.1) o s.2).bind fun v=>jD P gl ops os (eC o.dst v s.1,s.2) else jD P gl ops os (eC o.dst uA s.1,s.2)
def gO (P:Program) (C:Cfg P) (call:cz) (ev:Operand->Option AV) (o:Oper) (H:AH):Option AV:=
 match o.op with
 | .call c=>match c.callee with
   | .builtin _=>fD P ev o H
   | _=>(gk P C none ev o c H).bind fun r=>match r with
     | (.enter f args,_)=>if C.reads f then (call f args H).map (·.1) else none
     | _=>none
 | _=>fD P ev o H
def gS (P:Program) (C:Cfg P) (call:cz) (ops:Array Oper):List Oper->St->Option St
 | [],s=>some s
 | o::os,s=>if Region.wanted o (dp ops s.1) then (gO P C call (cY C.gl s.1) o s.2).bind fun v=>gS P C call ops os (eC o.dst v s.1,s.2) else gS P C call ops os (eC o.dst uA s.1,s.2)
inductive Way where
 | plan (p:ep)
 | reads
 | tail (n:Nat)
 | mix (p:ep) (k:Nat)
 | known (p:ep) (l:List (St × St))
 | calm
def xB (ops:Array Oper):Way->Bool
 | .plan p=>Region.noSelect ops && A5 ops p
 | .reads=>Region.lexB .any ops
 | .tail n=>Region.lexTailB .any ops.toList.toArray n
 | .mix _ _=>false
 | .known p _=>Region.noSelect ops && A5 ops p
 | .calm=>Region.lexB .any ops
def AM (P:Program) (ops:Array Oper):Way->Prop
 | .known p l=>∀ e∈l,∀ (C:Cfg P) (call:cz),cB P C call e.1.2.length ops p (e.1.1,if ops.any (bZ ·.op) then e.1.2++au ops.size .fresh else e.1.2)=some e.2
 | _=>True
def gJ (P:Program) (pl:Nat->Option Way):Code->Prop
 | .region id ops true=>match pl id with
   | some p=>AM P ops p
   | none=>True
 | .seq a b=>gJ P pl a/\gJ P pl b
 | .cond _ x y=>gJ P pl x/\gJ P pl y
 | .block _ b=>gJ P pl b
 | .loop b=>gJ P pl b
 | _=>True
def c7 (pl:Nat->Option Way):Code->Bool
 | .region id ops true=>match pl id with
   | some p=>xB ops p
   | none=>true
 | .seq a b=>c7 pl a && c7 pl b
 | .cond _ x y=>c7 pl x && c7 pl y
 | .block _ b=>c7 pl b
 | .loop b=>c7 pl b
 | _=>true
structure pB (P:Program) where
 pl:FuncId->Nat->Option Way
 ok:∀ f fn c,P.funcs[f]? =some fn->fn.body=some c->c7 (pl f) c=true/\gJ P (pl f) c
def evC (P:Program) (C:Cfg P) (call:cz) (pl:Nat->Option Way) (n:Nat):Code->St->Option (bk × St)
 | .skip,s=>some (.normal,s)
 | .region _ ops false,s=>(jR P C call ops (bp ops.size) s).map fun s'=>(.normal,s')
 | .region id ops true,s =>
   match pl id with
   | some (.plan p)=>(cB P C call s.2.length ops p (s.1,if ops.any (bZ ·.op) then s.2++au ops.size .fresh else s.2)).map fun s'=>(.normal,s')
   | some .reads=>(jD P C.gl ops ops.toList s).map fun s'=>(.normal,s')
   | some (.tail k)=>(jD P C.gl ops (ops.toList.take k) s).bind fun s1=>(jR P C call ops (List.range' k (ops.toList.drop k).length) s1).map fun s'=>(.normal,s')
   | some (.mix p k)=>(cB P C call s.2.length ops p (s.1,if ops.any (bZ ·.op) then s.2++au ops.size .fresh else s.2)).bind fun s1=>(jD P C.gl ops (ops.toList.drop k) s1).map fun s'=>(.normal,s')
   | some (.known _ l)=>(l.find? fun e=>pJ e.1 s).map fun e=>(.normal,e.2)
   | some .calm=>(gS P C call ops ops.toList s).map fun s'=>(.normal,s')
   | none=>none
 | .seq a b,s=>match evC P C call pl n a s with
   | some (.normal,s')=>evC P C call pl n b s'
   | r=>r
 | .cond c x y,s=>match cY C.gl s.1 c with
   | some (.bool true)=>evC P C call pl n x s
   | some (.bool false)=>evC P C call pl n y s
   | _=>none
 | .block id body,s=>match evC P C call pl n body s with
   | some (.exit id',s')=>if id'=id then some (.normal,s') else some (.exit id',s')
   | r=>r
 | .loop body,s=>kE (fun s=>evC P C call pl n body s) n s
 | .exit id,s=>some (.exit id,s)
 | .ret,s=>some (.ret,s)
 | _,_=>none
def iO (P:Program) (tm:List AV) (H:AH):List ResultVar->Option (List AV)
 | []=>some []
 | .tmp t::rs=>(iO P tm H rs).map (tm.getD t uA::·)
 | .cell a t::rs=>match tm.getD a uA with
   | .ptr i k=>(ldA P t H i k).bind fun v=>(iO P tm H rs).map (v::·)
   | _=>none
def lz (P:Program) (fn:Func) (s:St):Option (AV × AH):=
 (iO P s.1 s.2 fn.results.toList).map fun vs=>(match vs with | [v]=>v | vs=>.tuple vs,s.2)
def cX (P:Program) (C:Cfg P) (W:pB P):Nat->cz
 | 0,_,_,_=>none
 | n+1,f,args,H=>match C.orc f args H with
   | some r=>some r
   | none=>(P.funcs[f]?).bind fun fn=>fn.body.bind fun c =>
     match evC P C (cX P C W n) (W.pl f) n c (args++au (fn.ntmps - args.length) uA,if C.reads f then ro H else H) with
     | some (.normal,s)=>(lz P fn s).bind (kM (C.reads f) H)
     | some (.ret,s)=>(lz P fn s).bind (kM (C.reads f) H)
     | _=>none
end Go.Dv
