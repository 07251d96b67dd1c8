/- Part 05 of the walks (own work). -/
import Derived.Test.YtilpjnckfkjkbaaGreatDoorT04
import Derived.StillTail
open Bool renaming and_eq_true→aC,false_eq_true→bE
open List renaming getElem?_map→aM,range→bn,replicate→ay
open Nat renaming le_refl→ax,lt_of_lt_of_le→bu
open Option renaming bind_eq_some_iff→ae,isSome_iff_exists→za,map_eq_some_iff→ah,map_some→cE
open Option.some renaming inj→aE,injEq→aT
set_option maxRecDepth 100000
set_option maxHeartbeats 4000000
set_option linter.unusedSimpArgs false
set_option linter.unusedVariables false
namespace Go.Dv
mutual
theorem AB {φ:Env}:∀ (x:AV) (v:Value),toV x=some v->VR φ x v
 | .int ..,v,h=>by simp only [toV,aT] at h; exact h.symm
 | .bool ..,v,h=>by simp only [toV,aT] at h; exact h.symm
 | .str ..,v,h=>by simp only [toV,aT] at h; exact h.symm
 | .nilPtr,v,h=>by simp only [toV,aT] at h; exact h.symm
 | .nilSlice,v,h=>by simp only [toV,aT] at h; exact h.symm
 | .nilMap,v,h=>by simp only [toV,aT] at h; exact h.symm
 | .nilFunc,v,h=>by simp only [toV,aT] at h; exact h.symm
 | .nilIface,v,h=>by simp only [toV,aT] at h; exact h.symm
 | .ptr ..,v,h=>by simp [toV] at h
 | .slice ..,v,h=>by simp [toV] at h
 | .map ..,v,h=>by simp [toV] at h
 | .junk,v,h=>by simp [toV] at h
 | .iface t x,v,h=>by
   simp only [toV,ah] at h
   obtain ⟨y,hy,rfl⟩:=h
   exact ⟨y,rfl,AB x y hy⟩
 | .agg cs,v,h=>by
   simp only [toV,ah] at h
   obtain ⟨y,hy,rfl⟩:=h
   exact ⟨_,rfl,qq cs y hy⟩
 | .tuple cs,v,h=>by
   simp only [toV,ah] at h
   obtain ⟨y,hy,rfl⟩:=h
   exact ⟨_,rfl,qq cs y hy⟩
 | .func fn f c,v,h=>by
   simp only [toV,ae,ah] at h
   obtain ⟨y,hy,z,hz,rfl⟩:=h
   exact ⟨_,_,rfl,qq f y hy,qq c z hz⟩
theorem qq {φ:Env}:∀ (xs:List AV) (l:List Value),ug xs=some l->VRs φ xs l
 | [],l,h=>by simp only [ug,aT] at h; exact h.symm
 | x::xs,l,h=>by
   simp only [ug,ae,ah] at h
   obtain ⟨y,hy,z,hz,rfl⟩:=h
   exact ⟨_,_,rfl,AB x y hy,qq xs z hz⟩
end
theorem AA {φ ψ:Env} {x:AV} {u:Value} (h:(toV x).isSome=true) (r:VR φ x u):VR ψ x u:=by
 obtain ⟨v,hv⟩:=za.1 h
 rw [jv x v hv u r]
 exact AB x v hv
theorem IJ {φ ψ:Env} {xs:List AV} {us:List Value} (h:(ug xs).isSome=true) (r:VRs φ xs us):VRs ψ xs us:=by
 obtain ⟨v,hv⟩:=za.1 h
 rw [mg xs v hv us r]
 exact qq xs v hv
theorem WR.start (w:World):WR w (fun b=>b < w.heap.size) (fun _=>none) [] w where
 dom:=fun _ _=>rfl
 fresh:=fun _ _=>rfl
 lt:=fun i x h=>by cases h
 inj:=fun i j x y hi hj hx=>by cases hx
 own:=fun i x hi hx=>by cases hx
 jz:=fun i x cs hi hx=>by cases hx
 obj:=fun i o h=>by simp at h
 prLt:=fun b h=>h
 size:=ax _
 os:=rfl
 tape:=rfl
 output:=rfl
 old:=fun _ _=>rfl
theorem WR.later {w0:World} {Pr:Nat->Prop} {φ:Env} {H:AH} {w w':World} (h:WR w0 Pr φ H w) (hs:w.heap.size<=w'.heap.size)
   (hb:∀ b,b < w.heap.size->w'.heap[b]? =w.heap[b]?) (hos:w'.os=w.os) (htp:w'.tape=w.tape) (hout:w'.output=w.output):WR w0 Pr φ H w' where
 dom:=h.dom
 fresh:=h.fresh
 lt:=fun i x hx=>bu (h.lt i x hx) hs
 inj:=h.inj
 own:=h.own
 jz:=h.jz
 obj:=fun i o ho=>(h.obj i o ho).lH (Env.le_refl φ) fun x hx=>hb _ (h.lt i x hx)
 prLt:=h.prLt
 size:=Nat.le_trans h.size hs
 os:=hos.trans h.os
 tape:=htp.trans h.tape
 output:=hout.trans h.output
 old:=fun b hp=>(hb b (bu (h.prLt b hp) h.size)).trans (h.old b hp)
def roO:bl->bl
 | .cells cs _=>.arg cs
 | .arg cs=>.arg cs
 | _=>.dead
def ro (H:AH):AH:=H.map roO
theorem AJ {H:AH} {i:Nat} {o:bl} (h:(ro H)[i]? =some o):∃ o',H[i]? =some o'/\o=roO o':=by
 simp only [ro,aM,ah] at h
 obtain ⟨o',h1,h2⟩:=h
 exact ⟨o',h1,h2.symm⟩
theorem xu {H:AH} {i k n:Nat} {xs:List AV} (h:ak H i k n=some xs):ak (ro H) i k n=some xs:=by
 unfold ak at h ⊢
 simp only [ro,aM]
 cases hi:H[i]? with
 | none=>rw [hi] at h; exact h
 | some o =>
   rw [hi] at h
   cases o <;> simp only [cE,roO] at h ⊢ <;> first
     | exact h
     | (cases h; done)
theorem WR.reads {w0:World} {Pr:Nat->Prop} {φ:Env} {H:AH} {w:World} (h:WR w0 Pr φ H w):WR w (fun b=>b < w.heap.size) φ (ro H) w where
 dom:=fun i hi=>h.dom i (by simpa [ro] using hi)
 fresh:=fun i hi=>by
   obtain ⟨o,_,ho⟩:=AJ hi
   cases o <;> cases ho
 lt:=h.lt
 inj:=fun i j x y ⟨o,hi,hw⟩=>by
   obtain ⟨o',_,rfl⟩:=AJ hi
   cases o' <;> cases hw
 own:=fun i x ⟨o,hi,hw⟩=>by
   obtain ⟨o',_,rfl⟩:=AJ hi
   cases o' <;> cases hw
 jz:=fun i x cs _ hx=>h.lt i x hx
 obj:=fun i o hi=>by
   obtain ⟨o',hi',rfl⟩:=AJ hi
   have ho:=h.obj i o' hi'
   cases o' with
   | fresh=>trivial
   | dead=>trivial
   | map=>trivial
   | strIter=>trivial
   | arg cs=>exact ho
   | cells cs e =>
     obtain ⟨b,o,z,c,hφ,hb,hz,hl,hv⟩:=ho
     refine ⟨b,o,z,hφ,fun j v hj=>?_⟩
     obtain ⟨u,hu,r⟩:=hv j v hj
     refine ⟨u,?_,r⟩
     unfold World.cell?
     simp [hb,hu]
 prLt:=fun b h=>h
 size:=ax _
 os:=rfl
 tape:=rfl
 output:=rfl
 old:=fun _ _=>rfl
def okC (H:AH) (i:Nat):Bool:=match H[i]? with
 | some (.cells _ _) | some (.arg _)=>true
 | _=>false
def okM (H:AH) (i:Nat):Bool:=match H[i]? with
 | some (.map _ _)=>true
 | _=>false
mutual
def oG (H:AH):AV->Bool
 | .ptr i _ | .slice i _ _ _ _ _=>okC H i
 | .map i=>okM H i
 | .func _ f c=>zJ H f && zJ H c
 | .iface _ x=>oG H x
 | .agg l | .tuple l=>zJ H l
 | .int .. | .bool .. | .str .. | .nilPtr | .nilSlice | .nilMap | .nilFunc | .nilIface | .junk=>true
def zJ (H:AH):List AV->Bool
 | []=>true
 | x::xs=>oG H x && zJ H xs
end
theorem Fx {w0:World} {Pr:Nat->Prop} {φ ψ:Env} {H:AH} {w:World} (hW:WR w0 Pr φ H w) (hle:φ.le ψ) {i:Nat} (h:okC H i=true):ψ i=φ i:=by
 unfold okC at h
 split at h
 · rename_i cs e hi
   obtain ⟨b,o,z,c,hp,_⟩:=hW.obj _ _ hi
   rw [hp,hle _ _ hp]
 · rename_i cs hi
   obtain ⟨b,o,z,hp,_⟩:=hW.obj _ _ hi
   rw [hp,hle _ _ hp]
 · cases h
theorem Py {w0:World} {Pr:Nat->Prop} {φ ψ:Env} {H:AH} {w:World} (hW:WR w0 Pr φ H w) (hle:φ.le ψ) {i:Nat} (h:okM H i=true):ψ i=φ i:=by
 unfold okM at h
 split at h
 · rename_i cs e hi
   obtain ⟨b,z,es,hp,_⟩:=hW.obj _ _ hi
   rw [hp,hle _ _ hp]
 · cases h
mutual
theorem wC {w0:World} {Pr:Nat->Prop} {φ ψ:Env} {H:AH} {w:World} (hW:WR w0 Pr φ H w) (hle:φ.le ψ):∀ (x:AV) (u:Value),oG H x=true->VR ψ x u->VR φ x u
 | .int ..,_,_,r=>r
 | .bool ..,_,_,r=>r
 | .str ..,_,_,r=>r
 | .nilPtr,_,_,r=>r
 | .nilSlice,_,_,r=>r
 | .nilMap,_,_,r=>r
 | .nilFunc,_,_,r=>r
 | .nilIface,_,_,r=>r
 | .junk,_,_,r=>r
 | .ptr i k,_,h,⟨b,o,z,e,r⟩=>⟨b,o,z,by rw [<-Fx hW hle (by simpa only [oG] using h)]; exact e,r⟩
 | .slice i k es len cap ex,_,h,⟨a,c,r,s,t,u⟩=>⟨a,c,r,s,t,u.imp id fun ⟨b,o,z,e,q⟩=>⟨b,o,z,by rw [<-Fx hW hle (by simpa only [oG] using h)]; exact e,q⟩⟩
 | .map i,_,h,⟨b,z,e,r⟩=>⟨b,z,by rw [<-Py hW hle (by simpa only [oG] using h)]; exact e,r⟩
 | .func fn f c,_,h,⟨f',c',e,r,s⟩=>by
   simp only [oG,aC] at h
   exact ⟨f',c',e,pJ hW hle f _ h.1 r,pJ hW hle c _ h.2 s⟩
 | .iface t x,_,h,⟨u,e,r⟩=>⟨u,e,wC hW hle x _ (by simpa only [oG] using h) r⟩
 | .agg l,_,h,⟨us,e,r⟩=>⟨us,e,pJ hW hle l _ (by simpa only [oG] using h) r⟩
 | .tuple l,_,h,⟨us,e,r⟩=>⟨us,e,pJ hW hle l _ (by simpa only [oG] using h) r⟩
theorem pJ {w0:World} {Pr:Nat->Prop} {φ ψ:Env} {H:AH} {w:World} (hW:WR w0 Pr φ H w) (hle:φ.le ψ):∀ (xs:List AV) (l:List Value),zJ H xs=true->VRs ψ xs l->VRs φ xs l
 | [],_,_,r=>r
 | x::xs,_,h,⟨u,us,e,r,s⟩=>by
   simp only [zJ,aC] at h
   exact ⟨u,us,e,wC hW hle x _ h.1 r,pJ hW hle xs _ h.2 s⟩
end
def kF (b:Bool) (H:AH) (r:AV × AH):Option (AV × AH):=if b then (if oG H r.1 then some (r.1,H) else none) else some r
theorem Aa {H:AH} {r:AV × AH} {v:AV} {H':AH} (h:kF true H r=some (v,H')):H'=H:=by
 unfold kF at h
 rw [if_pos rfl] at h
 split at h
 · exact (Prod.mk.inj (aE h)).2.symm
 · cases h
mutual
def AV.beq:AV->AV->Bool
 | .int k n,.int k' n'=>k == k' && n == n'
 | .bool b,.bool b'=>b == b'
 | .str s,.str s'=>decide (s=s')
 | .nilPtr,.nilPtr=>true
 | .ptr i k,.ptr i' k'=>i == i' && k == k'
 | .nilSlice,.nilSlice=>true
 | .slice i k es l c x,.slice i' k' es' l' c' x'=>i == i' && k == k' && es == es' && l == l' && c == c' && x == x'
 | .nilMap,.nilMap=>true
 | .map i,.map i'=>i == i'
 | .func fn f c,.func fn' f' c'=>decide (fn=fn') && AV.sq f f' && AV.sq c c'
 | .nilFunc,.nilFunc=>true
 | .iface t x,.iface t' x'=>t == t' && AV.beq x x'
 | .nilIface,.nilIface=>true
 | .agg cs,.agg cs'=>AV.sq cs cs'
 | .tuple cs,.tuple cs'=>AV.sq cs cs'
 | .junk,.junk=>true
 | _,_=>false
def AV.sq:List AV->List AV->Bool
 | [],[]=>true
 | x::xs,y::ys=>AV.beq x y && AV.sq xs ys
 | _,_=>false
end
mutual
theorem AV.beq_eq:∀ x y:AV,AV.beq x y=true->x=y
 | .int k n,y,h=>by cases y <;> simp_all [AV.beq]
 | .bool b,y,h=>by cases y <;> simp_all [AV.beq]
 | .str s,y,h=>by cases y <;> simp_all [AV.beq]
 | .nilPtr,y,h=>by cases y <;> simp_all [AV.beq]
 | .ptr i k,y,h=>by cases y <;> simp_all [AV.beq]
 | .nilSlice,y,h=>by cases y <;> simp_all [AV.beq]
 | .slice i k es l c x,y,h=>by cases y <;> simp_all [AV.beq]
 | .nilMap,y,h=>by cases y <;> simp_all [AV.beq]
 | .map i,y,h=>by cases y <;> simp_all [AV.beq]
 | .func fn f c,y,h=>by
   cases y <;> simp only [AV.beq,aC,decide_eq_true_eq,bE] at h
   rw [h.1.1,AV.ma f _ h.1.2,AV.ma c _ h.2]
 | .nilFunc,y,h=>by cases y <;> simp_all [AV.beq]
 | .iface t x,y,h=>by
   cases y <;> simp only [AV.beq,aC,beq_iff_eq,bE] at h
   rw [h.1,AV.beq_eq x _ h.2]
 | .nilIface,y,h=>by cases y <;> simp_all [AV.beq]
 | .junk,y,h=>by cases y <;> simp_all [AV.beq]
 | .agg cs,y,h=>by
   cases y <;> simp only [AV.beq,bE] at h
   rw [AV.ma cs _ h]
 | .tuple cs,y,h=>by
   cases y <;> simp only [AV.beq,bE] at h
   rw [AV.ma cs _ h]
theorem AV.ma:∀ xs ys:List AV,AV.sq xs ys=true->xs=ys
 | [],[],_=>rfl
 | [],_::_,h=>by simp [AV.sq] at h
 | _::_,[],h=>by simp [AV.sq] at h
 | x::xs,y::ys,h=>by
   simp only [AV.sq,aC] at h
   rw [AV.beq_eq x y h.1,AV.ma xs ys h.2]
end
mutual
theorem AV.qd:∀ x:AV,AV.beq x x=true
 | .int k n | .bool b | .str s | .nilPtr | .ptr i k | .nilSlice | .slice i k es l c x | .nilMap | .map i | .nilFunc | .nilIface | .junk=>by simp [AV.beq]
 | .func fn f c=>by simp [AV.beq,AV.kP f,AV.kP c]
 | .iface t x=>by simp [AV.beq,AV.qd x]
 | .agg cs=>by simp [AV.beq,AV.kP cs]
 | .tuple cs=>by simp [AV.beq,AV.kP cs]
theorem AV.kP:∀ xs:List AV,AV.sq xs xs=true
 | []=>rfl
 | x::xs=>by simp [AV.sq,AV.qd x,AV.kP xs]
end
def pW:List (AV × AV × Nat)->List (AV × AV × Nat)->Bool
 | [],[]=>true
 | (k,v,n)::es,(k',v',n')::es'=>AV.beq k k' && AV.beq v v' && n == n' && pW es es'
 | _,_=>false
theorem Af:∀ es es',pW es es'=true->es=es'
 | [],[],_=>rfl
 | [],_::_,h=>by simp [pW] at h
 | _::_,[],h=>by simp [pW] at h
 | (k,v,n)::es,(k',v',n')::es',h=>by
   simp only [pW,aC,beq_iff_eq] at h
   rw [AV.beq_eq _ _ h.1.1.1,AV.beq_eq _ _ h.1.1.2,h.1.2,Af _ _ h.2]
theorem vI:∀ es,pW es es=true
 | []=>rfl
 | (k,v,n)::es=>by simp [pW,AV.qd,vI es]
def bl.beq:bl->bl->Bool
 | .fresh,.fresh=>true
 | .dead,.dead=>true
 | .cells cs e,.cells cs' e'=>AV.sq cs cs' && e == e'
 | .arg cs,.arg cs'=>AV.sq cs cs'
 | .map es c,.map es' c'=>pW es es' && c == c'
 | .strIter s p,.strIter s' p'=>decide (s=s') && p == p'
 | _,_=>false
theorem bl.beq_eq (x y:bl) (h:bl.beq x y=true):x=y:=by
 cases x <;> cases y <;> simp only [bl.beq,aC,beq_iff_eq,bE,decide_eq_true_eq] at h <;> first
   | rfl
   | (rw [AV.ma _ _ h.1,h.2])
   | (rw [AV.ma _ _ h])
   | (rw [Af _ _ h.1,h.2])
   | (rw [h.1,h.2])
theorem bl.qd (x:bl):bl.beq x x=true:=by
 cases x <;> simp [bl.beq,AV.kP,vI]
def nf:AH->AH->Bool
 | [],[]=>true
 | x::xs,y::ys=>bl.beq x y && nf xs ys
 | _,_=>false
theorem yq:∀ xs ys,nf xs ys=true->xs=ys
 | [],[],_=>rfl
 | [],_::_,h=>by simp [nf] at h
 | _::_,[],h=>by simp [nf] at h
 | x::xs,y::ys,h=>by
   simp only [nf,aC] at h
   rw [bl.beq_eq x y h.1,yq xs ys h.2]
theorem tx:∀ xs,nf xs xs=true
 | []=>rfl
 | x::xs=>by simp [nf,bl.qd,tx xs]
abbrev St:=List AV × AH
def cP (gl:GL) (tm:List AV):Operand->Option AV
 | .tmp t=>some (tm.getD t uA)
 | .const v=>ofV 6 v
 | .global g=>(gl g).map fun i=>.ptr i 0
 | .func f=>some (.func (.func f) [] [])
def ef (dst:Option Tmp) (v:AV) (tm:List AV):List AV:=
 match dst with
 | some d=>tm.set d v
 | none=>tm
def cY (ops:Array Oper) (tm:List AV) (j:Nat):Option Bool:=
 match ((ops[j]?).bind (·.dst)).bind (tm[·]?) with
 | some (.bool b)=>some b
 | _=>none
def jR (P:Program) (C:Cfg P) (call:bY) (slot:Option Nat) (ops:Array Oper) (i:Nat) (s:St):Option St:=
 match ops[i]? with
 | none=>some s
 | some o =>
   if Region.wanted o (cY ops s.1) then
     match aop P C slot (cP C.gl s.1) o s.2 with
     | some (.val v,H')=>some (ef o.dst v s.1,H')
     | some (.skip,H')=>some (ef o.dst uA s.1,H')
     | some (.enter f args,H')=>(call f args H').map fun (v,H'')=>(ef o.dst v s.1,H'')
     | none=>none
   else some (ef o.dst uA s.1,s.2)
def jM (P:Program) (C:Cfg P) (call:bY) (ops:Array Oper):List Nat->St->Option St
 | [],s=>some s
 | i::is,s=>(jR P C call none ops i s).bind fun s'=>jM P C call ops is s'
def cR (P:Program) (ev:Operand->Option AV) (o:Oper):Option AV:=
 match o.op with
 | .move x=>ev x
 | .assign x=>ev x
 | .pick c a b=>(ev c).bind fun cv=>match cv with
   | .bool true=>ev a
   | .bool false=>ev b
   | _=>none
 | .binOp op t x y _=>(ev x).bind fun xv=>(ev y).bind fun yv =>
   match xv,yv with
   | .int k a,.int k' b=>match (if k=k' then fh op k a b else none) with
     | some v=>some v
     | none=>(cZ P ev o).bind fun n=>match n with | .val v=>some v | _=>none
   | _,_=>match op,ED P t xv yv with
     | .eql,some r=>some (.bool r)
     | .neq,some r=>some (.bool (!r))
     | _,_=>(cZ P ev o).bind fun n=>match n with | .val v=>some v | _=>none
 | .unOp .. | .convert .. | .index .. | .typeAssert ..=>(cZ P ev o).bind fun n=>match n with | .val v=>some v | _=>none
 | .makeInterface t x=>(ev x).bind fun v=>match P.underlying t with
   | some (.interface _)=>none
   | some _=>some (.iface t v)
   | none=>none
 | .makeFunc fn first cap=>(evL ev first.toList).bind fun f=>(evL ev cap.toList).map fun c=>.func fn f c
 | .fieldAddr t x f=>(ev x).bind fun xv=>aN P t xv f
 | .field t x f=>(ev x).bind fun xv=>pR P t xv f
 | .indexAddr t x ix=>(ev x).bind fun xv=>(ev ix).bind fun iv=>aD P t xv iv
 | .extract t ix=>(ev t).bind fun tv=>match tv with
   | .tuple vs=>vs[ix]?
   | _=>none
 | .nilCheck x=>(ev x).bind ji
 | _=>none
inductive d5 where
 | done
 | take (i:Nat) (p:d5)
 | all (l:List (Nat × d5))
 | join (p q:d5)
 | rd (i:Nat) (p:d5)
 deriving Inhabited
def uM:Op->Bool
 | .move _ | .assign _ | .pick .. | .binOp .. | .unOp .. | .convert .. | .index .. | .makeInterface .. | .makeFunc .. | .fieldAddr .. | .field .. | .indexAddr .. | .extract .. | .nilCheck _=>true
 | _=>false
def nI:Op->Bool
 | .load .. | .lookup ..=>true
 | .call c=>match c.callee with
   | .builtin .len=>true
   | _=>false
 | _=>false
def oO (o:Op):Bool:=uM o || nI o || match o with
 | .alloc _ | .box .. | .buildSlice .. | .makeSlice .. | .makeMap _ none | .slice .. | .build ..=>true
 | _=>false
def EI (ops:Array Oper):Nat->Nat->Nat->Bool
 | 0,_,_=>false
 | n+1,j,i=>match ops[j]? with
   | some oj=>oj.after.any fun e=>Region.binds .any e && (e.on == i || EI ops n e.on i)
   | none=>false
def M1 (ops:Array Oper) (L:Array Bool) (i:Nat):Bool:=((ops[i]?).map fun o=>nI o.op).getD false && Region.free .any ops L i &&
 (bn ops.size).all fun j=>j == i || L.getD j true || ((ops[j]?).map fun o=>oO o.op).getD true || EI ops ops.size j i
def Bm (ops:Array Oper) (listed:Array Bool) (i:Nat):Bool:=((ops[i]?).map fun o=>uM o.op).getD false && Region.free .any ops listed i
mutual
def ends (ops:Array Oper):d5->Nat->Array Bool->Option (Nat × Array Bool)
 | .done,n,L=>some (n,L)
 | .take i p,n,L=>match n with
   | 0=>none
   | n+1=>if (Region.ready .any ops L).contains i && Bm ops L i then ends ops p n (L.setIfInBounds i true) else none
 | .all l,n,L=>match n with
   | 0=>none
   | n+1=>if (l.map (·.1)) == Region.ready .any ops L && !l.isEmpty then n9 ops l n L none else none
 | .join p q,n,L=>(ends ops p n L).bind fun (n',L')=>ends ops q n' L'
 | .rd i p,n,L=>match n with
   | 0=>none
   | n+1=>if (Region.ready .any ops L).contains i && M1 ops L i then ends ops p n (L.setIfInBounds i true) else none
def n9 (ops:Array Oper):List (Nat × d5)->Nat->Array Bool->Option (Nat × Array Bool)->Option (Nat × Array Bool)
 | [],_,_,r=>r
 | (i,p)::l,n,L,r=>(ends ops p n (L.setIfInBounds i true)).bind fun e=>match r with
   | none=>n9 ops l n L (some e)
   | some e0=>if e0.1 == e.1 && e0.2 == e.2 then n9 ops l n L (some e0) else none
end
def AN (ops:Array Oper) (p:d5):Bool:=match ends ops p ops.size (Array.replicate ops.size false) with
 | some (_,L)=>(Region.ready .any ops L).isEmpty
 | none=>false
theorem H4 (ops:Array Oper) (n:Nat) (L:Array Bool):ends ops .done n L=some (n,L):=by unfold ends; rfl
theorem H3 (ops:Array Oper) (p q:d5) (n:Nat) (L:Array Bool):ends ops (.join p q) n L=(ends ops p n L).bind fun e=>ends ops q e.1 e.2:=by conv=>lhs; unfold ends
theorem EE (ops:Array Oper) (i:Nat) (p:d5) (L:Array Bool):ends ops (.take i p) 0 L=none:=by unfold ends; rfl
theorem HZ (ops:Array Oper) (i:Nat) (p:d5) (n:Nat) (L:Array Bool):ends ops (.take i p) (n+1) L=if (Region.ready .any ops L).contains i && Bm ops L i then ends ops p n (L.setIfInBounds i true) else none:=by conv=>lhs; unfold ends
theorem LQ (ops:Array Oper) (i:Nat) (p:d5) (L:Array Bool):ends ops (.rd i p) 0 L=none:=by unfold ends; rfl
theorem Qd (ops:Array Oper) (i:Nat) (p:d5) (n:Nat) (L:Array Bool):ends ops (.rd i p) (n+1) L=if (Region.ready .any ops L).contains i && M1 ops L i then ends ops p n (L.setIfInBounds i true) else none:=by conv=>lhs; unfold ends
theorem H5 (ops:Array Oper) (l:List (Nat × d5)) (L:Array Bool):ends ops (.all l) 0 L=none:=by unfold ends; rfl
theorem LR (ops:Array Oper) (l:List (Nat × d5)) (n:Nat) (L:Array Bool):ends ops (.all l) (n+1) L=if (l.map (·.1)) == Region.ready .any ops L && !l.isEmpty then n9 ops l n L none else none:=by conv=>lhs; unfold ends
theorem H6 (ops:Array Oper) (n:Nat) (L:Array Bool) (r:Option (Nat × Array Bool)):n9 ops [] n L r=r:=by unfold n9; rfl
theorem yE (ops:Array Oper) (i:Nat) (p:d5) (l:List (Nat × d5)) (n:Nat) (L:Array Bool) (r:Option (Nat × Array Bool)):n9 ops ((i,p)::l) n L r=(ends ops p n (L.setIfInBounds i true)).bind fun e=>match r with
   | none=>n9 ops l n L (some e)
   | some e0=>if e0.1 == e.1 && e0.2 == e.2 then n9 ops l n L (some e0) else none:=by conv=>lhs; unfold n9
def py (a b:St):Bool:=AV.sq a.1 b.1 && nf a.2 b.2
theorem xc {a b:St} (h:py a b=true):a=b:=by
 simp only [py,aC] at h
 exact Prod.ext (AV.ma _ _ h.1) (yq _ _ h.2)
theorem cA (a:St):py a a=true:=by simp [py,AV.kP,tx]
def fm (P:Program) (ev:Operand->Option AV) (o:Oper) (H:AH):Option AV:=
 match o.op with
 | .load t a=>(ev a).bind fun av=>match av with
   | .ptr i k=>ldA P t H i k
   | _=>none
 | .lookup t m k ok=>(ev m).bind fun mv=>(ev k).bind fun kv=>iB P t mv kv ok H
 | .slice t x lo hi mx=>(ev x).bind fun xv=>(evO ev lo).bind fun l=>(evO ev hi).bind fun h=>(evO ev mx).bind fun m=>kf P t H xv l h m
 | .call c=>match c.callee with
   | .builtin .len=>(evL ev c.args.toList).bind fun as=>match as with
     | [x]=>(c.argTypes[0]?).bind fun t=>dQ P t H x
     | _=>none
   | _=>none
 | _=>cR P ev o
mutual
def bZ (P:Program) (C:Cfg P) (call:bY) (base:Nat) (ops:Array Oper):d5->St->Option St
 | .done,s=>some s
 | .take i p,s =>
   match ops[i]? with
   | none=>none
   | some o=>(if Region.wanted o (cY ops s.1) then cR P (cP C.gl s.1) o else some uA).bind fun v =>
       bZ P C call base ops p (ef o.dst v s.1,s.2)
 | .all l,s=>eJ P C call base ops l s none
 | .rd i p,s =>
   match ops[i]? with
   | none=>none
   | some o=>(if Region.wanted o (cY ops s.1) then fm P (cP C.gl s.1) o s.2 else some uA).bind fun v =>
       bZ P C call base ops p (ef o.dst v s.1,s.2)
 | .join p q,s=>(bZ P C call base ops p s).bind fun t=>bZ P C call base ops q t
def eJ (P:Program) (C:Cfg P) (call:bY) (base:Nat) (ops:Array Oper):List (Nat × d5)->St->Option St->Option St
 | [],_,r=>r
 | (i,p)::l,s,r=>(jR P C call (some (base+i)) ops i s).bind fun s'=>(bZ P C call base ops p s').bind fun t =>
   match r with
   | none=>eJ P C call base ops l s (some t)
   | some t0=>if py t0 t then eJ P C call base ops l s (some t0) else none
end
inductive bs where
 | normal
 | exit (id:Nat)
 | ret
 deriving Inhabited
def ko (f:St->Option (bs × St)):Nat->St->Option (bs × St)
 | 0,_=>none
 | n+1,s=>match f s with
   | some (.normal,s')=>ko f n s'
   | r=>r
def ch:Op->Bool
 | .alloc _ | .box .. | .buildSlice .. | .makeSlice .. | .makeMap ..=>true
 | .call { callee:=.builtin .append,.. }=>true
 | _=>false
def js (P:Program) (gl:GL) (ops:Array Oper):List Oper->St->Option St
 | [],s=>some s
 | o::os,s=>if Region.wanted o (cY ops s.1) then (fm P (cP gl s.1) o s.2).bind fun v=>js P gl ops os (ef o.dst v s.1,s.2) else js P gl ops os (ef o.dst uA s.1,s.2)
def gK (P:Program) (C:Cfg P) (call:bY) (ev:Operand->Option AV) (o:Oper) (H:AH):Option AV:=
 match o.op with
 | .call c=>match c.callee with
   | .builtin _=>fm P ev o H
   | _=>(fZ P C none ev o c H).bind fun r=>match r with
     | (.enter f args,_)=>if C.reads f then (call f args H).map (·.1) else none
     | _=>none
 | _=>fm P ev o H
def gO (P:Program) (C:Cfg P) (call:bY) (ops:Array Oper):List Oper->St->Option St
 | [],s=>some s
 | o::os,s=>if Region.wanted o (cY ops s.1) then (gK P C call (cP C.gl s.1) o s.2).bind fun v=>gO P C call ops os (ef o.dst v s.1,s.2) else gO P C call ops os (ef o.dst uA s.1,s.2)
inductive Way where
 | plan (p:d5)
 | reads
 | tail (n:Nat)
 | mix (p:d5) (k:Nat)
 | known (p:d5) (l:List (St × St))
 | calm
def w6 (ops:Array Oper):Way->Bool
 | .plan p=>Region.noSelect ops && AN ops p
 | .reads=>Region.lexB .any ops
 | .tail n=>Region.lexTailB .any ops.toList.toArray n
 | .mix _ _=>false
 | .known p _=>Region.noSelect ops && AN ops p
 | .calm=>Region.lexB .any ops
def Ay (P:Program) (ops:Array Oper):Way->Prop
 | .known p l=>∀ e∈l,∀ (C:Cfg P) (call:bY),bZ P C call e.1.2.length ops p (e.1.1,if ops.any (ch ·.op) then e.1.2++ay ops.size .fresh else e.1.2)=some e.2
 | _=>True
def gD (P:Program) (pl:Nat->Option Way):Code->Prop
 | .region id ops true=>match pl id with
   | some p=>Ay P ops p
   | none=>True
 | .seq a b=>gD P pl a/\gD P pl b
 | .cond _ x y=>gD P pl x/\gD P pl y
 | .block _ b=>gD P pl b
 | .loop b=>gD P pl b
 | _=>True
def cQ (pl:Nat->Option Way):Code->Bool
 | .region id ops true=>match pl id with
   | some p=>w6 ops p
   | none=>true
 | .seq a b=>cQ pl a && cQ pl b
 | .cond _ x y=>cQ pl x && cQ pl y
 | .block _ b=>cQ pl b
 | .loop b=>cQ pl b
 | _=>true
structure ph (P:Program) where
 pl:FuncId->Nat->Option Way
 ok:∀ f fn c,P.funcs[f]? =some fn->fn.body=some c->cQ (pl f) c=true/\gD P (pl f) c
def evC (P:Program) (C:Cfg P) (call:bY) (pl:Nat->Option Way) (n:Nat):Code->St->Option (bs × St)
 | .skip,s=>some (.normal,s)
 | .region _ ops false,s=>(jM P C call ops (bn ops.size) s).map fun s'=>(.normal,s')
 | .region id ops true,s =>
   match pl id with
   | some (.plan p)=>(bZ P C call s.2.length ops p (s.1,if ops.any (ch ·.op) then s.2++ay ops.size .fresh else s.2)).map fun s'=>(.normal,s')
   | some .reads=>(js P C.gl ops ops.toList s).map fun s'=>(.normal,s')
   | some (.tail k)=>(js P C.gl ops (ops.toList.take k) s).bind fun s1=>(jM P C call ops (List.range' k (ops.toList.drop k).length) s1).map fun s'=>(.normal,s')
   | some (.mix p k)=>(bZ P C call s.2.length ops p (s.1,if ops.any (ch ·.op) then s.2++ay ops.size .fresh else s.2)).bind fun s1=>(js P C.gl ops (ops.toList.drop k) s1).map fun s'=>(.normal,s')
   | some (.known _ l)=>(l.find? fun e=>py e.1 s).map fun e=>(.normal,e.2)
   | some .calm=>(gO P C call ops ops.toList s).map fun s'=>(.normal,s')
   | none=>none
 | .seq a b,s=>match evC P C call pl n a s with
   | some (.normal,s')=>evC P C call pl n b s'
   | r=>r
 | .cond c x y,s=>match cP C.gl s.1 c with
   | some (.bool true)=>evC P C call pl n x s
   | some (.bool false)=>evC P C call pl n y s
   | _=>none
 | .block id body,s=>match evC P C call pl n body s with
   | some (.exit id',s')=>if id'=id then some (.normal,s') else some (.exit id',s')
   | r=>r
 | .loop body,s=>ko (fun s=>evC P C call pl n body s) n s
 | .exit id,s=>some (.exit id,s)
 | .ret,s=>some (.ret,s)
 | _,_=>none
def jb (P:Program) (tm:List AV) (H:AH):List ResultVar->Option (List AV)
 | []=>some []
 | .tmp t::rs=>(jb P tm H rs).map (tm.getD t uA::·)
 | .cell a t::rs=>match tm.getD a uA with
   | .ptr i k=>(ldA P t H i k).bind fun v=>(jb P tm H rs).map (v::·)
   | _=>none
def mr (P:Program) (fn:Func) (s:St):Option (AV × AH):=
 (jb P s.1 s.2 fn.results.toList).map fun vs=>(match vs with | [v]=>v | vs=>.tuple vs,s.2)
def cO (P:Program) (C:Cfg P) (W:ph P):Nat->bY
 | 0,_,_,_=>none
 | n+1,f,args,H=>match C.orc f args H with
   | some r=>some r
   | none=>(P.funcs[f]?).bind fun fn=>fn.body.bind fun c =>
     match evC P C (cO P C W n) (W.pl f) n c (args++ay (fn.ntmps - args.length) uA,if C.reads f then ro H else H) with
     | some (.normal,s)=>(mr P fn s).bind (kF (C.reads f) H)
     | some (.ret,s)=>(mr P fn s).bind (kF (C.reads f) H)
     | _=>none
end Go.Dv
