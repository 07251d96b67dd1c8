/- Part 05 of the walks (own work). -/
import Derived.Test.YtilpjnckfkjkbaaGreatDoorS04
import Derived.StillTail
open Bool renaming and_eq_true→aD,false_eq_true→bD
open List renaming getElem?_map→aI,range→bn,replicate→aA
open Nat renaming le_refl→ax,lt_of_lt_of_le→bm
open Option renaming bind_eq_some_iff→ae,isSome_iff_exists→yl,map_eq_some_iff→ah,map_some→cE
open Option.some renaming inj→aC,injEq→aS
set_option maxRecDepth 100000
set_option maxHeartbeats 4000000
set_option linter.unusedSimpArgs false
set_option linter.unusedVariables false
namespace Go.Dv
mutual
theorem zN {φ:Env}:∀ (x:AV) (v:Value),toV x=some v->VR φ x v
 | .int ..,v,h=>by simp only [toV,aS] at h; exact h.symm
 | .bool ..,v,h=>by simp only [toV,aS] at h; exact h.symm
 | .str ..,v,h=>by simp only [toV,aS] at h; exact h.symm
 | .nilPtr,v,h=>by simp only [toV,aS] at h; exact h.symm
 | .nilSlice,v,h=>by simp only [toV,aS] at h; exact h.symm
 | .nilMap,v,h=>by simp only [toV,aS] at h; exact h.symm
 | .nilFunc,v,h=>by simp only [toV,aS] at h; exact h.symm
 | .nilIface,v,h=>by simp only [toV,aS] at h; exact h.symm
 | .ptr ..,v,h=>by simp [toV] at h
 | .slice ..,v,h=>by simp [toV] at h
 | .map ..,v,h=>by simp [toV] at h
 | .junk,v,h=>by simp [toV] at h
 | .iface t x,v,h=>by
   simp only [toV,ah] at h
   obtain ⟨y,hy,rfl⟩:=h
   exact ⟨y,rfl,zN x y hy⟩
 | .agg cs,v,h=>by
   simp only [toV,ah] at h
   obtain ⟨y,hy,rfl⟩:=h
   exact ⟨_,rfl,qd cs y hy⟩
 | .tuple cs,v,h=>by
   simp only [toV,ah] at h
   obtain ⟨y,hy,rfl⟩:=h
   exact ⟨_,rfl,qd cs y hy⟩
 | .func fn f c,v,h=>by
   simp only [toV,ae,ah] at h
   obtain ⟨y,hy,z,hz,rfl⟩:=h
   exact ⟨_,_,rfl,qd f y hy,qd c z hz⟩
theorem qd {φ:Env}:∀ (xs:List AV) (l:List Value),tK xs=some l->VRs φ xs l
 | [],l,h=>by simp only [tK,aS] at h; exact h.symm
 | x::xs,l,h=>by
   simp only [tK,ae,ah] at h
   obtain ⟨y,hy,z,hz,rfl⟩:=h
   exact ⟨_,_,rfl,zN x y hy,qd xs z hz⟩
end
theorem zM {φ ψ:Env} {x:AV} {u:Value} (h:(toV x).isSome=true) (r:VR φ x u):VR ψ x u:=by
 obtain ⟨v,hv⟩:=yl.1 h
 rw [jl x v hv u r]
 exact zN x v hv
theorem HF {φ ψ:Env} {xs:List AV} {us:List Value} (h:(tK xs).isSome=true) (r:VRs φ xs us):VRs ψ xs us:=by
 obtain ⟨v,hv⟩:=yl.1 h
 rw [l5 xs v hv us r]
 exact qd xs v hv
theorem WR.start (w:World):WR w (fun b=>b < w.heap.size) (fun _=>none) [] w where
 dom:=fun _ _=>rfl
 fresh:=fun _ _=>rfl
 lt:=fun i x h=>by cases h
 inj:=fun i j x y hi hj hx=>by cases hx
 own:=fun i x hi hx=>by cases hx
 jb:=fun i x cs hi hx=>by cases hx
 obj:=fun i o h=>by simp at h
 prLt:=fun b h=>h
 size:=ax _
 os:=rfl
 tape:=rfl
 output:=rfl
 old:=fun _ _=>rfl
theorem WR.later {w0:World} {Pr:Nat->Prop} {φ:Env} {H:AH} {w w':World} (h:WR w0 Pr φ H w) (hs:w.heap.size<=w'.heap.size)
   (hb:∀ b,b < w.heap.size->w'.heap[b]? =w.heap[b]?) (hos:w'.os=w.os) (htp:w'.tape=w.tape) (hout:w'.output=w.output):WR w0 Pr φ H w' where
 dom:=h.dom
 fresh:=h.fresh
 lt:=fun i x hx=>bm (h.lt i x hx) hs
 inj:=h.inj
 own:=h.own
 jb:=h.jb
 obj:=fun i o ho=>(h.obj i o ho).ll (Env.le_refl φ) fun x hx=>hb _ (h.lt i x hx)
 prLt:=h.prLt
 size:=Nat.le_trans h.size hs
 os:=hos.trans h.os
 tape:=htp.trans h.tape
 output:=hout.trans h.output
 old:=fun b hp=>(hb b (bm (h.prLt b hp) h.size)).trans (h.old b hp)
def roO:bo->bo
 | .cells cs _=>.arg cs
 | .arg cs=>.arg cs
 | _=>.dead
def ro (H:AH):AH:=H.map roO
theorem zT {H:AH} {i:Nat} {o:bo} (h:(ro H)[i]? =some o):∃ o',H[i]? =some o'/\o=roO o':=by
 simp only [ro,aI,ah] at h
 obtain ⟨o',h1,h2⟩:=h
 exact ⟨o',h1,h2.symm⟩
theorem wN {H:AH} {i k n:Nat} {xs:List AV} (h:ak H i k n=some xs):ak (ro H) i k n=some xs:=by
 unfold ak at h ⊢
 simp only [ro,aI]
 cases hi:H[i]? with
 | none=>rw [hi] at h; exact h
 | some o =>
   rw [hi] at h
   cases o <;> simp only [cE,roO] at h ⊢ <;> first
     | exact h
     | (cases h; done)
theorem WR.reads {w0:World} {Pr:Nat->Prop} {φ:Env} {H:AH} {w:World} (h:WR w0 Pr φ H w):WR w (fun b=>b < w.heap.size) φ (ro H) w where
 dom:=fun i hi=>h.dom i (by simpa [ro] using hi)
 fresh:=fun i hi=>by
   obtain ⟨o,_,ho⟩:=zT hi
   cases o <;> cases ho
 lt:=h.lt
 inj:=fun i j x y ⟨o,hi,hw⟩=>by
   obtain ⟨o',_,rfl⟩:=zT hi
   cases o' <;> cases hw
 own:=fun i x ⟨o,hi,hw⟩=>by
   obtain ⟨o',_,rfl⟩:=zT hi
   cases o' <;> cases hw
 jb:=fun i x cs _ hx=>h.lt i x hx
 obj:=fun i o hi=>by
   obtain ⟨o',hi',rfl⟩:=zT hi
   have ho:=h.obj i o' hi'
   cases o' with
   | fresh=>trivial
   | dead=>trivial
   | map=>trivial
   | strIter=>trivial
   | arg cs=>exact ho
   | cells cs e =>
     obtain ⟨b,o,z,c,hφ,hb,hz,hl,hv⟩:=ho
     refine ⟨b,o,z,hφ,fun j v hj=>?_⟩
     obtain ⟨u,hu,r⟩:=hv j v hj
     refine ⟨u,?_,r⟩
     unfold World.cell?
     simp [hb,hu]
 prLt:=fun b h=>h
 size:=ax _
 os:=rfl
 tape:=rfl
 output:=rfl
 old:=fun _ _=>rfl
def okC (H:AH) (i:Nat):Bool:=match H[i]? with
 | some (.cells _ _) | some (.arg _)=>true
 | _=>false
def okM (H:AH) (i:Nat):Bool:=match H[i]? with
 | some (.map _ _)=>true
 | _=>false
mutual
def ox (H:AH):AV->Bool
 | .ptr i _ | .slice i _ _ _ _ _=>okC H i
 | .map i=>okM H i
 | .func _ f c=>yN H f && yN H c
 | .iface _ x=>ox H x
 | .agg l | .tuple l=>yN H l
 | .int .. | .bool .. | .str .. | .nilPtr | .nilSlice | .nilMap | .nilFunc | .nilIface | .junk=>true
def yN (H:AH):List AV->Bool
 | []=>true
 | x::xs=>ox H x && yN H xs
end
theorem Et {w0:World} {Pr:Nat->Prop} {φ ψ:Env} {H:AH} {w:World} (hW:WR w0 Pr φ H w) (hle:φ.le ψ) {i:Nat} (h:okC H i=true):ψ i=φ i:=by
 unfold okC at h
 split at h
 · rename_i cs e hi
   obtain ⟨b,o,z,c,hp,_⟩:=hW.obj _ _ hi
   rw [hp,hle _ _ hp]
 · rename_i cs hi
   obtain ⟨b,o,z,hp,_⟩:=hW.obj _ _ hi
   rw [hp,hle _ _ hp]
 · cases h
theorem Oq {w0:World} {Pr:Nat->Prop} {φ ψ:Env} {H:AH} {w:World} (hW:WR w0 Pr φ H w) (hle:φ.le ψ) {i:Nat} (h:okM H i=true):ψ i=φ i:=by
 unfold okM at h
 split at h
 · rename_i cs e hi
   obtain ⟨b,z,es,hp,_⟩:=hW.obj _ _ hi
   rw [hp,hle _ _ hp]
 · cases h
mutual
theorem vS {w0:World} {Pr:Nat->Prop} {φ ψ:Env} {H:AH} {w:World} (hW:WR w0 Pr φ H w) (hle:φ.le ψ):∀ (x:AV) (u:Value),ox H x=true->VR ψ x u->VR φ x u
 | .int ..,_,_,r=>r
 | .bool ..,_,_,r=>r
 | .str ..,_,_,r=>r
 | .nilPtr,_,_,r=>r
 | .nilSlice,_,_,r=>r
 | .nilMap,_,_,r=>r
 | .nilFunc,_,_,r=>r
 | .nilIface,_,_,r=>r
 | .junk,_,_,r=>r
 | .ptr i k,_,h,⟨b,o,z,e,r⟩=>⟨b,o,z,by rw [<-Et hW hle (by simpa only [ox] using h)]; exact e,r⟩
 | .slice i k es len cap ex,_,h,⟨a,c,r,s,t,u⟩=>⟨a,c,r,s,t,u.imp id fun ⟨b,o,z,e,q⟩=>⟨b,o,z,by rw [<-Et hW hle (by simpa only [ox] using h)]; exact e,q⟩⟩
 | .map i,_,h,⟨b,z,e,r⟩=>⟨b,z,by rw [<-Oq hW hle (by simpa only [ox] using h)]; exact e,r⟩
 | .func fn f c,_,h,⟨f',c',e,r,s⟩=>by
   simp only [ox,aD] at h
   exact ⟨f',c',e,pw hW hle f _ h.1 r,pw hW hle c _ h.2 s⟩
 | .iface t x,_,h,⟨u,e,r⟩=>⟨u,e,vS hW hle x _ (by simpa only [ox] using h) r⟩
 | .agg l,_,h,⟨us,e,r⟩=>⟨us,e,pw hW hle l _ (by simpa only [ox] using h) r⟩
 | .tuple l,_,h,⟨us,e,r⟩=>⟨us,e,pw hW hle l _ (by simpa only [ox] using h) r⟩
theorem pw {w0:World} {Pr:Nat->Prop} {φ ψ:Env} {H:AH} {w:World} (hW:WR w0 Pr φ H w) (hle:φ.le ψ):∀ (xs:List AV) (l:List Value),yN H xs=true->VRs ψ xs l->VRs φ xs l
 | [],_,_,r=>r
 | x::xs,_,h,⟨u,us,e,r,s⟩=>by
   simp only [yN,aD] at h
   exact ⟨u,us,e,vS hW hle x _ h.1 r,pw hW hle xs _ h.2 s⟩
end
def kj (b:Bool) (H:AH) (r:AV × AH):Option (AV × AH):=if b then (if ox H r.1 then some (r.1,H) else none) else some r
theorem zh {H:AH} {r:AV × AH} {v:AV} {H':AH} (h:kj true H r=some (v,H')):H'=H:=by
 unfold kj at h
 rw [if_pos rfl] at h
 split at h
 · exact (Prod.mk.inj (aC h)).2.symm
 · cases h
mutual
def AV.beq:AV->AV->Bool
 | .int k n,.int k' n'=>k == k' && n == n'
 | .bool b,.bool b'=>b == b'
 | .str s,.str s'=>decide (s=s')
 | .nilPtr,.nilPtr=>true
 | .ptr i k,.ptr i' k'=>i == i' && k == k'
 | .nilSlice,.nilSlice=>true
 | .slice i k es l c x,.slice i' k' es' l' c' x'=>i == i' && k == k' && es == es' && l == l' && c == c' && x == x'
 | .nilMap,.nilMap=>true
 | .map i,.map i'=>i == i'
 | .func fn f c,.func fn' f' c'=>decide (fn=fn') && AV.rY f f' && AV.rY c c'
 | .nilFunc,.nilFunc=>true
 | .iface t x,.iface t' x'=>t == t' && AV.beq x x'
 | .nilIface,.nilIface=>true
 | .agg cs,.agg cs'=>AV.rY cs cs'
 | .tuple cs,.tuple cs'=>AV.rY cs cs'
 | .junk,.junk=>true
 | _,_=>false
def AV.rY:List AV->List AV->Bool
 | [],[]=>true
 | x::xs,y::ys=>AV.beq x y && AV.rY xs ys
 | _,_=>false
end
mutual
theorem AV.beq_eq:∀ x y:AV,AV.beq x y=true->x=y
 | .int k n,y,h=>by cases y <;> simp_all [AV.beq]
 | .bool b,y,h=>by cases y <;> simp_all [AV.beq]
 | .str s,y,h=>by cases y <;> simp_all [AV.beq]
 | .nilPtr,y,h=>by cases y <;> simp_all [AV.beq]
 | .ptr i k,y,h=>by cases y <;> simp_all [AV.beq]
 | .nilSlice,y,h=>by cases y <;> simp_all [AV.beq]
 | .slice i k es l c x,y,h=>by cases y <;> simp_all [AV.beq]
 | .nilMap,y,h=>by cases y <;> simp_all [AV.beq]
 | .map i,y,h=>by cases y <;> simp_all [AV.beq]
 | .func fn f c,y,h=>by
   cases y <;> simp only [AV.beq,aD,decide_eq_true_eq,bD] at h
   rw [h.1.1,AV.lV f _ h.1.2,AV.lV c _ h.2]
 | .nilFunc,y,h=>by cases y <;> simp_all [AV.beq]
 | .iface t x,y,h=>by
   cases y <;> simp only [AV.beq,aD,beq_iff_eq,bD] at h
   rw [h.1,AV.beq_eq x _ h.2]
 | .nilIface,y,h=>by cases y <;> simp_all [AV.beq]
 | .junk,y,h=>by cases y <;> simp_all [AV.beq]
 | .agg cs,y,h=>by
   cases y <;> simp only [AV.beq,bD] at h
   rw [AV.lV cs _ h]
 | .tuple cs,y,h=>by
   cases y <;> simp only [AV.beq,bD] at h
   rw [AV.lV cs _ h]
theorem AV.lV:∀ xs ys:List AV,AV.rY xs ys=true->xs=ys
 | [],[],_=>rfl
 | [],_::_,h=>by simp [AV.rY] at h
 | _::_,[],h=>by simp [AV.rY] at h
 | x::xs,y::ys,h=>by
   simp only [AV.rY,aD] at h
   rw [AV.beq_eq x y h.1,AV.lV xs ys h.2]
end
mutual
theorem AV.pR:∀ x:AV,AV.beq x x=true
 | .int k n | .bool b | .str s | .nilPtr | .ptr i k | .nilSlice | .slice i k es l c x | .nilMap | .map i | .nilFunc | .nilIface | .junk=>by simp [AV.beq]
 | .func fn f c=>by simp [AV.beq,AV.kC f,AV.kC c]
 | .iface t x=>by simp [AV.beq,AV.pR x]
 | .agg cs=>by simp [AV.beq,AV.kC cs]
 | .tuple cs=>by simp [AV.beq,AV.kC cs]
theorem AV.kC:∀ xs:List AV,AV.rY xs xs=true
 | []=>rfl
 | x::xs=>by simp [AV.rY,AV.pR x,AV.kC xs]
end
def pN:List (AV × AV × Nat)->List (AV × AV × Nat)->Bool
 | [],[]=>true
 | (k,v,n)::es,(k',v',n')::es'=>AV.beq k k' && AV.beq v v' && n == n' && pN es es'
 | _,_=>false
theorem zm:∀ es es',pN es es'=true->es=es'
 | [],[],_=>rfl
 | [],_::_,h=>by simp [pN] at h
 | _::_,[],h=>by simp [pN] at h
 | (k,v,n)::es,(k',v',n')::es',h=>by
   simp only [pN,aD,beq_iff_eq] at h
   rw [AV.beq_eq _ _ h.1.1.1,AV.beq_eq _ _ h.1.1.2,h.1.2,zm _ _ h.2]
theorem vg:∀ es,pN es es=true
 | []=>rfl
 | (k,v,n)::es=>by simp [pN,AV.pR,vg es]
def bo.beq:bo->bo->Bool
 | .fresh,.fresh=>true
 | .dead,.dead=>true
 | .cells cs e,.cells cs' e'=>AV.rY cs cs' && e == e'
 | .arg cs,.arg cs'=>AV.rY cs cs'
 | .map es c,.map es' c'=>pN es es' && c == c'
 | .strIter s p,.strIter s' p'=>decide (s=s') && p == p'
 | _,_=>false
theorem bo.beq_eq (x y:bo) (h:bo.beq x y=true):x=y:=by
 cases x <;> cases y <;> simp only [bo.beq,aD,beq_iff_eq,bD,decide_eq_true_eq] at h <;> first
   | rfl
   | (rw [AV.lV _ _ h.1,h.2])
   | (rw [AV.lV _ _ h])
   | (rw [zm _ _ h.1,h.2])
   | (rw [h.1,h.2])
theorem bo.pR (x:bo):bo.beq x x=true:=by
 cases x <;> simp [bo.beq,AV.kC,vg]
def mO:AH->AH->Bool
 | [],[]=>true
 | x::xs,y::ys=>bo.beq x y && mO xs ys
 | _,_=>false
theorem xE:∀ xs ys,mO xs ys=true->xs=ys
 | [],[],_=>rfl
 | [],_::_,h=>by simp [mO] at h
 | _::_,[],h=>by simp [mO] at h
 | x::xs,y::ys,h=>by
   simp only [mO,aD] at h
   rw [bo.beq_eq x y h.1,xE xs ys h.2]
theorem s5:∀ xs,mO xs xs=true
 | []=>rfl
 | x::xs=>by simp [mO,bo.pR,s5 xs]
abbrev St:=List AV × AH
def cz (gl:GL) (tm:List AV):Operand->Option AV
 | .tmp t=>some (tm.getD t uA)
 | .const v=>ofV 6 v
 | .global g=>(gl g).map fun i=>.ptr i 0
 | .func f=>some (.func (.func f) [] [])
def dY (dst:Option Tmp) (v:AV) (tm:List AV):List AV:=
 match dst with
 | some d=>tm.set d v
 | none=>tm
def cL (ops:Array Oper) (tm:List AV) (j:Nat):Option Bool:=
 match ((ops[j]?).bind (·.dst)).bind (tm[·]?) with
 | some (.bool b)=>some b
 | _=>none
def jF (P:Program) (C:Cfg P) (call:bT) (slot:Option Nat) (ops:Array Oper) (i:Nat) (s:St):Option St:=
 match ops[i]? with
 | none=>some s
 | some o =>
   if Region.wanted o (cL ops s.1) then
     match aop P C slot (cz C.gl s.1) o s.2 with
     | some (.val v,H')=>some (dY o.dst v s.1,H')
     | some (.skip,H')=>some (dY o.dst uA s.1,H')
     | some (.enter f args,H')=>(call f args H').map fun (v,H'')=>(dY o.dst v s.1,H'')
     | none=>none
   else some (dY o.dst uA s.1,s.2)
def jz (P:Program) (C:Cfg P) (call:bT) (ops:Array Oper):List Nat->St->Option St
 | [],s=>some s
 | i::is,s=>(jF P C call none ops i s).bind fun s'=>jz P C call ops is s'
def cB (P:Program) (ev:Operand->Option AV) (o:Oper):Option AV:=
 match o.op with
 | .move x=>ev x
 | .assign x=>ev x
 | .pick c a b=>(ev c).bind fun cv=>match cv with
   | .bool true=>ev a
   | .bool false=>ev b
   | _=>none
 | .binOp op t x y _=>(ev x).bind fun xv=>(ev y).bind fun yv =>
   match xv,yv with
   | .int k a,.int k' b=>match (if k=k' then eV op k a b else none) with
     | some v=>some v
     | none=>(cM P ev o).bind fun n=>match n with | .val v=>some v | _=>none
   | _,_=>match op,DN P t xv yv with
     | .eql,some r=>some (.bool r)
     | .neq,some r=>some (.bool (!r))
     | _,_=>(cM P ev o).bind fun n=>match n with | .val v=>some v | _=>none
 | .unOp .. | .convert .. | .index .. | .typeAssert ..=>(cM P ev o).bind fun n=>match n with | .val v=>some v | _=>none
 | .makeInterface t x=>(ev x).bind fun v=>match P.underlying t with
   | some (.interface _)=>none
   | some _=>some (.iface t v)
   | none=>none
 | .makeFunc fn first cap=>(evL ev first.toList).bind fun f=>(evL ev cap.toList).map fun c=>.func fn f c
 | .fieldAddr t x f=>(ev x).bind fun xv=>aN P t xv f
 | .field t x f=>(ev x).bind fun xv=>pH P t xv f
 | .indexAddr t x ix=>(ev x).bind fun xv=>(ev ix).bind fun iv=>aG P t xv iv
 | .extract t ix=>(ev t).bind fun tv=>match tv with
   | .tuple vs=>vs[ix]?
   | _=>none
 | .nilCheck x=>(ev x).bind iW
 | _=>none
inductive dM where
 | done
 | take (i:Nat) (p:dM)
 | all (l:List (Nat × dM))
 | join (p q:dM)
 | rd (i:Nat) (p:dM)
 deriving Inhabited
def uf:Op->Bool
 | .move _ | .assign _ | .pick .. | .binOp .. | .unOp .. | .convert .. | .index .. | .makeInterface .. | .makeFunc .. | .fieldAddr .. | .field .. | .indexAddr .. | .extract .. | .nilCheck _=>true
 | _=>false
def nj:Op->Bool
 | .load .. | .lookup ..=>true
 | .call c=>match c.callee with
   | .builtin .len=>true
   | _=>false
 | _=>false
def oF (o:Op):Bool:=uf o || nj o || match o with
 | .alloc _ | .box .. | .buildSlice .. | .makeSlice .. | .makeMap _ none | .slice .. | .build ..=>true
 | _=>false
def DS (ops:Array Oper):Nat->Nat->Nat->Bool
 | 0,_,_=>false
 | n+1,j,i=>match ops[j]? with
   | some oj=>oj.after.any fun e=>Region.binds .any e && (e.on == i || DS ops n e.on i)
   | none=>false
def L5 (ops:Array Oper) (L:Array Bool) (i:Nat):Bool:=((ops[i]?).map fun o=>nj o.op).getD false && Region.free .any ops L i &&
 (bn ops.size).all fun j=>j == i || L.getD j true || ((ops[j]?).map fun o=>oF o.op).getD true || DS ops ops.size j i
def Ay (ops:Array Oper) (listed:Array Bool) (i:Nat):Bool:=((ops[i]?).map fun o=>uf o.op).getD false && Region.free .any ops listed i
mutual
def ends (ops:Array Oper):dM->Nat->Array Bool->Option (Nat × Array Bool)
 | .done,n,L=>some (n,L)
 | .take i p,n,L=>match n with
   | 0=>none
   | n+1=>if (Region.ready .any ops L).contains i && Ay ops L i then ends ops p n (L.setIfInBounds i true) else none
 | .all l,n,L=>match n with
   | 0=>none
   | n+1=>if (l.map (·.1)) == Region.ready .any ops L && !l.isEmpty then nQ ops l n L none else none
 | .join p q,n,L=>(ends ops p n L).bind fun (n',L')=>ends ops q n' L'
 | .rd i p,n,L=>match n with
   | 0=>none
   | n+1=>if (Region.ready .any ops L).contains i && L5 ops L i then ends ops p n (L.setIfInBounds i true) else none
def nQ (ops:Array Oper):List (Nat × dM)->Nat->Array Bool->Option (Nat × Array Bool)->Option (Nat × Array Bool)
 | [],_,_,r=>r
 | (i,p)::l,n,L,r=>(ends ops p n (L.setIfInBounds i true)).bind fun e=>match r with
   | none=>nQ ops l n L (some e)
   | some e0=>if e0.1 == e.1 && e0.2 == e.2 then nQ ops l n L (some e0) else none
end
def zX (ops:Array Oper) (p:dM):Bool:=match ends ops p ops.size (Array.replicate ops.size false) with
 | some (_,L)=>(Region.ready .any ops L).isEmpty
 | none=>false
theorem GZ (ops:Array Oper) (n:Nat) (L:Array Bool):ends ops .done n L=some (n,L):=by unfold ends; rfl
theorem GY (ops:Array Oper) (p q:dM) (n:Nat) (L:Array Bool):ends ops (.join p q) n L=(ends ops p n L).bind fun e=>ends ops q e.1 e.2:=by conv=>lhs; unfold ends
theorem DO (ops:Array Oper) (i:Nat) (p:dM) (L:Array Bool):ends ops (.take i p) 0 L=none:=by unfold ends; rfl
theorem GX (ops:Array Oper) (i:Nat) (p:dM) (n:Nat) (L:Array Bool):ends ops (.take i p) (n+1) L=if (Region.ready .any ops L).contains i && Ay ops L i then ends ops p n (L.setIfInBounds i true) else none:=by conv=>lhs; unfold ends
theorem KR (ops:Array Oper) (i:Nat) (p:dM) (L:Array Bool):ends ops (.rd i p) 0 L=none:=by unfold ends; rfl
theorem Pe (ops:Array Oper) (i:Nat) (p:dM) (n:Nat) (L:Array Bool):ends ops (.rd i p) (n+1) L=if (Region.ready .any ops L).contains i && L5 ops L i then ends ops p n (L.setIfInBounds i true) else none:=by conv=>lhs; unfold ends
theorem G2 (ops:Array Oper) (l:List (Nat × dM)) (L:Array Bool):ends ops (.all l) 0 L=none:=by unfold ends; rfl
theorem KS (ops:Array Oper) (l:List (Nat × dM)) (n:Nat) (L:Array Bool):ends ops (.all l) (n+1) L=if (l.map (·.1)) == Region.ready .any ops L && !l.isEmpty then nQ ops l n L none else none:=by conv=>lhs; unfold ends
theorem G3 (ops:Array Oper) (n:Nat) (L:Array Bool) (r:Option (Nat × Array Bool)):nQ ops [] n L r=r:=by unfold nQ; rfl
theorem xO (ops:Array Oper) (i:Nat) (p:dM) (l:List (Nat × dM)) (n:Nat) (L:Array Bool) (r:Option (Nat × Array Bool)):nQ ops ((i,p)::l) n L r=(ends ops p n (L.setIfInBounds i true)).bind fun e=>match r with
   | none=>nQ ops l n L (some e)
   | some e0=>if e0.1 == e.1 && e0.2 == e.2 then nQ ops l n L (some e0) else none:=by conv=>lhs; unfold nQ
def pe (a b:St):Bool:=AV.rY a.1 b.1 && mO a.2 b.2
theorem wF {a b:St} (h:pe a b=true):a=b:=by
 simp only [pe,aD] at h
 exact Prod.ext (AV.lV _ _ h.1) (xE _ _ h.2)
theorem di (a:St):pe a a=true:=by simp [pe,AV.kC,s5]
def eY (P:Program) (ev:Operand->Option AV) (o:Oper) (H:AH):Option AV:=
 match o.op with
 | .load t a=>(ev a).bind fun av=>match av with
   | .ptr i k=>ldA P t H i k
   | _=>none
 | .lookup t m k ok=>(ev m).bind fun mv=>(ev k).bind fun kv=>ig P t mv kv ok H
 | .slice t x lo hi mx=>(ev x).bind fun xv=>(evO ev lo).bind fun l=>(evO ev hi).bind fun h=>(evO ev mx).bind fun m=>jR P t H xv l h m
 | .call c=>match c.callee with
   | .builtin .len=>(evL ev c.args.toList).bind fun as=>match as with
     | [x]=>(c.argTypes[0]?).bind fun t=>dR P t H x
     | _=>none
   | _=>none
 | _=>cB P ev o
mutual
def bU (P:Program) (C:Cfg P) (call:bT) (base:Nat) (ops:Array Oper):dM->St->Option St
 | .done,s=>some s
 | .take i p,s =>
   match ops[i]? with
   | none=>none
   | some o=>(if Region.wanted o (cL ops s.1) then cB P (cz C.gl s.1) o else some uA).bind fun v =>
       bU P C call base ops p (dY o.dst v s.1,s.2)
 | .all l,s=>er P C call base ops l s none
 | .rd i p,s =>
   match ops[i]? with
   | none=>none
   | some o=>(if Region.wanted o (cL ops s.1) then eY P (cz C.gl s.1) o s.2 else some uA).bind fun v =>
       bU P C call base ops p (dY o.dst v s.1,s.2)
 | .join p q,s=>(bU P C call base ops p s).bind fun t=>bU P C call base ops q t
def er (P:Program) (C:Cfg P) (call:bT) (base:Nat) (ops:Array Oper):List (Nat × dM)->St->Option St->Option St
 | [],_,r=>r
 | (i,p)::l,s,r=>(jF P C call (some (base+i)) ops i s).bind fun s'=>(bU P C call base ops p s').bind fun t =>
   match r with
   | none=>er P C call base ops l s (some t)
   | some t0=>if pe t0 t then er P C call base ops l s (some t0) else none
end
inductive bu where
 | normal
 | exit (id:Nat)
 | ret
 deriving Inhabited
def jZ (f:St->Option (bu × St)):Nat->St->Option (bu × St)
 | 0,_=>none
 | n+1,s=>match f s with
   | some (.normal,s')=>jZ f n s'
   | r=>r
def cJ:Op->Bool
 | .alloc _ | .box .. | .buildSlice .. | .makeSlice .. | .makeMap ..=>true
 | .call { callee:=.builtin .append,.. }=>true
 | _=>false
def jj (P:Program) (gl:GL) (ops:Array Oper):List Oper->St->Option St
 | [],s=>some s
 | o::os,s=>if Region.wanted o (cL ops s.1) then (eY P (cz gl s.1) o s.2).bind fun v=>jj P gl ops os (dY o.dst v s.1,s.2) else jj P gl ops os (dY o.dst uA s.1,s.2)
def gz (P:Program) (C:Cfg P) (call:bT) (ev:Operand->Option AV) (o:Oper) (H:AH):Option AV:=
 match o.op with
 | .call c=>match c.callee with
   | .builtin _=>eY P ev o H
   | _=>(fN P C none ev o c H).bind fun r=>match r with
     | (.enter f args,_)=>if C.reads f then (call f args H).map (·.1) else none
     | _=>none
 | _=>eY P ev o H
def gE (P:Program) (C:Cfg P) (call:bT) (ops:Array Oper):List Oper->St->Option St
 | [],s=>some s
 | o::os,s=>if Region.wanted o (cL ops s.1) then (gz P C call (cz C.gl s.1) o s.2).bind fun v=>gE P C call ops os (dY o.dst v s.1,s.2) else gE P C call ops os (dY o.dst uA s.1,s.2)
inductive Way where
 | plan (p:dM)
 | reads
 | tail (n:Nat)
 | mix (p:dM) (k:Nat)
 | known (p:dM) (l:List (St × St))
 | calm
def wB (ops:Array Oper):Way->Bool
 | .plan p=>Region.noSelect ops && zX ops p
 | .reads=>Region.lexB .any ops
 | .tail n=>Region.lexTailB .any ops.toList.toArray n
 | .mix _ _=>false
 | .known p _=>Region.noSelect ops && zX ops p
 | .calm=>Region.lexB .any ops
def zJ (P:Program) (ops:Array Oper):Way->Prop
 | .known p l=>∀ e∈l,∀ (C:Cfg P) (call:bT),bU P C call e.1.2.length ops p (e.1.1,if ops.any (cJ ·.op) then e.1.2++aA ops.size .fresh else e.1.2)=some e.2
 | _=>True
def gk (P:Program) (pl:Nat->Option Way):Code->Prop
 | .region id ops true=>match pl id with
   | some p=>zJ P ops p
   | none=>True
 | .seq a b=>gk P pl a/\gk P pl b
 | .cond _ x y=>gk P pl x/\gk P pl y
 | .block _ b=>gk P pl b
 | .loop b=>gk P pl b
 | _=>True
def cA (pl:Nat->Option Way):Code->Bool
 | .region id ops true=>match pl id with
   | some p=>wB ops p
   | none=>true
 | .seq a b=>cA pl a && cA pl b
 | .cond _ x y=>cA pl x && cA pl y
 | .block _ b=>cA pl b
 | .loop b=>cA pl b
 | _=>true
structure o6 (P:Program) where
 pl:FuncId->Nat->Option Way
 ok:∀ f fn c,P.funcs[f]? =some fn->fn.body=some c->cA (pl f) c=true/\gk P (pl f) c
def evC (P:Program) (C:Cfg P) (call:bT) (pl:Nat->Option Way) (n:Nat):Code->St->Option (bu × St)
 | .skip,s=>some (.normal,s)
 | .region _ ops false,s=>(jz P C call ops (bn ops.size) s).map fun s'=>(.normal,s')
 | .region id ops true,s =>
   match pl id with
   | some (.plan p)=>(bU P C call s.2.length ops p (s.1,if ops.any (cJ ·.op) then s.2++aA ops.size .fresh else s.2)).map fun s'=>(.normal,s')
   | some .reads=>(jj P C.gl ops ops.toList s).map fun s'=>(.normal,s')
   | some (.tail k)=>(jj P C.gl ops (ops.toList.take k) s).bind fun s1=>(jz P C call ops (List.range' k (ops.toList.drop k).length) s1).map fun s'=>(.normal,s')
   | some (.mix p k)=>(bU P C call s.2.length ops p (s.1,if ops.any (cJ ·.op) then s.2++aA ops.size .fresh else s.2)).bind fun s1=>(jj P C.gl ops (ops.toList.drop k) s1).map fun s'=>(.normal,s')
   | some (.known _ l)=>(l.find? fun e=>pe e.1 s).map fun e=>(.normal,e.2)
   | some .calm=>(gE P C call ops ops.toList s).map fun s'=>(.normal,s')
   | none=>none
 | .seq a b,s=>match evC P C call pl n a s with
   | some (.normal,s')=>evC P C call pl n b s'
   | r=>r
 | .cond c x y,s=>match cz C.gl s.1 c with
   | some (.bool true)=>evC P C call pl n x s
   | some (.bool false)=>evC P C call pl n y s
   | _=>none
 | .block id body,s=>match evC P C call pl n body s with
   | some (.exit id',s')=>if id'=id then some (.normal,s') else some (.exit id',s')
   | r=>r
 | .loop body,s=>jZ (fun s=>evC P C call pl n body s) n s
 | .exit id,s=>some (.exit id,s)
 | .ret,s=>some (.ret,s)
 | _,_=>none
def jm (P:Program) (tm:List AV) (H:AH):List ResultVar->Option (List AV)
 | []=>some []
 | .tmp t::rs=>(jm P tm H rs).map (tm.getD t uA::·)
 | .cell a t::rs=>match tm.getD a uA with
   | .ptr i k=>(ldA P t H i k).bind fun v=>(jm P tm H rs).map (v::·)
   | _=>none
def nB (P:Program) (fn:Func) (s:St):Option (AV × AH):=
 (jm P s.1 s.2 fn.results.toList).map fun vs=>(match vs with | [v]=>v | vs=>.tuple vs,s.2)
def ct (P:Program) (C:Cfg P) (W:o6 P):Nat->bT
 | 0,_,_,_=>none
 | n+1,f,args,H=>match C.orc f args H with
   | some r=>some r
   | none=>(P.funcs[f]?).bind fun fn=>fn.body.bind fun c =>
     match evC P C (ct P C W n) (W.pl f) n c (args++aA (fn.ntmps - args.length) uA,if C.reads f then ro H else H) with
     | some (.normal,s)=>(nB P fn s).bind (kj (C.reads f) H)
     | some (.ret,s)=>(nB P fn s).bind (kj (C.reads f) H)
     | _=>none
end Go.Dv
