/- Part 04 of the walks (own work). -/
import Derived.Test.YtilpjnckfkjkbaaGreatDoorZ03
import Derived.Laws.StructEq
import Derived.Laws.BytesString
set_option maxRecDepth 100000
set_option maxHeartbeats 4000000
set_option linter.unusedSimpArgs false
set_option linter.unusedVariables false
namespace Go.Dv
abbrev CallF:=FuncId->List AV->AH->Option (AV × AH)
abbrev GL:=Nat->Option Nat
def GI (gl:GL) (φ:Env):Prop:=∀ g i,gl g=some i->∃ z,φ i=some (g,0,z)
theorem GI.mono {gl:GL} {φ ψ:Env} (h:GI gl φ) (l:φ.le ψ):GI gl ψ:=fun g i e=>(h g i e).imp fun _ r=>l _ _ r
def CallOk (P:Program) (gl:GL) (w0:World) (Pr:Nat->Prop) (call:CallF):Prop:=
 ∀ f args H v H',call f args H=some (v,H')->∀ φ w (vs:Array Value),GI gl φ->WR w0 Pr φ H w->VRs φ args vs.toList ->
   Calls P f vs w fun e w'=>∃ φ' u,φ.le φ'/\e=.returned u/\VR φ' v u/\WR w0 Pr φ' H' w'
structure Cfg (P:Program) where
 gl:GL
 pin:World->(Nat->Prop)->Prop
 orc:CallF
 orcOk:∀ w0 Pr,pin w0 Pr->CallOk P gl w0 Pr orc
 meth:TypeId->String->Option FuncId
 methOk:∀ t n f,meth t n=some f->∀ (v:Value) (w:World),(method (P.types.size+Made.depth) t v n).run P w=.ok (f,v) w
 name:∀ (f:Nat) (g:Func),P.funcs[f]? =some g->(g.name == "runtime.NumGoroutine")=false
 mixed:P.follows .mixedOrders=true
 reads:FuncId->Bool:=fun _=>false
 methD:TypeId->String->Option (FuncId × TypeId):=fun _ _=>none
 methDOk:∀ t n f e,methD t n=some (f,e)->∀ (a:Addr) (u:Value) (w:World),(loadVar e a).run P w=.ok u w->(method (P.types.size+Made.depth) t (.pointer (some a)) n).run P w=.ok (f,u) w:=by intro t n f e h; cases h
 orcRo:∀ f args H v H',reads f=true->orc f args H=some (v,H')->H'=H:=by intro f args H v H' h; cases h
 pinRo:∀ w0 Pr φ H w,pin w0 Pr->WR w0 Pr φ H w->pin w (fun b=>b < w.heap.size):=by intros; trivial
def intBinA (op:BinOp) (k:IntKind) (a b:Int):Option AV:=
 match op with
 | .add=>some (.int k (k.wrap (a+b)))
 | .sub=>some (.int k (k.wrap (a - b)))
 | .mul=>some (.int k (k.wrap (a * b)))
 | .quo=>if b=0 then none else some (.int k (k.wrap (a.tdiv b)))
 | .rem=>if b=0 then none else some (.int k (a.tmod b))
 | .eql=>some (.bool (a == b))
 | .neq=>some (.bool (a != b))
 | .lss=>some (.bool (decide (a < b)))
 | .leq=>some (.bool (decide (a<=b)))
 | .gtr=>some (.bool (decide (a > b)))
 | .geq=>some (.bool (decide (a ≥ b)))
 | _=>none
def eqVG (P:Program) (t:TypeId) (x y:AV):Option Bool:=
 match x,y with
 | .int _ _,_=>none
 | .str _,_=>none
 | _,_=>if P.eqGuardType P.depth t then none else eqVA P 6 t x y
def eqA (P:Program) (t:TypeId) (H:AH) (x y:AV):Option Bool:=
 match P.underlying t with
 | some (.slice _)=>match x,y with
   | .nilSlice,.nilSlice=>some true
   | .nilSlice,.slice ..=>some false
   | .slice ..,.nilSlice=>some false
   | _,_=>none
 | some (.map _ _)=>match x,y with
   | .nilMap,.nilMap=>some true
   | .nilMap,.map _=>some false
   | .map _,.nilMap=>some false
   | _,_=>none
 | some (.func _ _ _)=>match x,y with
   | .nilFunc,.nilFunc=>some true
   | .nilFunc,.func ..=>some false
   | .func ..,.nilFunc=>some false
   | _,_=>none
 | some (.interface _)=>match x,y with
   | .nilIface,.iface ..=>some false
   | .iface ..,.nilIface=>some false
   | .iface t _,.iface u _=>if t=u then none else some false
   | _,_=>none
 | some (.pointer e)=>match x,y with
   | .nilPtr,.nilPtr=>some true
   | .nilPtr,.ptr ..=>some false
   | .ptr ..,.nilPtr=>some false
   | .ptr i k,.ptr j l=>if P.cellsOf e=0 then none else (P.info? e).bind fun _ =>
     if i=j then some (k == l) else match H[i]?,H[j]? with
       | some (.cells _ _),some (.cells _ _)=>some false
       | _,_=>none
   | _,_=>none
 | _=>eqVG P t x y
def rhoOf (ev:Operand->Option AV):Operand->Value:=fun x=>((ev x).bind toV).getD undef
def notSelect:Op->Bool
 | .select ..=>false
 | _=>true
def pureA (P:Program) (ev:Operand->Option AV) (o:Oper):Option ANext:=
 if notSelect o.op && o.op.operands.toList.all (fun x=>((ev x).bind toV).isSome) then
   match pureRun P (execOp (rhoOf ev) o) with
   | some (.value v)=>(ofV 6 v).map .val
   | _=>none
 else none
def evL (ev:Operand->Option AV):List Operand->Option (List AV)
 | []=>some []
 | x::xs=>(ev x).bind fun v=>(evL ev xs).map (v::·)
def evP (ev:Operand->Option AV):List (Nat × Operand)->Option (List (Nat × AV))
 | []=>some []
 | (i,x)::xs=>(ev x).bind fun v=>(evP ev xs).map ((i,v)::·)
def evO (ev:Operand->Option AV):Option Operand->Option (Option AV)
 | none=>some none
 | some x=>(ev x).map some
def lenA (P:Program) (t:TypeId) (H:AH) (x:AV):Option AV:=
 match P.underlying t with
 | some (.slice _)=>match x with
   | .slice _ _ _ len _ _=>some (.int .i64 len)
   | .nilSlice=>some (.int .i64 0)
   | _=>none
 | some .string=>match x with
   | .str s=>some (.int .i64 s.size)
   | _=>none
 | some (.map _ _)=>(entriesA H x).map fun es=>.int .i64 es.length
 | _=>none
def methA (P:Program) (C:Cfg P) (t:TypeId) (v:AV) (name:String) (H:AH):Option (FuncId × AV):=
 match C.methD t name with
 | some (g,e)=>match v with
   | .ptr i k=>(ldA P e H i k).map fun u=>(g,u)
   | _=>none
 | none=>(C.meth t name).map fun g=>(g,v)
def callA (P:Program) (C:Cfg P) (slot:Option Nat) (ev:Operand->Option AV) (o:Oper) (c:Call) (H:AH):Option (ANext × AH):=
 match c.callee with
 | .value f=>(ev f).bind fun fv=>(evL ev c.args.toList).bind fun as =>
   match fv with
   | .func (.func g) first cap=>(P.funcs[g]?).bind fun fn=>if fn.body.isSome then some (.enter g (first++as++cap),H) else none
   | _=>none
 | .invoke r name=>(ev r).bind fun rv=>(evL ev c.args.toList).bind fun as =>
   match rv with
   | .iface t v=>(methA P C t v name H).bind fun m=>(P.funcs[m.1]?).bind fun fn=>if fn.body.isSome then some (.enter m.1 (m.2::as),H) else none
   | _=>none
 | .builtin b=>(evL ev c.args.toList).bind fun as =>
   match b,as with
   | .len,[x]=>((c.argTypes[0]?).bind fun t=>lenA P t H x).map fun v=>(.val v,H)
   | .append,[s,x]=>((c.argTypes[0]?).bind fun t=>appendA P slot t c.argTypes[1]? s x H).map fun (v,H')=>(.val v,H')
   | .clear,[x]=>((c.argTypes[0]?).bind fun t=>clearA P t x H).map fun H'=>(.val (.tuple []),H')
   | .copy,[d,s]=>((c.argTypes[0]?).bind fun t=>copyA P t d s H).map fun (v,H')=>(.val v,H')
   | _,_=>(pureA P ev o).map fun n=>(n,H)
def nilCheckA:AV->Option AV
 | .nilPtr | .nilIface | .nilFunc=>none
 | .func (.method _) _ _=>none
 | .junk=>none
 | v=>some v
def bytesOfA:List AV->Option (List Int)
 | []=>some []
 | .int .u8 n::l=>(bytesOfA l).map (n::·)
 | _=>none
def packB (ns:List Int):ByteArray:=ns.foldl (fun r n=>r.push (UInt8.ofNat n.toNat)) ByteArray.empty
def strA (P:Program) (H:AH) (t u:TypeId) (v:AV):Option ByteArray:=
 match P.underlying t,P.underlying u with
 | some (.slice e),some .string=>match P.underlying e with
   | some (.int .u8)=>match v with
     | .nilSlice=>some .empty
     | .slice i k es len _ _=>if es=1/\0 < len then (rdCells H i k len).bind fun cs=>(bytesOfA cs).map packB else none
     | _=>none
   | _=>none
 | _,_=>none
def aop (P:Program) (C:Cfg P) (slot:Option Nat) (ev:Operand->Option AV) (o:Oper) (H:AH):Option (ANext × AH):=
 match o.op with
 | .move x=>(ev x).map fun v=>(.val v,H)
 | .assign x=>(ev x).map fun v=>(.val v,H)
 | .pick c a b=>(ev c).bind fun cv=>match cv with
   | .bool true=>(ev a).map fun v=>(.val v,H)
   | .bool false=>(ev b).map fun v=>(.val v,H)
   | _=>none
 | .alloc elem=>(zeroA P elem).bind fun z=>(put slot H (.cells z.cells elem)).map fun (i,H')=>(.val (.ptr i 0),H')
 | .box elem x=>(ev x).bind fun v=>(put slot H (.cells v.cells elem)).map fun (i,H')=>(.val (.ptr i 0),H')
 | .build t ps=>(evP ev ps.toList).bind fun qs=>(buildA P t qs).map fun v=>(.val v,H)
 | .buildSlice t len ps=>(evP ev ps.toList).bind fun qs=>(buildSliceA P slot t len qs H).map fun (v,H')=>(.val v,H')
 | .load t a=>(ev a).bind fun av=>match av with
   | .ptr i k=>(ldA P t H i k).map fun v=>(.val v,H)
   | _=>none
 | .store t a x=>(ev a).bind fun av=>(ev x).bind fun xv=>match av with
   | .ptr i k=>(stA P t H i k xv).map fun H'=>(.skip,H')
   | _=>none
 | .nilCheck x=>(ev x).bind fun v=>(nilCheckA v).map fun v=>(.val v,H)
 | .binOp op t x y _=>(ev x).bind fun xv=>(ev y).bind fun yv =>
   match xv,yv with
   | .int k a,.int k' b=>match (if k=k' then intBinA op k a b else none) with
     | some v=>some (.val v,H)
     | none=>(pureA P ev o).map fun n=>(n,H)
   | _,_=>match op,eqA P t H xv yv with
     | .eql,some r=>some (.val (.bool r),H)
     | .neq,some r=>some (.val (.bool (!r)),H)
     | _,_=>(pureA P ev o).map fun n=>(n,H)
 | .makeInterface t x=>(ev x).bind fun v=>match P.underlying t with
   | some (.interface _)=>none
   | some _=>some (.val (.iface t v),H)
   | none=>none
 | .makeFunc fn first cap=>(evL ev first.toList).bind fun f=>(evL ev cap.toList).map fun c=>(.val (.func fn f c),H)
 | .makeMap _ none=>(put slot H (.map [] 0)).map fun (i,H')=>(.val (.map i),H')
 | .makeSlice t l c=>(ev l).bind fun lv=>(ev c).bind fun cv=>(makeSliceA P slot t lv cv H).map fun (v,H')=>(.val v,H')
 | .slice t x lo hi mx=>(ev x).bind fun xv=>(evO ev lo).bind fun l=>(evO ev hi).bind fun h=>(evO ev mx).bind fun m =>
   match sliceA P t H xv l h m with
   | some v=>some (.val v,H)
   | none=>(pureA P ev o).map fun n=>(n,H)
 | .fieldAddr t x f=>(ev x).bind fun xv=>(fieldAddrA P t xv f).map fun v=>(.val v,H)
 | .field t x f=>(ev x).bind fun xv=>(fieldA P t xv f).map fun v=>(.val v,H)
 | .indexAddr t x ix=>(ev x).bind fun xv=>(ev ix).bind fun iv=>(indexAddrA P t xv iv).map fun v=>(.val v,H)
 | .lookup t m k ok=>(ev m).bind fun mv=>(ev k).bind fun kv=>(lookupA P t mv kv ok H).map fun v=>(.val v,H)
 | .mapEntry t m k=>(ev m).bind fun mv=>(ev k).bind fun kv=>(mapEntryA P t mv kv H).map fun (v,H')=>(.val v,H')
 | .entryStore _ m s x=>(ev m).bind fun mv=>(ev s).bind fun sv=>(ev x).bind fun xv=>(entryStoreA mv sv xv H).map fun H'=>(.skip,H')
 | .mapUpdate t m k v=>(ev m).bind fun mv=>(ev k).bind fun kv=>(ev v).bind fun vv=>(mapPutA P t mv kv vv H).map fun H'=>(.skip,H')
 | .insert t m k v=>(ev m).bind fun mv=>(ev k).bind fun kv=>(ev v).bind fun vv=>(mapPutA P t mv kv vv H).map fun H'=>(.skip,H')
 | .extract t ix=>(ev t).bind fun tv=>match tv with
   | .tuple vs=>(vs[ix]?).map fun v=>(.val v,H)
   | _=>none
 | .call c=>callA P C slot ev o c H
 | .convert t u x=>match pureA P ev o with
   | some n=>some (n,H)
   | none=>(ev x).bind fun v=>(strA P H t u v).map fun s=>(.val (.str s),H)
 | _=>(pureA P ev o).map fun n=>(n,H)
end Go.Dv
namespace Go.Dv
section
variable {P:Program} {C:Cfg P} {w0:World} {Pr:Nat->Prop} {φ:Env} {H:AH} {w:World} {ev:Operand->Option AV} {ρ:Operand->Value}
theorem evL_spec (hρ:∀ x a,ev x=some a->VR φ a (ρ x)):∀ (xs:List Operand) (as:List AV),evL ev xs=some as->VRs φ as (xs.map ρ)
 | [],as,h=>by cases h; rfl
 | x::xs,as,h=>by
   simp only [evL,Option.bind_eq_some_iff,Option.map_eq_some_iff] at h
   obtain ⟨v,hv,vs,hvs,rfl⟩:=h
   exact .cons (hρ x v hv) (evL_spec hρ xs vs hvs)
theorem evP_spec (hρ:∀ x a,ev x=some a->VR φ a (ρ x)):∀ (xs:List (Nat × Operand)) (as:List (Nat × AV)),evP ev xs=some as->PVR φ as (xs.map fun (i,x)=>(i,ρ x))
 | [],as,h=>by cases h; rfl
 | (i,x)::xs,as,h=>by
   simp only [evP,Option.bind_eq_some_iff,Option.map_eq_some_iff] at h
   obtain ⟨v,hv,vs,hvs,rfl⟩:=h
   exact ⟨ρ x,_,rfl,hρ x v hv,evP_spec hρ xs vs hvs⟩
theorem evO_spec (hρ:∀ x a,ev x=some a->VR φ a (ρ x)) {x:Option Operand} {a:Option AV} (h:evO ev x=some a):OVR φ a (x.map ρ):=by
 cases x with
 | none=>cases h; rfl
 | some x =>
   simp only [evO,Option.map_eq_some_iff] at h
   obtain ⟨v,hv,rfl⟩:=h
   exact ⟨ρ x,rfl,hρ x v hv⟩
theorem fits_val {φ':Env} {w':World} {v:AV} {s:Sem Value} {u:Value} (hs:s.run P w=.ok u w') (r:VR φ' v u):Fits φ' w' (.val v) ((do pure (Next.value (<-s)):Sem Next).run P w):=
 ⟨u,by simp only [Sem.run_bind,hs,Result.andThen_ok,Sem.run_pure],r⟩
theorem fits_skip {φ':Env} {w':World} {s:Sem Unit} (hs:s.run P w=.ok () w'):Fits φ' w' .skip ((do s; pure Next.skip:Sem Next).run P w):=by
 simp only [Fits,Sem.run_bind,hs,Result.andThen_ok,Sem.run_pure]
theorem pureA_spec (hW:WR w0 Pr φ H w) (hρ:∀ x a,ev x=some a->VR φ a (ρ x)) {o:Oper} {n:ANext} (h:pureA P ev o=some n):Fits φ w n ((execOp ρ o).run P w):=by
 unfold pureA at h
 split at h
 · rename_i hc
   simp only [Bool.and_eq_true,List.all_eq_true] at hc
   have hcong:execOp ρ o=execOp (rhoOf ev) o:=execOp_congr o (fun cs b e=>by rw [e] at hc; exact absurd hc.1 (by simp [notSelect])) fun x hx=>by
     obtain ⟨u,hu⟩:=Option.isSome_iff_exists.1 (hc.2 x (by simpa using hx))
     have:rhoOf ev x=u:=by simp [rhoOf,hu]
     rw [this]
     simp only [Option.bind_eq_some_iff] at hu
     obtain ⟨a,ha,hav⟩:=hu
     exact toV_spec a u hav _ (hρ x a ha)
   rw [hcong]
   split at h
   · rename_i v hv
     simp only [Option.map_eq_some_iff] at h
     obtain ⟨a,ha,rfl⟩:=h
     exact ⟨v,pureRun_spec _ _ hv w,ofV_spec _ _ _ ha⟩
   · cases h
 · cases h
theorem pureA_fin (hW:WR w0 Pr φ H w) (hρ:∀ x a,ev x=some a->VR φ a (ρ x)) {o:Oper} {n:ANext} {H':AH} (h:(pureA P ev o).map (fun n=>(n,H))=some (n,H')) :
   ∃ φ' w',φ.le φ'/\WR w0 Pr φ' H' w'/\Fits φ' w' n ((execOp ρ o).run P w):=by
 simp only [Option.map_eq_some_iff] at h
 obtain ⟨n',hn,he⟩:=h
 cases he
 exact ⟨φ,w,Env.le_refl φ,hW,pureA_spec hW hρ hn⟩
theorem run_sameAddr_other {a b:Addr} {ca cb:Array Value} {ea eb:TypeId} (hne:a.block≠b.block) (ha:w.heap[a.block]? =some (.cells ca ea (0,0))) (hb:w.heap[b.block]? =some (.cells cb eb (0,0))) :
   (sameAddr a b).run P w=.ok false w:=by
 have e:(a.block == b.block)=false:=by simpa using hne
 simp [sameAddr,e,World.frozen?,ha,hb,noView,viewAt,World.shape?,mayBeOne,stringish]
theorem eqVG_spec {t:TypeId} {x y:AV} {ux uy:Value} {r:Bool} (rx:VR φ x ux) (ry:VR φ y uy) (h:eqVG P t x y=some r) (op:BinOp) (X Y:Operand) (w:World) :
   (Op.equal t ux uy).run P w=.ok r w/\(eqGuard op t X Y ux uy).run P w=.ok () w/\binOp .eql t ux uy=(do pure (.bool (<-Op.equal t ux uy)))/\binOp .neq t ux uy=(do pure (.bool (!(<-Op.equal t ux uy)))):=by
 unfold eqVG at h
 split at h
 · cases h
 · cases h
 · rename_i hni hns
   split at h
   · cases h
   · rename_i hg
     have hg':P.eqGuardType P.depth t=false:=by simpa using hg
     refine ⟨eqVA_spec 6 Op.maxDepth (by decide) t x y ux uy r rx ry h w,?_⟩
     clear hg
     unfold eqVA at h
     split at h
     · split at h
       · rename_i k a k' b; exact absurd rfl (hni k a)
       · cases h
     · split at h
       · simp only [VR] at rx ry; subst rx; subst ry
         exact ⟨by cases op <;> simp [eqGuard],rfl,rfl⟩
       · cases h
     · split at h
       · rename_i a b; exact absurd rfl (hns a)
       · cases h
     · split at h
       · obtain ⟨us,rfl,_⟩:=rx
         obtain ⟨vs,rfl,_⟩:=ry
         clear h
         exact ⟨by cases op <;> simp [eqGuard,run_program,hg'],rfl,rfl⟩
       · cases h
     · cases h
theorem eqA_spec (hW:WR w0 Pr φ H w) {t:TypeId} {x y:AV} {ux uy:Value} {r:Bool} (rx:VR φ x ux) (ry:VR φ y uy) (h:eqA P t H x y=some r) (op:BinOp) (X Y:Operand) :
   (Op.equal t ux uy).run P w=.ok r w/\(eqGuard op t X Y ux uy).run P w=.ok () w/\binOp .eql t ux uy=(do pure (.bool (<-Op.equal t ux uy)))/\binOp .neq t ux uy=(do pure (.bool (!(<-Op.equal t ux uy)))):=by
 have e:Op.equal t ux uy=Op.equalIn (9999+1) t ux uy:=rfl
 generalize hN:9999=N at e
 unfold eqA at h
 split at h
 · rename_i elem hu
   split at h <;> first | (cases h; done) | skip
   · cases h; simp only [VR] at rx ry; subst rx; subst ry
     refine ⟨by rw [e]; simp [Op.equalIn,run_und hu],by cases op <;> simp [eqGuard],rfl,rfl⟩
   · cases h; obtain ⟨a,c,rfl,_⟩:=ry; simp only [VR] at rx; subst rx
     refine ⟨by rw [e]; simp [Op.equalIn,run_und hu],by cases op <;> simp [eqGuard],rfl,rfl⟩
   · cases h; obtain ⟨a,c,rfl,_⟩:=rx; simp only [VR] at ry; subst ry
     refine ⟨by rw [e]; simp [Op.equalIn,run_und hu],by cases op <;> simp [eqGuard],rfl,rfl⟩
 · rename_i k elem hu
   split at h <;> first | (cases h; done) | skip
   · cases h; simp only [VR] at rx ry; subst rx; subst ry
     refine ⟨by rw [e]; simp [Op.equalIn,run_und hu],by cases op <;> simp [eqGuard],rfl,rfl⟩
   · cases h; obtain ⟨b,z,_,rfl⟩:=ry; simp only [VR] at rx; subst rx
     refine ⟨by rw [e]; simp [Op.equalIn,run_und hu],by cases op <;> simp [eqGuard],rfl,rfl⟩
   · cases h; obtain ⟨b,z,_,rfl⟩:=rx; simp only [VR] at ry; subst ry
     refine ⟨by rw [e]; simp [Op.equalIn,run_und hu],by cases op <;> simp [eqGuard],rfl,rfl⟩
 · rename_i p1 p2 p3 hu
   split at h <;> first | (cases h; done) | skip
   · cases h; simp only [VR] at rx ry; subst rx; subst ry
     refine ⟨by rw [e]; simp [Op.equalIn,run_und hu],by cases op <;> simp [eqGuard],rfl,rfl⟩
   · cases h; obtain ⟨b,z,rfl,_⟩:=ry; simp only [VR] at rx; subst rx
     refine ⟨by rw [e]; simp [Op.equalIn,run_und hu],by cases op <;> simp [eqGuard],rfl,rfl⟩
   · cases h; obtain ⟨b,z,rfl,_⟩:=rx; simp only [VR] at ry; subst ry
     refine ⟨by rw [e]; simp [Op.equalIn,run_und hu],by cases op <;> simp [eqGuard],rfl,rfl⟩
 · rename_i ms hu
   split at h <;> first | (cases h; done) | skip
   · cases h; obtain ⟨b,rfl,_⟩:=ry; simp only [VR] at rx; subst rx
     refine ⟨by rw [e]; simp [Op.equalIn,run_und hu],by cases op <;> simp [eqGuard],rfl,rfl⟩
   · cases h; obtain ⟨b,rfl,_⟩:=rx; simp only [VR] at ry; subst ry
     refine ⟨by rw [e]; simp [Op.equalIn,run_und hu],by cases op <;> simp [eqGuard],rfl,rfl⟩
   · split at h
     · cases h
     · rename_i hne
       cases h; obtain ⟨b,rfl,_⟩:=rx; obtain ⟨b,rfl,_⟩:=ry
       refine ⟨by rw [e]; simp [Op.equalIn,run_und hu,hne],by cases op <;> simp [eqGuard],rfl,rfl⟩
 · rename_i el hu
   split at h <;> first | (cases h; done) | skip
   · cases h; simp only [VR] at rx ry; subst rx; subst ry
     refine ⟨by rw [e]; simp [Op.equalIn,run_und hu],by cases op <;> simp [eqGuard],rfl,rfl⟩
   · cases h; obtain ⟨b,o,z,_,rfl⟩:=ry; simp only [VR] at rx; subst rx
     refine ⟨by rw [e]; simp [Op.equalIn,run_und hu],by cases op <;> simp [eqGuard],rfl,rfl⟩
   · cases h; obtain ⟨b,o,z,_,rfl⟩:=rx; simp only [VR] at ry; subst ry
     refine ⟨by rw [e]; simp [Op.equalIn,run_und hu],by cases op <;> simp [eqGuard],rfl,rfl⟩
   · rename_i i k j l
     split at h
     · cases h
     · rename_i hsz
       simp only [Option.bind_eq_some_iff] at h
       obtain ⟨ti,hti,h⟩:=h
       obtain ⟨b,o,z,hφ,rfl⟩:=rx
       obtain ⟨b',o',z',hφ',rfl⟩:=ry
       refine ⟨?_,by cases op <;> simp [eqGuard],rfl,rfl⟩
       rw [e]
       simp only [Op.equalIn,Sem.run_bind,run_und hu,Result.andThen_ok,run_size hti,Sem.run_ite,ne_eq,hsz,not_false_iff,if_true]
       split at h
       · rename_i hij
         subst hij
         rw [hφ] at hφ'; cases hφ'
         cases h
         have:((⟨b,o+k,none⟩:Addr) == ⟨b,o+l,none⟩)=(k == l):=by
           rw [Bool.eq_iff_iff]; simp
         simp [sameAddr,this]
       · rename_i hij
         split at h
         · rename_i c1 e1 c2 e2 h1 h2
           cases h
           obtain ⟨b1,o1,z1,d1,hp1,hh1,_⟩:=hW.obj _ _ h1
           obtain ⟨b2,o2,z2,d2,hp2,hh2,_⟩:=hW.obj _ _ h2
           rw [hφ] at hp1; cases hp1
           rw [hφ'] at hp2; cases hp2
           have hne:b≠b':=fun e=>hij (hW.inj i j _ _ ⟨_,h1,rfl⟩ ⟨_,h2,rfl⟩ hφ hφ' e)
           rw [run_sameAddr_other hne hh1 hh2]
         · cases h
 · exact eqVG_spec rx ry h op X Y w
theorem lenA_spec (hW:WR w0 Pr φ H w) {t:TypeId} {x v:AV} {ux:Value} {argTypes:Array TypeId} {args:Array Value} {ty:TypeId} (h0:argTypes[0]? =some t) (ha:args[0]? =some ux) (rx:VR φ x ux) (h:lenA P t H x=some v) :
   ∃ u,(Builtin.len_ argTypes ty args).run P w=.ok u w/\VR φ v u:=by
 unfold lenA at h
 split at h
 · rename_i e hu
   split at h
   · cases h; obtain ⟨a,c,rfl,_⟩:=rx
     exact ⟨_,by simp only [Builtin.len_,h0,ha,Sem.run_bind,run_und hu,Result.andThen_ok,Sem.run_pure]; rfl,rfl⟩
   · cases h; simp only [VR] at rx; subst rx
     exact ⟨_,by simp only [Builtin.len_,h0,ha,Sem.run_bind,run_und hu,Result.andThen_ok,Sem.run_pure]; rfl,rfl⟩
   · cases h
 · rename_i hu
   split at h
   · cases h; simp only [VR] at rx; subst rx
     exact ⟨_,by simp only [Builtin.len_,h0,ha,Sem.run_bind,run_und hu,Result.andThen_ok,Sem.run_pure]; rfl,rfl⟩
   · cases h
 · rename_i kt et hu
   simp only [Option.map_eq_some_iff] at h
   obtain ⟨es,hes,rfl⟩:=h
   rcases entriesA_spec hW rx hes with ⟨rfl,rfl⟩ | ⟨b,es',c,rfl,hheap,hm⟩
   · exact ⟨_,by simp only [Builtin.len_,h0,ha,Sem.run_bind,run_und hu,Result.andThen_ok,Sem.run_pure]; rfl,rfl⟩
   · refine ⟨_,by simp only [Builtin.len_,h0,ha,Sem.run_bind,run_und hu,Result.andThen_ok,run_getMap hheap,Sem.run_pure]; rfl,?_⟩
     simp only [VR,goInt]
     rw [hm.length]; simp
 · cases h
theorem run_callFunc {g:FuncId} {fn:Func} {args:Array Value} (hf:P.funcs[g]? =some fn) (hb:fn.body.isSome=true) (hn:(fn.name == "runtime.NumGoroutine")=false) :
   (callFunc g args).run P w=.ok (.enter g args) w:=by
 have:fn.body.isNone=false:=by cases h:fn.body <;> simp_all
 simp only [callFunc,Sem.run_bind,run_program,Result.andThen_ok,hf,hn,Bool.false_eq_true,if_false,this,Sem.run_pure]
theorem callA_spec (hW:WR w0 Pr φ H w) (hρ:∀ x a,ev x=some a->VR φ a (ρ x)) {slot:Option Nat} {dst:Option Tmp} {ty:TypeId} {pos:String} {after:Array Edge} {guard:Option (Nat × Bool)} {c:Call} {n:ANext} {H':AH}
   (h:callA P C slot ev ⟨dst,.call c,ty,pos,after,guard⟩ c H=some (n,H')) :
   ∃ φ' w',φ.le φ'/\WR w0 Pr φ' H' w'/\Fits φ' w' n ((execOp ρ ⟨dst,.call c,ty,pos,after,guard⟩).run P w):=by
 unfold callA at h
 split at h
 · rename_i f hcal
   simp only [Option.bind_eq_some_iff] at h
   obtain ⟨fv,hfv,as,has,h⟩:=h
   split at h
   case h_2=>cases h
   rename_i g first cap
   simp only [Option.bind_eq_some_iff] at h
   obtain ⟨fn,hfn,h⟩:=h
   split at h
   case isFalse=>cases h
   rename_i hb
   cases h
   obtain ⟨f',c',hval,rf,rc⟩:=hρ f _ hfv
   have ras:=evL_spec hρ _ _ has
   refine ⟨φ,w,Env.le_refl φ,hW,(f'++c.args.map ρ)++c',?_,?_⟩
   · simp only [execOp,resolve,hcal,hval,Deferred.ofValue,Sem.run_bind,Sem.run_pure,Result.andThen_ok,invoke,run_callFunc hfn hb (C.name g fn hfn)]
   · simpa using (rf.append ras).append rc
 · rename_i r name hcal
   simp only [Option.bind_eq_some_iff] at h
   obtain ⟨rv,hrv,as,has,h⟩:=h
   split at h
   case h_2=>cases h
   rename_i t v
   simp only [Option.bind_eq_some_iff] at h
   obtain ⟨⟨g,v'⟩,hg,fn,hfn,h⟩:=h
   split at h
   case isFalse=>cases h
   rename_i hb
   cases h
   obtain ⟨u0,hval,ru0⟩:=hρ r _ hrv
   have ras:=evL_spec hρ _ _ has
   have hm0:∃ u,(method (P.types.size+Made.depth) t u0 name).run P w=.ok (g,u) w/\VR φ v' u:=by
     unfold methA at hg
     split at hg
     · rename_i g' e hd
       split at hg
       · rename_i i k
         obtain ⟨x,hl,he⟩:=Option.map_eq_some_iff.1 hg
         cases he
         obtain ⟨b,o,z,hφ,rfl⟩:=ru0
         obtain ⟨u,hu,r⟩:=ldA_spec (P:=P) hW hφ hl
         exact ⟨u,C.methDOk t name g e hd _ u w hu,r⟩
       · cases hg
     · obtain ⟨g',hg',he⟩:=Option.map_eq_some_iff.1 hg
       cases he
       exact ⟨u0,C.methOk t name g hg' u0 w,ru0⟩
   obtain ⟨u,hm,ru⟩:=hm0
   refine ⟨φ,w,Env.le_refl φ,hW,#[u]++c.args.map ρ,?_,?_⟩
   · have hx:(#[ρ r]++c.args.map ρ).extract 1 (#[ρ r]++c.args.map ρ).size=c.args.map ρ:=by
       apply Array.toList_inj.1
       simp [Array.toList_extract,List.extract_eq_take_drop,List.take_of_length_le]
     have h0:(#[ρ r]++c.args.map ρ)[0]? =some (ρ r):=by rw [Array.getElem?_append_left (by simp)]; rfl
     have hcf:=run_callFunc (w:=w) (args:=#[u]++c.args.map ρ) hfn hb (C.name g fn hfn)
     rw [hval] at hx h0
     simp only [execOp,resolve,hcal,Sem.run_bind,Sem.run_pure,Result.andThen_ok,invoke,hval,h0,callMethod,run_program,hm,hx,hcf]
   · simpa using VRs.cons ru ras
 · rename_i b hcal
   simp only [Option.bind_eq_some_iff] at h
   obtain ⟨as,has,h⟩:=h
   have ras:=evL_spec hρ _ _ has
   split at h
   · rename_i x
     simp only [Option.map_eq_some_iff,Option.bind_eq_some_iff] at h
     obtain ⟨v,⟨t,ht,hl⟩,he⟩:=h
     cases he
     obtain ⟨u,us,hu,rx,_⟩:=ras
     have ha0:(c.args.map ρ)[0]? =some u:=by rw [<-Array.getElem?_toList,Array.toList_map,hu]; rfl
     obtain ⟨y,hy,ry⟩:=lenA_spec (ty:=ty) hW ht ha0 rx hl
     refine ⟨φ,w,Env.le_refl φ,hW,y,?_,ry⟩
     simp only [execOp,resolve,hcal,Sem.run_bind,Sem.run_pure,Result.andThen_ok,invoke,builtin,hy]
   · rename_i s x
     simp only [Option.map_eq_some_iff,Option.bind_eq_some_iff] at h
     obtain ⟨⟨v,H1⟩,⟨t,ht,hl⟩,he⟩:=h
     cases he
     obtain ⟨us,us',hus,rs,ux,us'',hux,rx,_⟩:=ras
     subst hux
     have ha0:(c.args.map ρ)[0]? =some us:=by rw [<-Array.getElem?_toList,Array.toList_map,hus]; rfl
     have ha1:(c.args.map ρ)[1]? =some ux:=by rw [<-Array.getElem?_toList,Array.toList_map,hus]; rfl
     obtain ⟨φ',w',y,hle,hW',hy,ry⟩:=appendA_spec (ty:=ty) hW ht rfl ha0 ha1 rs rx hl
     refine ⟨φ',w',hle,hW',y,?_,ry⟩
     simp only [execOp,resolve,hcal,Sem.run_bind,Sem.run_pure,Result.andThen_ok,invoke,builtin,hy]
   · rename_i x
     simp only [Option.map_eq_some_iff,Option.bind_eq_some_iff] at h
     obtain ⟨H1,⟨t,ht,hl⟩,he⟩:=h
     cases he
     obtain ⟨u,us,hu,rx,_⟩:=ras
     have ha0:(c.args.map ρ)[0]? =some u:=by rw [<-Array.getElem?_toList,Array.toList_map,hu]; rfl
     obtain ⟨w',hW',hy⟩:=clearA_spec (ty:=ty) hW ht ha0 rx hl
     refine ⟨φ,w',Env.le_refl φ,hW',.tuple #[],?_,_,rfl,rfl⟩
     simp only [execOp,resolve,hcal,Sem.run_bind,Sem.run_pure,Result.andThen_ok,invoke,builtin,hy]
   · rename_i s x
     simp only [Option.map_eq_some_iff,Option.bind_eq_some_iff] at h
     obtain ⟨⟨v,H1⟩,⟨t,ht,hl⟩,he⟩:=h
     cases he
     obtain ⟨us,us',hus,rs,ux,us'',hux,rx,_⟩:=ras
     subst hux
     have ha0:(c.args.map ρ)[0]? =some us:=by rw [<-Array.getElem?_toList,Array.toList_map,hus]; rfl
     have ha1:(c.args.map ρ)[1]? =some ux:=by rw [<-Array.getElem?_toList,Array.toList_map,hus]; rfl
     obtain ⟨w',y,hW',hy,ry⟩:=copyA_spec (ty:=ty) hW ht ha0 ha1 rs rx hl
     refine ⟨φ,w',Env.le_refl φ,hW',y,?_,ry⟩
     simp only [execOp,resolve,hcal,Sem.run_bind,Sem.run_pure,Result.andThen_ok,invoke,builtin,hy]
   · exact pureA_fin hW hρ h
end
end Go.Dv
namespace Go.Dv
section
variable {P:Program} {C:Cfg P} {w0:World} {Pr:Nat->Prop} {φ:Env} {H:AH} {w:World} {ev:Operand->Option AV} {ρ:Operand->Value}
theorem intBinA_spec {op:BinOp} {k:IntKind} {a b:Int} {v:AV} (h:intBinA op k a b=some v) (t:TypeId) (X Y:Operand) :
   ∃ u,(do eqGuard op t X Y (.int k a) (.int k b); binOp op t (.int k a) (.int k b):Sem Value).run P w=.ok u w/\VR φ v u:=by
 cases op <;> simp only [intBinA] at h <;> try (cases h; done)
 case quo=>split at h <;> cases h; rename_i hb; exact ⟨_,by simp [eqGuard,binOp,Op.intDiv,hb],rfl⟩
 case rem=>split at h <;> cases h; rename_i hb; exact ⟨_,by simp [eqGuard,binOp,Op.intDiv,hb],rfl⟩
 all_goals (cases h; refine ⟨_,?_,rfl⟩; simp [eqGuard,binOp,Op.intArith,Op.intCmp])
theorem nilCheckA_spec {x v:AV} {u:Value} (h:nilCheckA x=some v) (r:VR φ x u) (o:Oper) (X:Operand) (ho:o.op=.nilCheck X) (hX:ρ X=u):(execOp ρ o).run P w=.ok (.value u) w/\v=x:=by
 subst hX
 cases x <;> simp only [nilCheckA] at h <;> try (cases h; done)
 case func fn f c =>
   cases fn <;> simp only at h <;> try (cases h; done)
   all_goals
     cases h
     obtain ⟨f',c',e,_⟩:=r
     exact ⟨by simp [execOp,ho,e],rfl⟩
 case ptr=>cases h; obtain ⟨_,_,_,_,e⟩:=r; exact ⟨by simp [execOp,ho,e],rfl⟩
 case slice=>cases h; obtain ⟨_,_,e,_⟩:=r; exact ⟨by simp [execOp,ho,e],rfl⟩
 case map=>cases h; obtain ⟨_,_,_,e⟩:=r; exact ⟨by simp [execOp,ho,e],rfl⟩
 case iface=>cases h; obtain ⟨_,e,_⟩:=r; exact ⟨by simp [execOp,ho,e],rfl⟩
 case agg=>cases h; obtain ⟨_,e,_⟩:=r; exact ⟨by simp [execOp,ho,e],rfl⟩
 case tuple=>cases h; obtain ⟨_,e,_⟩:=r; exact ⟨by simp [execOp,ho,e],rfl⟩
 all_goals (cases h; simp only [VR] at r; exact ⟨by simp [execOp,ho,r],rfl⟩)
theorem bytesOfA_spec:∀ (cs:List AV) (ns:List Int) (vs:List Value),bytesOfA cs=some ns->VRs φ cs vs->vs=ns.map (Value.int .u8)
 | [],ns,vs,h,r=>by simp only [bytesOfA,Option.some.injEq] at h; subst h; exact r
 | x::cs,ns,vs,h,r=>by
   unfold bytesOfA at h
   split at h
   · rename_i e; cases e
   · rename_i e
     cases e
     simp only [Option.map_eq_some_iff] at h
     obtain ⟨ms,hm,rfl⟩:=h
     obtain ⟨u,us,rfl,ru,rus⟩:=r
     rw [bytesOfA_spec _ ms us hm rus,show u=_ from ru]; rfl
   · cases h
theorem strA_spec (hW:WR w0 Pr φ H w) {t u:TypeId} {v:AV} {uv:Value} {s:ByteArray} (r:VR φ v uv) (h:strA P H t u v=some s):(convert t u uv).run P w=.ok (.string s) w:=by
 unfold strA at h
 split at h
 · rename_i e ht hu
   split at h
   · rename_i he
     split at h
     · simp only [VR] at r
       subst r
       cases h
       rw [run_convert_bytes_string w t u e none 0 0 ht he hu]
       simp [Conv.bytesToString,Sem.run_pure]
     · rename_i i k es len cap ex
       split at h
       · rename_i hc
         obtain ⟨rfl,hlen⟩:=hc
         simp only [Option.bind_eq_some_iff,Option.map_eq_some_iff] at h
         obtain ⟨cs,hcs,ns,hns,rfl⟩:=h
         obtain ⟨a,c,rfl,hlc,hcc,ha⟩:=r
         rcases ha with h0 | ⟨b,o,z,hφ,rfl,hz⟩
         · omega
         · obtain ⟨vs,rvs,hvl,hcell⟩:=hW.read hφ hcs
           have hvs:=bytesOfA_spec cs ns vs hns rvs
           rw [run_convert_bytes_string w t u e _ _ _ ht he hu]
           refine run_bytesToString w _ len c ns ?_
           rw [<-hvs,<-hvl]
           exact run_loadCells_list w _ vs fun j v hj=>by rw [add_none]; exact hcell j v hj
       · cases h
     · cases h
   · cases h
 · cases h
theorem aop_spec (hW:WR w0 Pr φ H w) (hρ:∀ x a,ev x=some a->VR φ a (ρ x)) {slot:Option Nat} {o:Oper} {n:ANext} {H':AH} (h:aop P C slot ev o H=some (n,H')) :
   ∃ φ' w',φ.le φ'/\WR w0 Pr φ' H' w'/\Fits φ' w' n ((execOp ρ o).run P w):=by
 obtain ⟨dst,op,ty,pos,after,guard⟩:=o
 cases op
 case move x =>
   simp only [aop,Option.map_eq_some_iff] at h
   obtain ⟨v,hv,he⟩:=h; cases he
   exact ⟨φ,w,Env.le_refl φ,hW,ρ x,rfl,hρ x v hv⟩
 case assign x =>
   simp only [aop,Option.map_eq_some_iff] at h
   obtain ⟨v,hv,he⟩:=h; cases he
   exact ⟨φ,w,Env.le_refl φ,hW,ρ x,rfl,hρ x v hv⟩
 case pick c a b =>
   simp only [aop,Option.bind_eq_some_iff] at h
   obtain ⟨cv,hc,h⟩:=h
   have rc:=hρ c cv hc
   split at h
   · simp only [Option.map_eq_some_iff] at h
     obtain ⟨v,hv,he⟩:=h; cases he
     simp only [VR] at rc
     exact ⟨φ,w,Env.le_refl φ,hW,ρ a,by simp [execOp,rc,asBool],hρ a v hv⟩
   · simp only [Option.map_eq_some_iff] at h
     obtain ⟨v,hv,he⟩:=h; cases he
     simp only [VR] at rc
     exact ⟨φ,w,Env.le_refl φ,hW,ρ b,by simp [execOp,rc,asBool],hρ b v hv⟩
   · cases h
 case alloc elem =>
   simp only [aop,Option.bind_eq_some_iff,Option.map_eq_some_iff] at h
   obtain ⟨z,hz,⟨i,H1⟩,hp,he⟩:=h; cases he
   obtain ⟨ti,zv,hti,hzv,rz⟩:=zeroA_spec hz φ
   obtain ⟨φ',w',hle,hW',hrun,hφ'⟩:=new_spec (P:=P) hW hp rz.cells
   refine ⟨φ',w',hle,hW',fits_val (s:=Instr.alloc elem true (.tuple #[])) (u:=.pointer (some ⟨w.heap.size,0,none⟩)) ?_ ⟨_,_,_,hφ',rfl⟩⟩
   simp only [Instr.alloc,Sem.run_bind,run_zero hti hzv,Result.andThen_ok,newVar,hrun,Sem.run_pure]
 case box elem x =>
   simp only [aop,Option.bind_eq_some_iff,Option.map_eq_some_iff] at h
   obtain ⟨v,hv,⟨i,H1⟩,hp,he⟩:=h; cases he
   obtain ⟨φ',w',hle,hW',hrun,hφ'⟩:=new_spec (P:=P) hW hp (hρ x v hv).cells
   refine ⟨φ',w',hle,hW',fits_val (s:=Instr.box elem (ρ x)) (u:=.pointer (some ⟨w.heap.size,0,none⟩)) ?_ ⟨_,_,_,hφ',rfl⟩⟩
   simp only [Instr.box,Sem.run_bind,newVar,hrun,Result.andThen_ok,Sem.run_pure]
 case build t ps =>
   simp only [aop,Option.bind_eq_some_iff,Option.map_eq_some_iff] at h
   obtain ⟨qs,hqs,v,hv,he⟩:=h; cases he
   obtain ⟨y,hy,ry⟩:=buildA_spec (P:=P) (w:=w) (qs:=ps.map fun (i,x)=>(i,ρ x)) (by simpa using evP_spec hρ _ _ hqs) hv
   exact ⟨φ,w,Env.le_refl φ,hW,fits_val hy ry⟩
 case buildSlice t len ps =>
   simp only [aop,Option.bind_eq_some_iff,Option.map_eq_some_iff] at h
   obtain ⟨qs,hqs,⟨v,H1⟩,hv,he⟩:=h; cases he
   obtain ⟨φ',w',y,hle,hW',hy,ry⟩:=buildSliceA_spec (P:=P) hW (qs:=ps.map fun (i,x)=>(i,ρ x)) (by simpa using evP_spec hρ _ _ hqs) hv
   exact ⟨φ',w',hle,hW',fits_val hy ry⟩
 case load t a =>
   simp only [aop,Option.bind_eq_some_iff] at h
   obtain ⟨av,ha,h⟩:=h
   split at h
   · simp only [Option.map_eq_some_iff] at h
     obtain ⟨v,hv,he⟩:=h; cases he
     obtain ⟨b,o,z,hφ,hval⟩:=hρ a _ ha
     obtain ⟨u,hu,ru⟩:=ldA_spec (P:=P) hW hφ hv
     refine ⟨φ,w,Env.le_refl φ,hW,fits_val (s:=Instr.loadAt t (ρ a)) ?_ ru⟩
     simp only [Instr.loadAt,hval,Instr.sureAddr,Sem.run_bind,Sem.run_pure,Result.andThen_ok,hu]
   · cases h
 case store t a x =>
   simp only [aop,Option.bind_eq_some_iff] at h
   obtain ⟨av,ha,xv,hx,h⟩:=h
   split at h
   · simp only [Option.map_eq_some_iff] at h
     obtain ⟨H1,hs,he⟩:=h; cases he
     obtain ⟨b,o,z,hφ,hval⟩:=hρ a _ ha
     obtain ⟨w',hu,hW'⟩:=stA_spec (P:=P) hW hφ hs (hρ x _ hx)
     refine ⟨φ,w',Env.le_refl φ,hW',fits_skip (s:=Instr.storeAt t (ρ a) (ρ x)) ?_⟩
     simp only [Instr.storeAt,hval,Instr.sureAddr,Sem.run_bind,Sem.run_pure,Result.andThen_ok,hu]
   · cases h
 case nilCheck x =>
   simp only [aop,Option.bind_eq_some_iff,Option.map_eq_some_iff] at h
   obtain ⟨v,hv,v',hn,he⟩:=h; cases he
   obtain ⟨hrun,rfl⟩:=nilCheckA_spec (P:=P) (w:=w) (ρ:=ρ) hn (hρ x v hv) ⟨dst,.nilCheck x,ty,pos,after,guard⟩ x rfl rfl
   exact ⟨φ,w,Env.le_refl φ,hW,ρ x,hrun,hρ x _ hv⟩
 case binOp op t x y yt =>
   simp only [aop,Option.bind_eq_some_iff] at h
   obtain ⟨xv,hx,yv,hy,h⟩:=h
   have rx:=hρ x _ hx
   have ry:=hρ y _ hy
   split at h
   · rename_i k a k' b
     split at h
     · rename_i v hv
       cases h
       split at hv
       · rename_i hk
         subst hk
         simp only [VR] at rx ry
         obtain ⟨u,hu,ru⟩:=intBinA_spec (P:=P) (w:=w) (φ:=φ) hv t x y
         refine ⟨φ,w,Env.le_refl φ,hW,fits_val (s:=do eqGuard op t x y (ρ x) (ρ y); binOp op t (ρ x) (ρ y)) ?_ ru⟩
         rw [rx,ry]; exact hu
       · cases hv
     · exact pureA_fin hW hρ h
   · split at h
     · rename_i r hr
       cases h
       obtain ⟨h1,h2,h3,_⟩:=eqA_spec hW rx ry hr .eql x y
       refine ⟨φ,w,Env.le_refl φ,hW,fits_val (s:=do eqGuard .eql t x y (ρ x) (ρ y); binOp .eql t (ρ x) (ρ y)) (u:=.bool r) ?_ rfl⟩
       simp only [Sem.run_bind,h2,Result.andThen_ok,h3,h1,Sem.run_pure]
     · rename_i r hr
       cases h
       obtain ⟨h1,h2,_,h4⟩:=eqA_spec hW rx ry hr .neq x y
       refine ⟨φ,w,Env.le_refl φ,hW,fits_val (s:=do eqGuard .neq t x y (ρ x) (ρ y); binOp .neq t (ρ x) (ρ y)) (u:=.bool (!r)) ?_ rfl⟩
       simp only [Sem.run_bind,h2,Result.andThen_ok,h4,h1,Sem.run_pure]
     · exact pureA_fin hW hρ h
 case makeInterface t x =>
   simp only [aop,Option.bind_eq_some_iff] at h
   obtain ⟨v,hv,h⟩:=h
   split at h
   · cases h
   · rename_i d hd hu
     cases h
     refine ⟨φ,w,Env.le_refl φ,hW,fits_val (s:=Instr.makeInterface t (ρ x)) (u:=.iface t (ρ x)) ?_ ⟨_,rfl,hρ x v hv⟩⟩
     cases d <;> first | exact absurd rfl (hd _) | simp [Instr.makeInterface,run_und hu]
   · cases h
 case makeFunc fn first cap =>
   simp only [aop,Option.bind_eq_some_iff,Option.map_eq_some_iff] at h
   obtain ⟨f,hf,c,hc,he⟩:=h; cases he
   refine ⟨φ,w,Env.le_refl φ,hW,fits_val (s:=Instr.makeFunc fn (first.map ρ) (cap.map ρ)) (u:=.func fn (first.map ρ) (cap.map ρ)) rfl ⟨_,_,rfl,?_,?_⟩⟩
   · simpa using evL_spec hρ _ _ hf
   · simpa using evL_spec hρ _ _ hc
 case makeMap t r =>
   cases r with
   | some r=>simp only [aop] at h; exact pureA_fin hW hρ h
   | none =>
     simp only [aop,Option.map_eq_some_iff] at h
     obtain ⟨⟨i,H1⟩,hp,he⟩:=h; cases he
     obtain ⟨hle,hW'⟩:=hW.alloc hp (.map #[] 0) 0 ⟨w.heap.size,0,#[],Env.set_self _ _ _,by simp,rfl⟩ rfl
     exact ⟨_,_,hle,hW',fits_val (s:=Instr.makeMap t none) (u:=.map (some w.heap.size)) (by simp [Instr.makeMap]) ⟨_,_,Env.set_self _ _ _,rfl⟩⟩
 case makeSlice t l c =>
   simp only [aop,Option.bind_eq_some_iff,Option.map_eq_some_iff] at h
   obtain ⟨lv,hl,cv,hc,⟨v,H1⟩,hv,he⟩:=h; cases he
   obtain ⟨φ',w',y,hle,hW',hy,ry⟩:=makeSliceA_spec (P:=P) hW (hρ l _ hl) (hρ c _ hc) hv
   exact ⟨φ',w',hle,hW',fits_val hy ry⟩
 case slice t x lo hi mx =>
   simp only [aop,Option.bind_eq_some_iff] at h
   obtain ⟨xv,hx,l,hl,hh',hh,m,hm,h⟩:=h
   split at h
   · rename_i v hv
     cases h
     obtain ⟨y,hy,ry⟩:=sliceA_spec (P:=P) hW (hρ x _ hx) (evO_spec hρ hl) (evO_spec hρ hh) (evO_spec hρ hm) hv
     exact ⟨φ,w,Env.le_refl φ,hW,fits_val hy ry⟩
   · exact pureA_fin hW hρ h
 case fieldAddr t x f =>
   simp only [aop,Option.bind_eq_some_iff,Option.map_eq_some_iff] at h
   obtain ⟨xv,hx,v,hv,he⟩:=h; cases he
   obtain ⟨y,hy,ry⟩:=fieldAddrA_spec (P:=P) (hρ x _ hx) hv
   exact ⟨φ,w,Env.le_refl φ,hW,fits_val (hy w) ry⟩
 case field t x f =>
   simp only [aop,Option.bind_eq_some_iff,Option.map_eq_some_iff] at h
   obtain ⟨xv,hx,v,hv,he⟩:=h; cases he
   obtain ⟨y,hy,ry⟩:=fieldA_spec (P:=P) (hρ x _ hx) hv
   exact ⟨φ,w,Env.le_refl φ,hW,fits_val (hy w) ry⟩
 case indexAddr t x ix =>
   simp only [aop,Option.bind_eq_some_iff,Option.map_eq_some_iff] at h
   obtain ⟨xv,hx,iv,hi,v,hv,he⟩:=h; cases he
   obtain ⟨y,hy,ry⟩:=indexAddrA_spec (P:=P) (hρ x _ hx) (hρ ix _ hi) hv
   exact ⟨φ,w,Env.le_refl φ,hW,fits_val (hy w) ry⟩
 case lookup t m k ok =>
   simp only [aop,Option.bind_eq_some_iff,Option.map_eq_some_iff] at h
   obtain ⟨mv,hm,kv,hk,v,hv,he⟩:=h; cases he
   obtain ⟨y,hy,ry⟩:=lookupA_spec (P:=P) hW (hρ m _ hm) (hρ k _ hk) hv
   exact ⟨φ,w,Env.le_refl φ,hW,fits_val hy ry⟩
 case mapUpdate t m k x =>
   simp only [aop,Option.bind_eq_some_iff,Option.map_eq_some_iff] at h
   obtain ⟨mv,hm,kv,hk,vv,hv,H1,hp,he⟩:=h; cases he
   obtain ⟨w',hy,hW'⟩:=mapPutA_spec (P:=P) hW (hρ m _ hm) (hρ k _ hk) (hρ x _ hv) hp
   exact ⟨φ,w',Env.le_refl φ,hW',fits_skip hy⟩
 case mapEntry t m k =>
   simp only [aop,Option.bind_eq_some_iff,Option.map_eq_some_iff] at h
   obtain ⟨mv,hm,kv,hk,⟨v,H1⟩,hp,he⟩:=h; cases he
   obtain ⟨y,w',hy,ry,hW'⟩:=mapEntryA_spec (P:=P) hW (hρ m _ hm) (hρ k _ hk) hp
   exact ⟨φ,w',Env.le_refl φ,hW',fits_val hy ry⟩
 case entryStore t m s x =>
   simp only [aop,Option.bind_eq_some_iff,Option.map_eq_some_iff] at h
   obtain ⟨mv,hm,sv,hs,vv,hv,H1,hp,he⟩:=h; cases he
   obtain ⟨w',hy,hW'⟩:=entryStoreA_spec (P:=P) (t:=t) hW (hρ m _ hm) (hρ s _ hs) (hρ x _ hv) hp
   exact ⟨φ,w',Env.le_refl φ,hW',fits_skip hy⟩
 case insert t m k x =>
   simp only [aop,Option.bind_eq_some_iff,Option.map_eq_some_iff] at h
   obtain ⟨mv,hm,kv,hk,vv,hv,H1,hp,he⟩:=h; cases he
   obtain ⟨w',hy,hW'⟩:=mapPutA_spec (P:=P) hW (hρ m _ hm) (hρ k _ hk) (hρ x _ hv) hp
   exact ⟨φ,w',Env.le_refl φ,hW',fits_skip hy⟩
 case extract t ix =>
   simp only [aop,Option.bind_eq_some_iff] at h
   obtain ⟨tv,ht,h⟩:=h
   split at h
   · rename_i vs
     simp only [Option.map_eq_some_iff] at h
     obtain ⟨v,hv,he⟩:=h; cases he
     obtain ⟨us,hval,rs⟩:=hρ t _ ht
     obtain ⟨u,hu,ru⟩:=rs.get ix v hv
     have hu':us[ix]? =some u:=by simpa using hu
     exact ⟨φ,w,Env.le_refl φ,hW,fits_val (s:=Instr.extract (ρ t) ix) (by simp [Instr.extract,hval,hu']) ru⟩
   · cases h
 case call c =>
   simp only [aop] at h
   exact callA_spec hW hρ h
 case convert t u x =>
   simp only [aop] at h
   split at h
   · rename_i m hm
     cases h
     exact pureA_fin hW hρ (by rw [hm]; rfl)
   · simp only [Option.bind_eq_some_iff,Option.map_eq_some_iff] at h
     obtain ⟨v,hv,s,hs,he⟩:=h
     cases he
     exact ⟨φ,w,Env.le_refl φ,hW,fits_val (s:=convert t u (ρ x)) (u:=.string s) (strA_spec (P:=P) hW (hρ x v hv) hs) rfl⟩
 all_goals (simp only [aop] at h; exact pureA_fin hW hρ h)
end
end Go.Dv
