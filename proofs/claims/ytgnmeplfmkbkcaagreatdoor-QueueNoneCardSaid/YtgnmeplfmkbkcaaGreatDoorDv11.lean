/- One operation on an abstract state, and that the model's own does what it says (own work). -/
import Derived.Test.YtgnmeplfmkbkcaaGreatDoorDvE

namespace Go.Dv

abbrev CallF := FuncId → List AV → AH → Option (AV × AH)

/-- Where a package variable's block lies in the abstract heap. -/
abbrev GL := Nat → Option Nat
def GI (gl : GL) (φ : Env) : Prop := ∀ g i, gl g = some i → ∃ z, φ i = some (g, 0, z)
theorem GI.mono {gl : GL} {φ ψ : Env} (h : GI gl φ) (l : φ.le ψ) : GI gl ψ := fun g i e => (h g i e).imp fun _ r => l _ _ r

/-- A table of calls is right: what it answers the model's call answers, in every world. -/
def CallOk (P : Program) (gl : GL) (w0 : World) (Pr : Nat → Prop) (call : CallF) : Prop :=
  ∀ f args H v H', call f args H = some (v, H') → ∀ φ w (vs : Array Value), GI gl φ → WR w0 Pr φ H w → VRs φ args vs.toList →
    Calls P f vs w fun e w' => ∃ φ' u, φ.le φ' ∧ e = .returned u ∧ VR φ' v u ∧ WR w0 Pr φ' H' w'

/-- What a program's text fixes: which function a method's name means at a type; and calls whose answer is known. -/
structure Cfg (P : Program) where
  gl : GL
  pin : World → (Nat → Prop) → Prop
  orc : CallF
  orcOk : ∀ w0 Pr, pin w0 Pr → CallOk P gl w0 Pr orc
  meth : TypeId → String → Option FuncId
  methOk : ∀ t n f, meth t n = some f → ∀ (v : Value) (w : World), (method (P.types.size + Made.depth) t v n).run P w = .ok (f, v) w
  name : ∀ (f : Nat) (g : Func), P.funcs[f]? = some g → (g.name == "runtime.NumGoroutine") = false
  mixed : P.follows .mixedOrders = true

def intBinA (op : BinOp) (k : IntKind) (a b : Int) : Option AV :=
  match op with
  | .add => some (.int k (k.wrap (a + b)))
  | .sub => some (.int k (k.wrap (a - b)))
  | .mul => some (.int k (k.wrap (a * b)))
  | .quo => if b = 0 then none else some (.int k (k.wrap (a.tdiv b)))
  | .rem => if b = 0 then none else some (.int k (a.tmod b))
  | .eql => some (.bool (a == b))
  | .neq => some (.bool (a != b))
  | .lss => some (.bool (decide (a < b)))
  | .leq => some (.bool (decide (a ≤ b)))
  | .gtr => some (.bool (decide (a > b)))
  | .geq => some (.bool (decide (a ≥ b)))
  | _ => none

/-- The same, where the model compares without a further look. -/
def eqVG (P : Program) (t : TypeId) (x y : AV) : Option Bool :=
  match x, y with
  | .int _ _, _ => none
  | .str _, _ => none
  | _, _ => if P.eqGuardType P.depth t then none else eqVA P 6 t x y

def eqA (P : Program) (t : TypeId) (H : AH) (x y : AV) : Option Bool :=
  match P.underlying t with
  | some (.slice _) => match x, y with
    | .nilSlice, .nilSlice => some true
    | .nilSlice, .slice .. => some false
    | .slice .., .nilSlice => some false
    | _, _ => none
  | some (.map _ _) => match x, y with
    | .nilMap, .nilMap => some true
    | .nilMap, .map _ => some false
    | .map _, .nilMap => some false
    | _, _ => none
  | some (.func _ _ _) => match x, y with
    | .nilFunc, .nilFunc => some true
    | .nilFunc, .func .. => some false
    | .func .., .nilFunc => some false
    | _, _ => none
  | some (.interface _) => match x, y with
    | .nilIface, .iface .. => some false
    | .iface .., .nilIface => some false
    | .iface t _, .iface u _ => if t = u then none else some false
    | _, _ => none
  | some (.pointer e) => match x, y with
    | .nilPtr, .nilPtr => some true
    | .nilPtr, .ptr .. => some false
    | .ptr .., .nilPtr => some false
    | .ptr i k, .ptr j l => if P.cellsOf e = 0 then none else (P.info? e).bind fun _ =>
      if i = j then some (k == l) else match H[i]?, H[j]? with
        | some (.cells _ _), some (.cells _ _) => some false
        | _, _ => none
    | _, _ => none
  | _ => eqVG P t x y

def rhoOf (ev : Operand → Option AV) : Operand → Value := fun x => ((ev x).bind toV).getD undef

def notSelect : Op → Bool
  | .select .. => false
  | _ => true

/-- An operation on values that lead to no block, that touches no memory: the model's own. -/
def pureA (P : Program) (ev : Operand → Option AV) (o : Oper) : Option ANext :=
  if notSelect o.op && o.op.operands.toList.all (fun x => ((ev x).bind toV).isSome) then
    match pureRun P (execOp (rhoOf ev) o) with
    | some (.value v) => (ofV 6 v).map .val
    | _ => none
  else none

def evL (ev : Operand → Option AV) : List Operand → Option (List AV)
  | [] => some []
  | x :: xs => (ev x).bind fun v => (evL ev xs).map (v :: ·)

def evP (ev : Operand → Option AV) : List (Nat × Operand) → Option (List (Nat × AV))
  | [] => some []
  | (i, x) :: xs => (ev x).bind fun v => (evP ev xs).map ((i, v) :: ·)

def evO (ev : Operand → Option AV) : Option Operand → Option (Option AV)
  | none => some none
  | some x => (ev x).map some

def lenA (P : Program) (t : TypeId) (H : AH) (x : AV) : Option AV :=
  match P.underlying t with
  | some (.slice _) => match x with
    | .slice _ _ _ len _ _ => some (.int .i64 len)
    | .nilSlice => some (.int .i64 0)
    | _ => none
  | some .string => match x with
    | .str s => some (.int .i64 s.size)
    | _ => none
  | some (.map _ _) => (entriesA H x).map fun es => .int .i64 es.length
  | _ => none

def callA (P : Program) (C : Cfg P) (slot : Option Nat) (ev : Operand → Option AV) (o : Oper) (c : Call) (H : AH) : Option (ANext × AH) :=
  match c.callee with
  | .value f => (ev f).bind fun fv => (evL ev c.args.toList).bind fun as =>
    match fv with
    | .func (.func g) first cap => (P.funcs[g]?).bind fun fn => if fn.body.isSome then some (.enter g (first ++ as ++ cap), H) else none
    | _ => none
  | .invoke r name => (ev r).bind fun rv => (evL ev c.args.toList).bind fun as =>
    match rv with
    | .iface t v => (C.meth t name).bind fun g => (P.funcs[g]?).bind fun fn => if fn.body.isSome then some (.enter g (v :: as), H) else none
    | _ => none
  | .builtin b => (evL ev c.args.toList).bind fun as =>
    match b, as with
    | .len, [x] => ((c.argTypes[0]?).bind fun t => lenA P t H x).map fun v => (.val v, H)
    | .append, [s, x] => ((c.argTypes[0]?).bind fun t => appendA P slot t c.argTypes[1]? s x H).map fun (v, H') => (.val v, H')
    | .clear, [x] => ((c.argTypes[0]?).bind fun t => clearA P t x H).map fun H' => (.val (.tuple []), H')
    | .copy, [d, s] => ((c.argTypes[0]?).bind fun t => copyA P t d s H).map fun (v, H') => (.val v, H')
    | _, _ => (pureA P ev o).map fun n => (n, H)

def nilCheckA : AV → Option AV
  | .nilPtr | .nilIface | .nilFunc => none
  | .func (.method _) _ _ => none
  | .junk => none
  | v => some v

/-- the bytes of cells -/
def bytesOfA : List AV → Option (List Int)
  | [] => some []
  | .int .u8 n :: l => (bytesOfA l).map (n :: ·)
  | _ => none
def packB (ns : List Int) : ByteArray := ns.foldl (fun r n => r.push (UInt8.ofNat n.toNat)) ByteArray.empty
/-- a slice of bytes as a string -/
def strA (P : Program) (H : AH) (t u : TypeId) (v : AV) : Option ByteArray :=
  match P.underlying t, P.underlying u with
  | some (.slice e), some .string => match P.underlying e with
    | some (.int .u8) => match v with
      | .nilSlice => some .empty
      | .slice i k es len _ _ => if es = 1 ∧ 0 < len then (rdCells H i k len).bind fun cs => (bytesOfA cs).map packB else none
      | _ => none
    | _ => none
  | _, _ => none

def aop (P : Program) (C : Cfg P) (slot : Option Nat) (ev : Operand → Option AV) (o : Oper) (H : AH) : Option (ANext × AH) :=
  match o.op with
  | .move x => (ev x).map fun v => (.val v, H)
  | .assign x => (ev x).map fun v => (.val v, H)
  | .pick c a b => (ev c).bind fun cv => match cv with
    | .bool true => (ev a).map fun v => (.val v, H)
    | .bool false => (ev b).map fun v => (.val v, H)
    | _ => none
  | .alloc elem => (zeroA P elem).bind fun z => (put slot H (.cells z.cells elem)).map fun (i, H') => (.val (.ptr i 0), H')
  | .box elem x => (ev x).bind fun v => (put slot H (.cells v.cells elem)).map fun (i, H') => (.val (.ptr i 0), H')
  | .build t ps => (evP ev ps.toList).bind fun qs => (buildA P t qs).map fun v => (.val v, H)
  | .buildSlice t len ps => (evP ev ps.toList).bind fun qs => (buildSliceA P slot t len qs H).map fun (v, H') => (.val v, H')
  | .load t a => (ev a).bind fun av => match av with
    | .ptr i k => (ldA P t H i k).map fun v => (.val v, H)
    | _ => none
  | .store t a x => (ev a).bind fun av => (ev x).bind fun xv => match av with
    | .ptr i k => (stA P t H i k xv).map fun H' => (.skip, H')
    | _ => none
  | .nilCheck x => (ev x).bind fun v => (nilCheckA v).map fun v => (.val v, H)
  | .binOp op t x y _ => (ev x).bind fun xv => (ev y).bind fun yv =>
    match xv, yv with
    | .int k a, .int k' b => match (if k = k' then intBinA op k a b else none) with
      | some v => some (.val v, H)
      | none => (pureA P ev o).map fun n => (n, H)
    | _, _ => match op, eqA P t H xv yv with
      | .eql, some r => some (.val (.bool r), H)
      | .neq, some r => some (.val (.bool (!r)), H)
      | _, _ => (pureA P ev o).map fun n => (n, H)
  | .makeInterface t x => (ev x).bind fun v => match P.underlying t with
    | some (.interface _) => none
    | some _ => some (.val (.iface t v), H)
    | none => none
  | .makeFunc fn first cap => (evL ev first.toList).bind fun f => (evL ev cap.toList).map fun c => (.val (.func fn f c), H)
  | .makeMap _ none => (put slot H (.map [] 0)).map fun (i, H') => (.val (.map i), H')
  | .makeSlice t l c => (ev l).bind fun lv => (ev c).bind fun cv => (makeSliceA P slot t lv cv H).map fun (v, H') => (.val v, H')
  | .slice t x lo hi mx => (ev x).bind fun xv => (evO ev lo).bind fun l => (evO ev hi).bind fun h => (evO ev mx).bind fun m =>
    match sliceA P t H xv l h m with
    | some v => some (.val v, H)
    | none => (pureA P ev o).map fun n => (n, H)
  | .fieldAddr t x f => (ev x).bind fun xv => (fieldAddrA P t xv f).map fun v => (.val v, H)
  | .field t x f => (ev x).bind fun xv => (fieldA P t xv f).map fun v => (.val v, H)
  | .indexAddr t x ix => (ev x).bind fun xv => (ev ix).bind fun iv => (indexAddrA P t xv iv).map fun v => (.val v, H)
  | .lookup t m k ok => (ev m).bind fun mv => (ev k).bind fun kv => (lookupA P t mv kv ok H).map fun v => (.val v, H)
  | .mapEntry t m k => (ev m).bind fun mv => (ev k).bind fun kv => (mapEntryA P t mv kv H).map fun (v, H') => (.val v, H')
  | .entryStore _ m s x => (ev m).bind fun mv => (ev s).bind fun sv => (ev x).bind fun xv => (entryStoreA mv sv xv H).map fun H' => (.skip, H')
  | .mapUpdate t m k v => (ev m).bind fun mv => (ev k).bind fun kv => (ev v).bind fun vv => (mapPutA P t mv kv vv H).map fun H' => (.skip, H')
  | .insert t m k v => (ev m).bind fun mv => (ev k).bind fun kv => (ev v).bind fun vv => (mapPutA P t mv kv vv H).map fun H' => (.skip, H')
  | .extract t ix => (ev t).bind fun tv => match tv with
    | .tuple vs => (vs[ix]?).map fun v => (.val v, H)
    | _ => none
  | .call c => callA P C slot ev o c H
  | .convert t u x => match pureA P ev o with
    | some n => some (n, H)
    | none => (ev x).bind fun v => (strA P H t u v).map fun s => (.val (.str s), H)
  | _ => (pureA P ev o).map fun n => (n, H)

end Go.Dv
