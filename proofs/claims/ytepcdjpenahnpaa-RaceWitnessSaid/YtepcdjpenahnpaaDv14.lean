/- The evaluator on abstract states: operations in a row, regions whose order is drawn, code, calls (own work). -/
import Derived.Test.YtepcdjpenahnpaaDv13

namespace Go.Dv

/-! equality of abstract states, decided -/
mutual
def AV.beq : AV → AV → Bool
  | .int k n, .int k' n' => k == k' && n == n'
  | .bool b, .bool b' => b == b'
  | .str s, .str s' => decide (s = s')
  | .nilPtr, .nilPtr => true
  | .ptr i k, .ptr i' k' => i == i' && k == k'
  | .nilSlice, .nilSlice => true
  | .slice i k es l c x, .slice i' k' es' l' c' x' => i == i' && k == k' && es == es' && l == l' && c == c' && x == x'
  | .nilMap, .nilMap => true
  | .map i, .map i' => i == i'
  | .func fn f c, .func fn' f' c' => decide (fn = fn') && AV.beqs f f' && AV.beqs c c'
  | .nilFunc, .nilFunc => true
  | .iface t x, .iface t' x' => t == t' && AV.beq x x'
  | .nilIface, .nilIface => true
  | .agg cs, .agg cs' => AV.beqs cs cs'
  | .tuple cs, .tuple cs' => AV.beqs cs cs'
  | .junk, .junk => true
  | _, _ => false
def AV.beqs : List AV → List AV → Bool
  | [], [] => true
  | x :: xs, y :: ys => AV.beq x y && AV.beqs xs ys
  | _, _ => false
end

mutual
theorem AV.beq_eq : ∀ x y : AV, AV.beq x y = true → x = y
  | .int k n, y, h => by cases y <;> simp_all [AV.beq]
  | .bool b, y, h => by cases y <;> simp_all [AV.beq]
  | .str s, y, h => by cases y <;> simp_all [AV.beq]
  | .nilPtr, y, h => by cases y <;> simp_all [AV.beq]
  | .ptr i k, y, h => by cases y <;> simp_all [AV.beq]
  | .nilSlice, y, h => by cases y <;> simp_all [AV.beq]
  | .slice i k es l c x, y, h => by cases y <;> simp_all [AV.beq]
  | .nilMap, y, h => by cases y <;> simp_all [AV.beq]
  | .map i, y, h => by cases y <;> simp_all [AV.beq]
  | .func fn f c, y, h => by
    cases y <;> simp only [AV.beq, Bool.and_eq_true, decide_eq_true_eq, Bool.false_eq_true] at h
    rw [h.1.1, AV.beqs_eq f _ h.1.2, AV.beqs_eq c _ h.2]
  | .nilFunc, y, h => by cases y <;> simp_all [AV.beq]
  | .iface t x, y, h => by
    cases y <;> simp only [AV.beq, Bool.and_eq_true, beq_iff_eq, Bool.false_eq_true] at h
    rw [h.1, AV.beq_eq x _ h.2]
  | .nilIface, y, h => by cases y <;> simp_all [AV.beq]
  | .junk, y, h => by cases y <;> simp_all [AV.beq]
  | .agg cs, y, h => by
    cases y <;> simp only [AV.beq, Bool.false_eq_true] at h
    rw [AV.beqs_eq cs _ h]
  | .tuple cs, y, h => by
    cases y <;> simp only [AV.beq, Bool.false_eq_true] at h
    rw [AV.beqs_eq cs _ h]
theorem AV.beqs_eq : ∀ xs ys : List AV, AV.beqs xs ys = true → xs = ys
  | [], [], _ => rfl
  | [], _ :: _, h => by simp [AV.beqs] at h
  | _ :: _, [], h => by simp [AV.beqs] at h
  | x :: xs, y :: ys, h => by
    simp only [AV.beqs, Bool.and_eq_true] at h
    rw [AV.beq_eq x y h.1, AV.beqs_eq xs ys h.2]
end

mutual
theorem AV.beq_self : ∀ x : AV, AV.beq x x = true
  | .int k n | .bool b | .str s | .nilPtr | .ptr i k | .nilSlice | .slice i k es l c x | .nilMap | .map i | .nilFunc | .nilIface | .junk => by simp [AV.beq]
  | .func fn f c => by simp [AV.beq, AV.beqs_self f, AV.beqs_self c]
  | .iface t x => by simp [AV.beq, AV.beq_self x]
  | .agg cs => by simp [AV.beq, AV.beqs_self cs]
  | .tuple cs => by simp [AV.beq, AV.beqs_self cs]
theorem AV.beqs_self : ∀ xs : List AV, AV.beqs xs xs = true
  | [] => rfl
  | x :: xs => by simp [AV.beqs, AV.beq_self x, AV.beqs_self xs]
end

def entBeq : List (AV × AV × Nat) → List (AV × AV × Nat) → Bool
  | [], [] => true
  | (k, v, n) :: es, (k', v', n') :: es' => AV.beq k k' && AV.beq v v' && n == n' && entBeq es es'
  | _, _ => false
theorem entBeq_eq : ∀ es es', entBeq es es' = true → es = es'
  | [], [], _ => rfl
  | [], _ :: _, h => by simp [entBeq] at h
  | _ :: _, [], h => by simp [entBeq] at h
  | (k, v, n) :: es, (k', v', n') :: es', h => by
    simp only [entBeq, Bool.and_eq_true, beq_iff_eq] at h
    rw [AV.beq_eq _ _ h.1.1.1, AV.beq_eq _ _ h.1.1.2, h.1.2, entBeq_eq _ _ h.2]
theorem entBeq_self : ∀ es, entBeq es es = true
  | [] => rfl
  | (k, v, n) :: es => by simp [entBeq, AV.beq_self, entBeq_self es]

def AObj.beq : AObj → AObj → Bool
  | .fresh, .fresh => true
  | .dead, .dead => true
  | .cells cs e, .cells cs' e' => AV.beqs cs cs' && e == e'
  | .arg cs, .arg cs' => AV.beqs cs cs'
  | .map es c, .map es' c' => entBeq es es' && c == c'
  | .strIter s p, .strIter s' p' => decide (s = s') && p == p'
  | _, _ => false
theorem AObj.beq_eq (x y : AObj) (h : AObj.beq x y = true) : x = y := by
  cases x <;> cases y <;> simp only [AObj.beq, Bool.and_eq_true, beq_iff_eq, Bool.false_eq_true, decide_eq_true_eq] at h <;> first
    | rfl
    | (rw [AV.beqs_eq _ _ h.1, h.2])
    | (rw [AV.beqs_eq _ _ h])
    | (rw [entBeq_eq _ _ h.1, h.2])
    | (rw [h.1, h.2])
theorem AObj.beq_self (x : AObj) : AObj.beq x x = true := by
  cases x <;> simp [AObj.beq, AV.beqs_self, entBeq_self]

def heapBeq : AH → AH → Bool
  | [], [] => true
  | x :: xs, y :: ys => AObj.beq x y && heapBeq xs ys
  | _, _ => false
theorem heapBeq_eq : ∀ xs ys, heapBeq xs ys = true → xs = ys
  | [], [], _ => rfl
  | [], _ :: _, h => by simp [heapBeq] at h
  | _ :: _, [], h => by simp [heapBeq] at h
  | x :: xs, y :: ys, h => by
    simp only [heapBeq, Bool.and_eq_true] at h
    rw [AObj.beq_eq x y h.1, heapBeq_eq xs ys h.2]
theorem heapBeq_self : ∀ xs, heapBeq xs xs = true
  | [] => rfl
  | x :: xs => by simp [heapBeq, AObj.beq_self, heapBeq_self xs]

/-! one step -/
abbrev St := List AV × AH

def evalA (tm : List AV) : Operand → Option AV
  | .tmp t => some (tm.getD t undefA)
  | .const v => ofV 6 v
  | .global _ => none
  | .func f => some (.func (.func f) [] [])

def putA (dst : Option Tmp) (v : AV) (tm : List AV) : List AV :=
  match dst with
  | some d => tm.set d v
  | none => tm

def yieldedA (ops : Array Oper) (tm : List AV) (j : Nat) : Option Bool :=
  match ((ops[j]?).bind (·.dst)).bind (tm[·]?) with
  | some (.bool b) => some b
  | _ => none

def stepA (P : Program) (C : Cfg P) (call : CallF) (slot : Option Nat) (ops : Array Oper) (i : Nat) (s : St) : Option St :=
  match ops[i]? with
  | none => some s
  | some o =>
    if Region.wanted o (yieldedA ops s.1) then
      match aop P C slot (evalA s.1) o s.2 with
      | some (.val v, H') => some (putA o.dst v s.1, H')
      | some (.skip, H') => some (putA o.dst undefA s.1, H')
      | some (.enter f args, H') => (call f args H').map fun (v, H'') => (putA o.dst v s.1, H'')
      | none => none
    else some (putA o.dst undefA s.1, s.2)

def runOps (P : Program) (C : Cfg P) (call : CallF) (ops : Array Oper) : List Nat → St → Option St
  | [], s => some s
  | i :: is, s => (stepA P C call none ops i s).bind fun s' => runOps P C call ops is s'

/-- An operation that yields the same value in whatever world. -/
def quietA (P : Program) (ev : Operand → Option AV) (o : Oper) : Option AV :=
  match o.op with
  | .move x => ev x
  | .assign x => ev x
  | .pick c a b => (ev c).bind fun cv => match cv with
    | .bool true => ev a
    | .bool false => ev b
    | _ => none
  | .binOp op t x y _ => (ev x).bind fun xv => (ev y).bind fun yv =>
    match xv, yv with
    | .int k a, .int k' b => match (if k = k' then intBinA op k a b else none) with
      | some v => some v
      | none => (pureA P ev o).bind fun n => match n with | .val v => some v | _ => none
    | _, _ => match op, eqVG P t xv yv with
      | .eql, some r => some (.bool r)
      | .neq, some r => some (.bool (!r))
      | _, _ => (pureA P ev o).bind fun n => match n with | .val v => some v | _ => none
  | .unOp .. | .convert .. | .index .. | .typeAssert .. => (pureA P ev o).bind fun n => match n with | .val v => some v | _ => none
  | .makeInterface t x => (ev x).bind fun v => match P.underlying t with
    | some (.interface _) => none
    | some _ => some (.iface t v)
    | none => none
  | .makeFunc fn first cap => (evL ev first.toList).bind fun f => (evL ev cap.toList).map fun c => .func fn f c
  | .fieldAddr t x f => (ev x).bind fun xv => fieldAddrA P t xv f
  | .field t x f => (ev x).bind fun xv => fieldA P t xv f
  | .indexAddr t x ix => (ev x).bind fun xv => (ev ix).bind fun iv => indexAddrA P t xv iv
  | .extract t ix => (ev t).bind fun tv => match tv with
    | .tuple vs => vs[ix]?
    | _ => none
  | .nilCheck x => (ev x).bind nilCheckA
  | _ => none

/-- How a region whose order is drawn is gone through: first what yields whatever the order; else every order. -/
inductive Plan where
  | done
  | take (i : Nat) (p : Plan)
  | all (l : List (Nat × Plan))
  deriving Inhabited

def isTake : Op → Bool
  | .move _ | .assign _ | .pick .. | .binOp .. | .unOp .. | .convert .. | .index .. | .makeInterface .. | .makeFunc .. | .fieldAddr .. | .field .. | .indexAddr .. | .extract .. | .nilCheck _ => true
  | _ => false

def planOf (ops : Array Oper) : Nat → Array Bool → Plan
  | 0, listed => match Region.ready .any ops listed with
    | [] => .done
    | _ => .all []
  | n + 1, listed =>
    match Region.ready .any ops listed with
    | [] => .done
    | rs => match rs.find? fun i => ((ops[i]?).map fun o => isTake o.op).getD false && Region.free .any ops listed i with
      | some i => .take i (planOf ops n (listed.setIfInBounds i true))
      | none => .all (rs.map fun i => (i, planOf ops n (listed.setIfInBounds i true)))

def stBeq (a b : St) : Bool := AV.beqs a.1 b.1 && heapBeq a.2 b.2
theorem stBeq_eq {a b : St} (h : stBeq a b = true) : a = b := by
  simp only [stBeq, Bool.and_eq_true] at h
  exact Prod.ext (AV.beqs_eq _ _ h.1) (heapBeq_eq _ _ h.2)
theorem stBeq_self (a : St) : stBeq a a = true := by simp [stBeq, AV.beqs_self, heapBeq_self]

mutual
def runPlan (P : Program) (C : Cfg P) (call : CallF) (base : Nat) (ops : Array Oper) : Plan → St → Option St
  | .done, s => some s
  | .take i p, s =>
    match ops[i]? with
    | none => none
    | some o => (if Region.wanted o (yieldedA ops s.1) then quietA P (evalA s.1) o else some undefA).bind fun v =>
        runPlan P C call base ops p (putA o.dst v s.1, s.2)
  | .all l, s => runAll P C call base ops l s none
def runAll (P : Program) (C : Cfg P) (call : CallF) (base : Nat) (ops : Array Oper) : List (Nat × Plan) → St → Option St → Option St
  | [], _, r => r
  | (i, p) :: l, s, r => (stepA P C call (some (base + i)) ops i s).bind fun s' => (runPlan P C call base ops p s').bind fun t =>
    match r with
    | none => runAll P C call base ops l s (some t)
    | some t0 => if stBeq t0 t then runAll P C call base ops l s (some t0) else none
end

inductive AExit where
  | normal
  | exit (id : Nat)
  | ret
  deriving Inhabited

def loopA (f : St → Option (AExit × St)) : Nat → St → Option (AExit × St)
  | 0, _ => none
  | n + 1, s => match f s with
    | some (.normal, s') => loopA f n s'
    | r => r

def allocates : Op → Bool
  | .alloc _ | .box .. | .buildSlice .. | .makeSlice .. | .makeMap .. => true
  | .call { callee := .builtin .append, .. } => true
  | _ => false

def evC (P : Program) (C : Cfg P) (call : CallF) (n : Nat) : Code → St → Option (AExit × St)
  | .skip, s => some (.normal, s)
  | .region _ ops false, s => (runOps P C call ops (List.range ops.size) s).map fun s' => (.normal, s')
  | .region _ ops true, s =>
    let H := if ops.any (allocates ·.op) then s.2 ++ List.replicate ops.size .fresh else s.2
    if Region.noSelect ops then (runPlan P C call s.2.length ops (planOf ops ops.size (Array.replicate ops.size false)) (s.1, H)).map fun s' => (.normal, s') else none
  | .seq a b, s => match evC P C call n a s with
    | some (.normal, s') => evC P C call n b s'
    | r => r
  | .cond c x y, s => match evalA s.1 c with
    | some (.bool true) => evC P C call n x s
    | some (.bool false) => evC P C call n y s
    | _ => none
  | .block id body, s => match evC P C call n body s with
    | some (.exit id', s') => if id' = id then some (.normal, s') else some (.exit id', s')
    | r => r
  | .loop body, s => loopA (fun s => evC P C call n body s) n s
  | .exit id, s => some (.exit id, s)
  | .ret, s => some (.ret, s)
  | _, _ => none

def resultsA (P : Program) (tm : List AV) (H : AH) : List ResultVar → Option (List AV)
  | [] => some []
  | .tmp t :: rs => (resultsA P tm H rs).map (tm.getD t undefA :: ·)
  | .cell a t :: rs => match tm.getD a undefA with
    | .ptr i k => (ldA P t H i k).bind fun v => (resultsA P tm H rs).map (v :: ·)
    | _ => none

def retA (P : Program) (fn : Func) (s : St) : Option (AV × AH) :=
  (resultsA P s.1 s.2 fn.results.toList).map fun vs => (match vs with | [v] => v | vs => .tuple vs, s.2)

def evCall (P : Program) (C : Cfg P) : Nat → CallF
  | 0, _, _, _ => none
  | n + 1, f, args, H => match C.orc f args H with
    | some r => some r
    | none => (P.funcs[f]?).bind fun fn => fn.body.bind fun c =>
      match evC P C (evCall P C n) n c (args ++ List.replicate (fn.ntmps - args.length) undefA, H) with
      | some (.normal, s) => retA P fn s
      | some (.ret, s) => retA P fn s
      | _ => none

end Go.Dv
