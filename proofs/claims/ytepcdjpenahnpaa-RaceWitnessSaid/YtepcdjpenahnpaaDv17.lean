/- Small equations to reckon a function's answer with (own work). -/
import Derived.Test.YtepcdjpenahnpaaDv16

namespace Go.Dv

section
variable {P : Program} {C : Cfg P}

def stepO (P : Program) (C : Cfg P) (call : CallF) (slot : Option Nat) (ops : Array Oper) (o : Oper) (s : St) : Option St :=
  if Region.wanted o (yieldedA ops s.1) then (aop P C slot (evalA s.1) o s.2).bind fun r => match r with
      | (.val v, H') => some (putA o.dst v s.1, H')
      | (.skip, H') => some (putA o.dst undefA s.1, H')
      | (.enter f args, H') => (call f args H').bind fun r => some (putA o.dst r.1 s.1, r.2)
    else some (putA o.dst undefA s.1, s.2)

def runL (P : Program) (C : Cfg P) (call : CallF) (ops : Array Oper) : List Oper → St → Option St
  | [], s => some s
  | o :: os, s => (stepO P C call none ops o s).bind fun s' => runL P C call ops os s'

theorem runL_eq (call : CallF) (ops : Array Oper) : ∀ (os : List Oper) (k : Nat) (s : St), (∀ i o, os[i]? = some o → ops[k + i]? = some o) → runOps P C call ops ((List.range os.length).map (k + ·)) s = runL P C call ops os s
  | [], k, s, h => rfl
  | o :: os, k, s, h => by
    have h0 : ops[k]? = some o := by simpa using h 0 o rfl
    have e : (List.range (o :: os).length).map (k + ·) = k :: (List.range os.length).map (k + 1 + ·) := by
      rw [List.length_cons, List.range_succ_eq_map]
      simp only [List.map_cons, List.map_map, Nat.add_zero]
      congr 1
      apply List.map_congr_left
      intro j _
      simp only [Function.comp]; omega
    rw [e]
    simp only [runOps, runL]
    have hs : stepA P C call none ops k s = stepO P C call none ops o s := by rw [stepA_eq]; simp only [h0]; rfl
    rw [hs]
    congr 1; funext s'
    exact runL_eq call ops os (k + 1) s' fun i o' hi => by
      have := h (i + 1) o' (by simpa using hi)
      rwa [show k + 1 + i = k + (i + 1) by omega]

theorem ev_region (id : Nat) (ops : Array Oper) (s : St) : EvC P C (.region id ops false) s = (runL P C (Ev P C) ops ops.toList s).bind fun s' => some (.normal, s') := by
  rw [EvC_region]
  congr 1
  have := runL_eq (P := P) (C := C) (Ev P C) ops ops.toList 0 s (fun i o h => by simpa using h)
  rw [← this]
  congr 1
  simp

theorem runL_nil (call : CallF) (ops : Array Oper) (s : St) : runL P C call ops [] s = some s := rfl
theorem runL_cons (call : CallF) (ops : Array Oper) (o : Oper) (os : List Oper) (s : St) : runL P C call ops (o :: os) s = (stepO P C call none ops o s).bind fun s' => runL P C call ops os s' := rfl

/-- an operation without a guard -/
theorem stepO_none (call : CallF) (slot : Option Nat) (ops : Array Oper) (dst : Option Tmp) (op : Op) (ty : TypeId) (pos : String) (after : Array Edge) (tm : List AV) (H : AH) :
    stepO P C call slot ops ⟨dst, op, ty, pos, after, none⟩ (tm, H) = (aop P C slot (evalA tm) ⟨dst, op, ty, pos, after, none⟩ H).bind fun r => match r with
      | (.val v, H') => some (putA dst v tm, H')
      | (.skip, H') => some (putA dst undefA tm, H')
      | (.enter f args, H') => (call f args H').bind fun r => some (putA dst r.1 tm, r.2) := rfl

theorem stepO_guard (call : CallF) (slot : Option Nat) (ops : Array Oper) (dst : Option Tmp) (op : Op) (ty : TypeId) (pos : String) (after : Array Edge) (j : Nat) (b : Bool) (tm : List AV) (H : AH) :
    stepO P C call slot ops ⟨dst, op, ty, pos, after, some (j, b)⟩ (tm, H) = if yieldedA ops tm j == some b then (aop P C slot (evalA tm) ⟨dst, op, ty, pos, after, some (j, b)⟩ H).bind fun r => match r with
      | (.val v, H') => some (putA dst v tm, H')
      | (.skip, H') => some (putA dst undefA tm, H')
      | (.enter f args, H') => (call f args H').bind fun r => some (putA dst r.1 tm, r.2)
      else some (putA dst undefA tm, H) := rfl

/-! operations -/
section
variable (slot : Option Nat) (ev : Operand → Option AV) (dst : Option Tmp) (ty : TypeId) (pos : String) (after : Array Edge) (g : Option (Nat × Bool)) (H : AH)
theorem aop_move (x : Operand) : aop P C slot ev ⟨dst, .move x, ty, pos, after, g⟩ H = (ev x).map fun v => (.val v, H) := rfl
theorem aop_assign (x : Operand) : aop P C slot ev ⟨dst, .assign x, ty, pos, after, g⟩ H = (ev x).map fun v => (.val v, H) := rfl
theorem aop_load (t : TypeId) (a : Operand) : aop P C slot ev ⟨dst, .load t a, ty, pos, after, g⟩ H = (ev a).bind fun av => match av with
    | .ptr i k => (ldA P t H i k).map fun v => (.val v, H)
    | _ => none := rfl
theorem aop_store (t : TypeId) (a x : Operand) : aop P C slot ev ⟨dst, .store t a x, ty, pos, after, g⟩ H = (ev a).bind fun av => (ev x).bind fun xv => match av with
    | .ptr i k => (stA P t H i k xv).map fun H' => (.skip, H')
    | _ => none := rfl
theorem aop_alloc (e : TypeId) : aop P C slot ev ⟨dst, .alloc e, ty, pos, after, g⟩ H = (zeroA P e).bind fun z => (put slot H (.cells z.cells e)).map fun (i, H') => (.val (.ptr i 0), H') := rfl
theorem aop_box (e : TypeId) (x : Operand) : aop P C slot ev ⟨dst, .box e x, ty, pos, after, g⟩ H = (ev x).bind fun v => (put slot H (.cells v.cells e)).map fun (i, H') => (.val (.ptr i 0), H') := rfl
theorem aop_build (t : TypeId) (ps : Array (Nat × Operand)) : aop P C slot ev ⟨dst, .build t ps, ty, pos, after, g⟩ H = (evP ev ps.toList).bind fun qs => (buildA P t qs).map fun v => (.val v, H) := rfl
theorem aop_buildSlice (t : TypeId) (len : Nat) (ps : Array (Nat × Operand)) : aop P C slot ev ⟨dst, .buildSlice t len ps, ty, pos, after, g⟩ H = (evP ev ps.toList).bind fun qs => (buildSliceA P slot t len qs H).map fun (v, H') => (.val v, H') := rfl
theorem aop_nilCheck (x : Operand) : aop P C slot ev ⟨dst, .nilCheck x, ty, pos, after, g⟩ H = (ev x).bind fun v => (nilCheckA v).map fun v => (.val v, H) := rfl
theorem aop_makeSlice (t : TypeId) (l c : Operand) : aop P C slot ev ⟨dst, .makeSlice t l c, ty, pos, after, g⟩ H = (ev l).bind fun lv => (ev c).bind fun cv => (makeSliceA P slot t lv cv H).map fun (v, H') => (.val v, H') := rfl
theorem aop_fieldAddr (t : TypeId) (x : Operand) (f : Nat) : aop P C slot ev ⟨dst, .fieldAddr t x f, ty, pos, after, g⟩ H = (ev x).bind fun xv => (fieldAddrA P t xv f).map fun v => (.val v, H) := rfl
theorem aop_field (t : TypeId) (x : Operand) (f : Nat) : aop P C slot ev ⟨dst, .field t x f, ty, pos, after, g⟩ H = (ev x).bind fun xv => (fieldA P t xv f).map fun v => (.val v, H) := rfl
theorem aop_indexAddr (t : TypeId) (x i : Operand) : aop P C slot ev ⟨dst, .indexAddr t x i, ty, pos, after, g⟩ H = (ev x).bind fun xv => (ev i).bind fun iv => (indexAddrA P t xv iv).map fun v => (.val v, H) := rfl
theorem aop_lookup (t : TypeId) (m k : Operand) (ok : Bool) : aop P C slot ev ⟨dst, .lookup t m k ok, ty, pos, after, g⟩ H = (ev m).bind fun mv => (ev k).bind fun kv => (lookupA P t mv kv ok H).map fun v => (.val v, H) := rfl
theorem aop_mapUpdate (t : TypeId) (m k v : Operand) : aop P C slot ev ⟨dst, .mapUpdate t m k v, ty, pos, after, g⟩ H = (ev m).bind fun mv => (ev k).bind fun kv => (ev v).bind fun vv => (mapPutA P t mv kv vv H).map fun H' => (.skip, H') := rfl
theorem aop_makeMap (t : TypeId) : aop P C slot ev ⟨dst, .makeMap t none, ty, pos, after, g⟩ H = (put slot H (.map [] 0)).map fun (i, H') => (.val (.map i), H') := rfl
theorem aop_makeFunc (fn : Fn) (f c : Array Operand) : aop P C slot ev ⟨dst, .makeFunc fn f c, ty, pos, after, g⟩ H = (evL ev f.toList).bind fun f => (evL ev c.toList).map fun c => (.val (.func fn f c), H) := rfl
theorem aop_extract (t : Operand) (ix : Nat) : aop P C slot ev ⟨dst, .extract t ix, ty, pos, after, g⟩ H = (ev t).bind fun tv => match tv with
    | .tuple vs => (vs[ix]?).map fun v => (.val v, H)
    | _ => none := rfl
theorem aop_pick (c a b : Operand) : aop P C slot ev ⟨dst, .pick c a b, ty, pos, after, g⟩ H = (ev c).bind fun cv => match cv with
    | .bool true => (ev a).map fun v => (.val v, H)
    | .bool false => (ev b).map fun v => (.val v, H)
    | _ => none := rfl
theorem aop_slice (t : TypeId) (x : Operand) (lo hi mx : Option Operand) : aop P C slot ev ⟨dst, .slice t x lo hi mx, ty, pos, after, g⟩ H = (ev x).bind fun xv => (evO ev lo).bind fun l => (evO ev hi).bind fun h => (evO ev mx).bind fun m =>
    match sliceA P t H xv l h m with
    | some v => some (.val v, H)
    | none => (pureA P ev ⟨dst, .slice t x lo hi mx, ty, pos, after, g⟩).map fun n => (n, H) := rfl
theorem aop_binOp (op : BinOp) (t yt : TypeId) (x y : Operand) : aop P C slot ev ⟨dst, .binOp op t x y yt, ty, pos, after, g⟩ H = (ev x).bind fun xv => (ev y).bind fun yv =>
    match xv, yv with
    | .int k a, .int k' b => match (if k = k' then intBinA op k a b else none) with
      | some v => some (.val v, H)
      | none => (pureA P ev ⟨dst, .binOp op t x y yt, ty, pos, after, g⟩).map fun n => (n, H)
    | _, _ => match op, eqA P t H xv yv with
      | .eql, some r => some (.val (.bool r), H)
      | .neq, some r => some (.val (.bool (!r)), H)
      | _, _ => (pureA P ev ⟨dst, .binOp op t x y yt, ty, pos, after, g⟩).map fun n => (n, H) := rfl
theorem aop_call (c : Call) : aop P C slot ev ⟨dst, .call c, ty, pos, after, g⟩ H = callA P C slot ev ⟨dst, .call c, ty, pos, after, g⟩ c H := rfl
theorem callA_func (tm : List AV) (o : Oper) (f : Nat) (xs : Array Operand) (ats : Array TypeId) : callA P C slot (evalA tm) o ⟨.value (.func f), xs, ats⟩ H = (evL (evalA tm) xs.toList).bind fun as => (P.funcs[f]?).bind fun fn => if fn.body.isSome then some (.enter f ([] ++ as ++ []), H) else none := rfl
theorem callA_value (o : Oper) (f : Nat) (xs : Array Operand) (ats : Array TypeId) : callA P C slot ev o ⟨.value (.tmp f), xs, ats⟩ H = (ev (.tmp f)).bind fun fv => (evL ev xs.toList).bind fun as =>
    match fv with
    | .func (.func g) first cap => (P.funcs[g]?).bind fun fn => if fn.body.isSome then some (.enter g (first ++ as ++ cap), H) else none
    | _ => none := rfl
theorem callA_len (o : Oper) (x : Operand) (t : TypeId) : callA P C slot ev o ⟨.builtin .len, #[x], #[t]⟩ H = (ev x).bind fun v => (lenA P t H v).map fun v => (.val v, H) := by
  unfold callA; simp only [evL]; cases ev x <;> rfl
theorem callA_append (o : Oper) (x y : Operand) (t u : TypeId) : callA P C slot ev o ⟨.builtin .append, #[x, y], #[t, u]⟩ H = (ev x).bind fun s => (ev y).bind fun v => (appendA P slot t (some u) s v H).map fun (v, H') => (.val v, H') := by
  unfold callA; simp only [evL]; cases ev x with
  | none => rfl
  | some v => cases ev y <;> rfl
end

theorem ev_tmp (tm : List AV) (t : Tmp) : evalA tm (.tmp t) = some (tm.getD t undefA) := rfl
theorem ev_const (tm : List AV) (v : Value) : evalA tm (.const v) = ofV 6 v := rfl
theorem ofV_int (k : IntKind) (n : Int) : ofV 6 (.int k n) = some (.int k n) := rfl
theorem ofV_bool (b : Bool) : ofV 6 (.bool b) = some (.bool b) := rfl
theorem ofV_str (s : ByteArray) : ofV 6 (.string s) = some (.str s) := rfl
theorem ofV_nilSlice : ofV 6 (.slice none 0 0) = some .nilSlice := rfl
theorem ofV_nilPtr : ofV 6 (.pointer none) = some .nilPtr := rfl
theorem putA_some (d : Tmp) (v : AV) (tm : List AV) : putA (some d) v tm = tm.set d v := rfl
theorem putA_none (v : AV) (tm : List AV) : putA none v tm = tm := rfl
theorem put_none (H : AH) (o : AObj) : put none H o = some (H.length, H ++ [o]) := rfl

end
end Go.Dv
