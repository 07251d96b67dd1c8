/- Small equations for regions whose order is drawn (own work). -/
import Derived.Test.YtepcdjpenahnpaaDv20

namespace Go.Dv

/-- the part of a piece of code at a place: first parts and second parts -/
def atPath : List Bool → Code → Code
  | [], c => c
  | false :: p, .seq a _ => atPath p a
  | true :: p, .seq _ b => atPath p b
  | false :: p, .cond _ a _ => atPath p a
  | true :: p, .cond _ _ b => atPath p b
  | _ :: p, .block _ a => atPath p a
  | _ :: p, .loop a => atPath p a
  | _, c => c

/-- the operations of a region -/
def opsAt : Code → Array Oper
  | .region _ ops _ => ops
  | _ => #[]
def isDraw : Code → Bool
  | .region _ ops true => Region.noSelect ops && !(ops.any (allocates ·.op))
  | _ => false
def isDrawA : Code → Bool
  | .region _ ops true => Region.noSelect ops && ops.any (allocates ·.op)
  | _ => false

section
variable {P : Program} {C : Cfg P}

theorem ev_draw {c : Code} (h : isDraw c = true) {p : Plan} (hp : planOf (opsAt c) (opsAt c).size (Array.replicate (opsAt c).size false) = p) (tm : List AV) (H : AH) :
    EvC P C c (tm, H) = (runPlan P C (Ev P C) H.length (opsAt c) p (tm, H)).bind fun s' => some (.normal, s') := by
  unfold isDraw at h
  split at h
  · rename_i id ops
    simp only [Bool.and_eq_true, Bool.not_eq_true'] at h
    subst hp
    rw [EvC_draw, if_pos h.1]
    simp only [h.2]
    rfl
  · cases h

theorem ev_drawA {c : Code} (h : isDrawA c = true) {p : Plan} (hp : planOf (opsAt c) (opsAt c).size (Array.replicate (opsAt c).size false) = p) (tm : List AV) (H : AH) :
    EvC P C c (tm, H) = (runPlan P C (Ev P C) H.length (opsAt c) p (tm, H ++ List.replicate (opsAt c).size .fresh)).bind fun s' => some (.normal, s') := by
  unfold isDrawA at h
  split at h
  · rename_i id ops
    simp only [Bool.and_eq_true] at h
    subst hp
    rw [EvC_draw, if_pos h.1]
    simp only [h.2, if_true]
    rfl
  · cases h

theorem rp_done (call : CallF) (base : Nat) (ops : Array Oper) (s : St) : runPlan P C call base ops .done s = some s := by simp only [runPlan]
def quietO (P : Program) (ops : Array Oper) (o : Oper) (tm : List AV) : Option AV := if Region.wanted o (yieldedA ops tm) then quietA P (evalA tm) o else some undefA
theorem rp_take (call : CallF) (base : Nat) (ops : Array Oper) (i : Nat) (p : Plan) (tm : List AV) (H : AH) : runPlan P C call base ops (.take i p) (tm, H) = (ops[i]?).bind fun o => (quietO P ops o tm).bind fun v => runPlan P C call base ops p (putA o.dst v tm, H) := by
  simp only [runPlan]
  cases ops[i]? <;> rfl
theorem rp_all (call : CallF) (base : Nat) (ops : Array Oper) (l : List (Nat × Plan)) (s : St) : runPlan P C call base ops (.all l) s = runAll P C call base ops l s none := by simp only [runPlan]
theorem stepA_O (call : CallF) (slot : Option Nat) (ops : Array Oper) (i : Nat) (s : St) : stepA P C call slot ops i s = match ops[i]? with
    | none => some s
    | some o => stepO P C call slot ops o s := by
  rw [stepA_eq]
  cases ops[i]? <;> rfl
theorem ra_nil (call : CallF) (base : Nat) (ops : Array Oper) (s : St) (r : Option St) : runAll P C call base ops [] s r = r := by simp only [runAll]
theorem ra_first (call : CallF) (base : Nat) (ops : Array Oper) (i : Nat) (p : Plan) (l : List (Nat × Plan)) (s : St) : runAll P C call base ops ((i, p) :: l) s none = (match ops[i]? with
    | none => some s
    | some o => stepO P C call (some (base + i)) ops o s).bind fun s' => (runPlan P C call base ops p s').bind fun t => runAll P C call base ops l s (some t) := by
  simp only [runAll, stepA_O]
theorem ra_next (call : CallF) (base : Nat) (ops : Array Oper) (i : Nat) (p : Plan) (l : List (Nat × Plan)) (s t0 : St) : runAll P C call base ops ((i, p) :: l) s (some t0) = (match ops[i]? with
    | none => some s
    | some o => stepO P C call (some (base + i)) ops o s).bind fun s' => (runPlan P C call base ops p s').bind fun t => if stBeq t0 t = true then runAll P C call base ops l s (some t0) else none := by
  simp only [runAll, stepA_O]

theorem quietO_none (ops : Array Oper) (dst : Option Tmp) (op : Op) (ty : TypeId) (pos : String) (after : Array Edge) (tm : List AV) : quietO P ops ⟨dst, op, ty, pos, after, none⟩ tm = quietA P (evalA tm) ⟨dst, op, ty, pos, after, none⟩ := rfl
theorem quietO_guard (ops : Array Oper) (dst : Option Tmp) (op : Op) (ty : TypeId) (pos : String) (after : Array Edge) (j : Nat) (b : Bool) (tm : List AV) : quietO P ops ⟨dst, op, ty, pos, after, some (j, b)⟩ tm = if yieldedA ops tm j == some b then quietA P (evalA tm) ⟨dst, op, ty, pos, after, some (j, b)⟩ else some undefA := rfl

section
variable (ev : Operand → Option AV) (dst : Option Tmp) (ty : TypeId) (pos : String) (after : Array Edge) (g : Option (Nat × Bool))
theorem q_move (x : Operand) : quietA P ev ⟨dst, .move x, ty, pos, after, g⟩ = ev x := rfl
theorem q_assign (x : Operand) : quietA P ev ⟨dst, .assign x, ty, pos, after, g⟩ = ev x := rfl
theorem q_pick (c a b : Operand) : quietA P ev ⟨dst, .pick c a b, ty, pos, after, g⟩ = (ev c).bind fun cv => match cv with
    | .bool true => ev a
    | .bool false => ev b
    | _ => none := rfl
theorem q_binOp (op : BinOp) (t yt : TypeId) (x y : Operand) : quietA P ev ⟨dst, .binOp op t x y yt, ty, pos, after, g⟩ = (ev x).bind fun xv => (ev y).bind fun yv =>
    match xv, yv with
    | .int k a, .int k' b => match (if k = k' then intBinA op k a b else none) with
      | some v => some v
      | none => (pureA P ev ⟨dst, .binOp op t x y yt, ty, pos, after, g⟩).bind fun n => match n with | .val v => some v | _ => none
    | _, _ => match op, eqVG P t xv yv with
      | .eql, some r => some (.bool r)
      | .neq, some r => some (.bool (!r))
      | _, _ => (pureA P ev ⟨dst, .binOp op t x y yt, ty, pos, after, g⟩).bind fun n => match n with | .val v => some v | _ => none := rfl
theorem q_field (t : TypeId) (x : Operand) (f : Nat) : quietA P ev ⟨dst, .field t x f, ty, pos, after, g⟩ = (ev x).bind fun xv => fieldA P t xv f := rfl
theorem q_fieldAddr (t : TypeId) (x : Operand) (f : Nat) : quietA P ev ⟨dst, .fieldAddr t x f, ty, pos, after, g⟩ = (ev x).bind fun xv => fieldAddrA P t xv f := rfl
theorem q_indexAddr (t : TypeId) (x i : Operand) : quietA P ev ⟨dst, .indexAddr t x i, ty, pos, after, g⟩ = (ev x).bind fun xv => (ev i).bind fun iv => indexAddrA P t xv iv := rfl
theorem q_nilCheck (x : Operand) : quietA P ev ⟨dst, .nilCheck x, ty, pos, after, g⟩ = (ev x).bind nilCheckA := rfl
end

/-- slots in order -/
theorem set_sort {l : List AV} {i j : Nat} {a b : AV} (h : j < i) : (l.set i a).set j b = (l.set j b).set i a := List.set_comm _ _ (by omega)

end
end Go.Dv
