/- Lemmas for reckoning: slots, rows of numbers, operations on numbers and strings (own work). -/
import Derived.Test.YtepcdjpenahnpaaDv17

namespace Go.Dv
set_option linter.unusedSimpArgs false
set_option linter.unusedVariables false

theorem gs_self (tm : List AV) (i : Nat) (v d : AV) (h : i < tm.length) : (tm.set i v).getD i d = v := by simp [List.getD, h]
theorem gs_ne (tm : List AV) (i j : Nat) (v d : AV) (h : i ≠ j) : (tm.set i v).getD j d = tm.getD j d := by simp [List.getD, List.getElem?_set_ne h]

abbrev I (n : Int) : AV := .int .i64 n

theorem rd_len {H : AH} {i k n : Nat} {xs : List AV} (h : rdCells H i k n = some xs) : xs.length = n := by
  unfold rdCells at h
  split at h
  · split at h
    · cases h; simp; omega
    · cases h
  · split at h
    · cases h; simp; omega
    · cases h
  · cases h

theorem rd_sub {H : AH} {i k n : Nat} {xs : List AV} (h : rdCells H i k n = some xs) (j m : Nat) (hj : j + m ≤ n) : rdCells H i (k + j) m = some ((xs.drop j).take m) := by
  have key : ∀ cs : List AV, k + n ≤ cs.length → (if k + j + m ≤ cs.length then some ((cs.drop (k + j)).take m) else none) = some ((((cs.drop k).take n).drop j).take m) := fun cs hc => by
    rw [if_pos (by omega)]
    congr 1
    rw [List.drop_take, List.take_take, List.drop_drop, Nat.min_eq_left (by omega)]
  unfold rdCells at h ⊢
  split at h
  · rename_i cs e hi
    split at h
    · rename_i hc; cases h; exact key cs hc
    · cases h
  · rename_i cs hi
    split at h
    · rename_i hc; cases h; exact key cs hc
    · cases h
  · cases h

/-- What lay there lies there. -/
def Keeps (H H' : AH) : Prop := H.length ≤ H'.length ∧ ∀ i, i < H.length → H'[i]? = H[i]?
theorem Keeps.refl (H : AH) : Keeps H H := ⟨Nat.le_refl _, fun _ _ => rfl⟩
theorem Keeps.trans {H H' H'' : AH} (h : Keeps H H') (k : Keeps H' H'') : Keeps H H'' := ⟨Nat.le_trans h.1 k.1, fun i hi => (k.2 i (Nat.lt_of_lt_of_le hi h.1)).trans (h.2 i hi)⟩
theorem Keeps.append (H G : AH) : Keeps H (H ++ G) := ⟨by simp, fun i hi => List.getElem?_append_left hi⟩
theorem Keeps.set {H H' : AH} (h : Keeps H H') {i : Nat} (hi : H.length ≤ i) (o : AObj) : Keeps H (H'.set i o) := ⟨by simpa using h.1, fun j hj => by rw [List.getElem?_set_ne (by omega)]; exact h.2 j hj⟩
theorem rd_lt {H : AH} {i k n : Nat} {xs : List AV} (h : rdCells H i k n = some xs) : i < H.length := by
  unfold rdCells at h
  split at h
  · exact lt_of_get ‹_›
  · exact lt_of_get ‹_›
  · cases h
theorem Keeps.rd {H H' : AH} (h : Keeps H H') {i k n : Nat} {xs : List AV} (hr : rdCells H i k n = some xs) : rdCells H' i k n = some xs := by
  have hi := rd_lt hr
  unfold rdCells at hr ⊢
  rw [h.2 i hi]; exact hr

/-- A slice that reads as a list of cells, es an element. -/
inductive Row (H : AH) (es : Nat) : AV → List AV → Prop where
  | nil : Row H es .nilSlice []
  | at (i k len cap : Nat) (ex : Bool) (xs : List AV) (h : rdCells H i k (len * es) = some xs) : Row H es (.slice i k es len cap ex) xs

theorem Row.keeps {H H' : AH} {es : Nat} {v : AV} {xs : List AV} (h : Row H es v xs) (k : Keeps H H') : Row H' es v xs := by
  cases h with
  | nil => exact .nil
  | «at» i k' len cap ex xs h => exact .at i k' len cap ex xs (k.rd h)

section
variable {P : Program}
theorem pureA_index {t : TypeId} (ht : P.underlying t = some .string) {ev : Operand → Option AV} {x i : Operand} {s : ByteArray} {k : IntKind} {j : Nat} (hx : ev x = some (.str s)) (hi : ev i = some (.int k j)) (hj : j < s.size)
    (dst : Option Tmp) (ty : TypeId) (pos : String) (after : Array Edge) (g : Option (Nat × Bool)) : pureA P ev ⟨dst, .index t x i, ty, pos, after, g⟩ = some (.val (.int .u8 (s[j]'hj).toNat)) := by
  have hg : s[j]? = some (s[j]'hj) := getElem?_pos s j hj
  simp [pureA, notSelect, Op.operands, hx, hi, toV, execOp, rhoOf, pureRun, Instr.index, asIntOf, underlying, program, ht, ofV_int, bind, Sem.bind, pure, hg]
theorem pureA_convert {t u : TypeId} {k' : IntKind} {dt : TypeDesc} (ht : P.underlying t = some dt) (hu : P.underlying u = some (.int k')) {ev : Operand → Option AV} {x : Operand} {k : IntKind} {n : Int} (hx : ev x = some (.int k n))
    (dst : Option Tmp) (ty : TypeId) (pos : String) (after : Array Edge) (g : Option (Nat × Bool)) : pureA P ev ⟨dst, .convert t u x, ty, pos, after, g⟩ = some (.val (.int k' (k'.wrap n))) := by
  simp [pureA, notSelect, Op.operands, hx, toV, execOp, rhoOf, pureRun, convert, underlying, program, ht, hu, ofV_int, bind, Sem.bind, pure, Conv.intToInt]
theorem pureA_not {ev : Operand → Option AV} {t : TypeId} {x : Operand} {b : Bool} (hx : ev x = some (.bool b))
    (dst : Option Tmp) (ty : TypeId) (pos : String) (after : Array Edge) (g : Option (Nat × Bool)) : pureA P ev ⟨dst, .unOp .not t x, ty, pos, after, g⟩ = some (.val (.bool !b)) := by
  simp [pureA, notSelect, Op.operands, hx, toV, execOp, rhoOf, pureRun, Op.unary, ofV_bool, bind, Sem.bind, pure]
end

theorem aop_index {P : Program} {C : Cfg P} (slot : Option Nat) (ev : Operand → Option AV) (dst : Option Tmp) (ty : TypeId) (pos : String) (after : Array Edge) (g : Option (Nat × Bool)) (H : AH) (t : TypeId) (x i : Operand) :
    aop P C slot ev ⟨dst, .index t x i, ty, pos, after, g⟩ H = (pureA P ev ⟨dst, .index t x i, ty, pos, after, g⟩).map fun n => (n, H) := rfl
theorem aop_convert {P : Program} {C : Cfg P} (slot : Option Nat) (ev : Operand → Option AV) (dst : Option Tmp) (ty : TypeId) (pos : String) (after : Array Edge) (g : Option (Nat × Bool)) (H : AH) (t u : TypeId) (x : Operand) :
    aop P C slot ev ⟨dst, .convert t u x, ty, pos, after, g⟩ H = (pureA P ev ⟨dst, .convert t u x, ty, pos, after, g⟩).map fun n => (n, H) := rfl
theorem aop_unOp {P : Program} {C : Cfg P} (slot : Option Nat) (ev : Operand → Option AV) (dst : Option Tmp) (ty : TypeId) (pos : String) (after : Array Edge) (g : Option (Nat × Bool)) (H : AH) (op : UnOp) (t : TypeId) (x : Operand) :
    aop P C slot ev ⟨dst, .unOp op t x, ty, pos, after, g⟩ H = (pureA P ev ⟨dst, .unOp op t x, ty, pos, after, g⟩).map fun n => (n, H) := rfl

def byteAt (s : ByteArray) (j : Int) : Int := ((s.data.toList.getD j.toNat 0).toNat : Int)

theorem pureA_none1 {P : Program} {ev : Operand → Option AV} {o : Oper} {x : Operand} (hx : x ∈ o.op.operands) (hn : ev x = none) : pureA P ev o = none := by
  unfold pureA
  rw [if_neg]
  simp only [Bool.and_eq_true, List.all_eq_true, not_and]
  intro _ h
  have := h x (by simpa using hx)
  rw [hn] at this; cases this

theorem aop_index_str {P : Program} {C : Cfg P} {t : TypeId} (ht : P.underlying t = some .string) (slot : Option Nat) (ev : Operand → Option AV) (dst : Option Tmp) (ty : TypeId) (pos : String) (after : Array Edge) (g : Option (Nat × Bool)) (H : AH) (x i : Operand) :
    aop P C slot ev ⟨dst, .index t x i, ty, pos, after, g⟩ H = (ev x).bind fun xv => (ev i).bind fun iv => match xv, iv with
      | .str s, .int k j => if 0 ≤ j ∧ j < s.size then some (.val (.int .u8 (byteAt s j)), H) else (pureA P ev ⟨dst, .index t x i, ty, pos, after, g⟩).map fun n => (n, H)
      | _, _ => (pureA P ev ⟨dst, .index t x i, ty, pos, after, g⟩).map fun n => (n, H) := by
  rw [aop_index]
  cases hx : ev x with
  | none => rw [pureA_none1 (x := x) (by simp [Op.operands]) hx]; rfl
  | some xv => cases hi : ev i with
    | none => rw [pureA_none1 (x := i) (by simp [Op.operands]) hi]; rfl
    | some iv =>
      simp only [Option.bind_some]
      split
      · rename_i s k j
        split
        · rename_i hj
          have hj' : j.toNat < s.size := by omega
          have e : j = (j.toNat : Int) := by omega
          rw [e] at hi
          rw [pureA_index ht hx hi hj']
          have hb : byteAt s j = (s[j.toNat]'hj').toNat := by
            unfold byteAt
            congr 2
            have : s.data.toList[j.toNat]? = some (s[j.toNat]'hj') := by
              rw [Array.getElem?_toList]; exact Array.getElem?_eq_getElem hj'
            simp [List.getD, this]
          rw [hb]; rfl
        · rfl
      · rfl

theorem aop_conv {P : Program} {C : Cfg P} {t u : TypeId} {dt : TypeDesc} {k' : IntKind} (ht : P.underlying t = some dt) (hu : P.underlying u = some (.int k')) (slot : Option Nat) (ev : Operand → Option AV) (dst : Option Tmp) (ty : TypeId) (pos : String) (after : Array Edge) (g : Option (Nat × Bool)) (H : AH) (x : Operand) :
    aop P C slot ev ⟨dst, .convert t u x, ty, pos, after, g⟩ H = (ev x).bind fun xv => match xv with
      | .int _ n => some (.val (.int k' (k'.wrap n)), H)
      | _ => (pureA P ev ⟨dst, .convert t u x, ty, pos, after, g⟩).map fun n => (n, H) := by
  rw [aop_convert]
  cases hx : ev x with
  | none => rw [pureA_none1 (x := x) (by simp [Op.operands]) hx]; rfl
  | some xv =>
    simp only [Option.bind_some]
    split
    · rw [pureA_convert ht hu hx]; rfl
    · rfl

theorem aop_not {P : Program} {C : Cfg P} (slot : Option Nat) (ev : Operand → Option AV) (dst : Option Tmp) (ty : TypeId) (pos : String) (after : Array Edge) (g : Option (Nat × Bool)) (H : AH) (t : TypeId) (x : Operand) :
    aop P C slot ev ⟨dst, .unOp .not t x, ty, pos, after, g⟩ H = (ev x).bind fun xv => match xv with
      | .bool b => some (.val (.bool !b), H)
      | _ => (pureA P ev ⟨dst, .unOp .not t x, ty, pos, after, g⟩).map fun n => (n, H) := by
  rw [aop_unOp]
  cases hx : ev x with
  | none => rw [pureA_none1 (x := x) (by simp [Op.operands]) hx]; rfl
  | some xv =>
    simp only [Option.bind_some]
    split
    · rw [pureA_not hx]; rfl
    · rfl

/-- of a chain of steps only the first is looked into -/
theorem bind_congr_first {α β : Type} {x y : Option α} (f : α → Option β) (h : x = y) : x.bind f = y.bind f := by rw [h]

end Go.Dv
