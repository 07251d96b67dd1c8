/- Rows of the call's own that grow; the start: a world as an abstract heap (own work). -/
import Derived.Test.YtepcdjpenahnpaaDv18

namespace Go.Dv

section
variable {P : Program} {C : Cfg P}

theorem callF {f : Nat} (h : (P.funcs[f]?).map (fun fn => fn.body.isSome) = some true) (slot : Option Nat) (ev : Operand → Option AV) (H : AH) (o : Oper) (xs : Array Operand) (ats : Array TypeId)
    (he : ev (.func f) = some (.func (.func f) [] [])) : callA P C slot ev o ⟨.value (.func f), xs, ats⟩ H = (evL ev xs.toList).map fun as => (.enter f as, H) := by
  simp only [callA, he, Option.bind_some]
  cases hf : P.funcs[f]? with
  | none => rw [hf] at h; cases h
  | some fn =>
    rw [hf] at h
    simp only [Option.map_some, Option.some.injEq] at h
    cases evL ev xs.toList with
    | none => rfl
    | some as => simp [h]

/-- A slice of the call's own: its block is numbered b or more. -/
inductive Own (b : Nat) (H : AH) (es : Nat) (elem : TypeId) : AV → List AV → Prop where
  | nil : Own b H es elem .nilSlice []
  | at (i k len cap : Nat) (ex : Bool) (cs xs : List AV) (hb : b ≤ i) (hi : H[i]? = some (.cells cs elem)) (hl : len ≤ cap) (hc : k + cap * es ≤ cs.length) (h : rdCells H i k (len * es) = some xs) :
      Own b H es elem (.slice i k es len cap ex) xs

theorem Own.row {b : Nat} {H : AH} {es : Nat} {elem : TypeId} {v : AV} {xs : List AV} (h : Own b H es elem v xs) : Row H es v xs := by
  cases h with
  | nil => exact .nil
  | «at» i k len cap ex cs xs hb hi hl hc h => exact .at i k len cap ex xs h

def lenOfA : AV → Nat
  | .slice _ _ _ len _ _ => len
  | _ => 0

theorem lenOfA_slice (i k es len cap : Nat) (ex : Bool) : lenOfA (.slice i k es len cap ex) = len := rfl
theorem lenOfA_nil : lenOfA .nilSlice = 0 := rfl

theorem Own.length {b : Nat} {H : AH} {es : Nat} {elem : TypeId} {v : AV} {xs : List AV} (h : Own b H es elem v xs) : xs.length = lenOfA v * es := by
  cases h with
  | nil => simp [lenOfA]
  | «at» i k len cap ex cs xs hb hi hl hc h => exact rd_len h

/-- other rows stand -/
theorem Own.other {b : Nat} {H H' : AH} {es : Nat} {elem : TypeId} {v : AV} {xs : List AV} (h : Own b H es elem v xs) (hk : ∀ i k es len cap ex, v = .slice i k es len cap ex → H'[i]? = H[i]?) : Own b H' es elem v xs := by
  cases h with
  | nil => exact .nil
  | «at» i k len cap ex cs xs hb hi hl hc h =>
    have e := hk i k es len cap ex rfl
    exact .at i k len cap ex cs xs hb (e.trans hi) hl hc (by unfold rdCells at h ⊢; rw [e]; exact h)

theorem spl_append (cs : List AV) : ∀ (vs : List AV) (k : Nat), k + vs.length ≤ cs.length → spl cs k vs = cs.take k ++ vs ++ cs.drop (k + vs.length) := by
  intro vs
  induction vs generalizing cs with
  | nil => intro k h; simp [spl]
  | cons v vs ih =>
    intro k h
    simp only [List.length_cons] at h
    rw [spl, ih (cs.set k v) (k + 1) (by simp; omega)]
    have hk : k < cs.length := by omega
    have e1 : (cs.set k v).take (k + 1) = cs.take k ++ [v] := by
      rw [List.set_eq_take_append_cons_drop, if_pos hk, List.take_append, List.length_take, Nat.min_eq_left (Nat.le_of_lt hk), List.take_of_length_le (by simp; omega), show k + 1 - k = 1 by omega]
      rfl
    have e2 : (cs.set k v).drop (k + 1 + vs.length) = cs.drop (k + 1 + vs.length) := List.drop_set_of_lt (by omega)
    rw [e1, e2, List.length_cons, show k + (vs.length + 1) = k + 1 + vs.length by omega]
    simp

/-- What an append asks of the types. -/
structure AppT (P : Program) (sT : TypeId) (xT : Option TypeId) (elem : TypeId) (es : Nat) : Prop where
  el : sliceElem P sT = some elem
  z : ∃ z, zeroA P elem = some z ∧ z.cells.length = P.cellsOf elem ∧ z.cells ≠ []
  sz : P.cellsOf elem = es
  x : zerosA P xT = false

theorem append_own {sT elem : TypeId} {xT : Option TypeId} {es : Nat} (T : AppT P sT xT elem es) {b : Nat} {H : AH} {s : AV} {xs : List AV} (hs : Own b H es elem s xs) (hb : b ≤ H.length) {x : AV} {new : List AV} (hx : Row H es x new)
    (hone : new.all AV.one = true) (hg : growOk (P.bytesOf elem) (lenOfA s + lenOfA x) = true) :
    ∃ v H', appendA P none sT xT s x H = some (v, H') ∧ Own b H' es elem v (xs ++ new) ∧ lenOfA v = lenOfA s + lenOfA x ∧ H.length ≤ H'.length ∧ (∀ j, j < H.length → (∀ i k len cap ex, s = .slice i k es len cap ex → j ≠ i) → H'[j]? = H[j]?) := by
  obtain ⟨z, hz, hzl, hzn⟩ := T.z
  have hsrc : ∃ f, srcA H es x = some (lenOfA x, f) ∧ f (lenOfA x) = some new := by
    cases hx with
    | nil => exact ⟨_, rfl, rfl⟩
    | «at» i k len cap ex xs h => exact ⟨fun n => if n ≤ len then rdCells H i k (n * es) else none, by simp [srcA, lenOfA], by simpa [lenOfA] using h⟩
  obtain ⟨f, hf, hfn⟩ := hsrc
  have hnl : new.length = lenOfA x * es := by
    cases hx with
    | nil => simp [lenOfA]
    | «at» i k len cap ex xs h => exact rd_len h
  generalize lenOfA x = n at *
  unfold appendA
  rw [if_neg (by rw [T.x]; simp), T.el, Option.bind_some, hz, Option.bind_some, T.sz, hf, Option.bind_some]
  simp only [hfn, Option.bind_some]
  rw [if_pos ⟨by rw [hzl, T.sz], hzn⟩]
  cases hs with
  | nil =>
    simp only
    split
    · rename_i h0
      have hn : new = [] := List.length_eq_zero_iff.1 (by rw [hnl, h0, Nat.zero_mul])
      subst hn
      exact ⟨_, _, rfl, .nil, by simp [lenOfA_nil, h0], Nat.le_refl _, fun _ _ _ => rfl⟩
    · simp only [lenOfA_nil, Nat.zero_add] at hg
      rw [if_pos hg]
      refine ⟨_, _, rfl, .at H.length 0 (n) (n) false new ([] ++ new) hb (by simp) (Nat.le_refl _) (by rw [hnl]; omega) ?_, by simp [lenOfA], by simp, fun j hj _ => List.getElem?_append_left hj⟩
      simp only [rdCells]
      rw [show (H ++ [AObj.cells new elem])[H.length]? = some (.cells new elem) by simp]
      simp only [List.nil_append]
      rw [if_pos (by omega), List.drop_zero, List.take_of_length_le (by omega)]
  | «at» i k len cap ex cs xs hbi hi hl hc h =>
    simp only [lenOfA_slice] at hg ⊢
    rw [if_pos trivial]
    split
    · rename_i h0
      have hn : new = [] := List.length_eq_zero_iff.1 (by rw [hnl, h0, Nat.zero_mul])
      subst hn
      exact ⟨_, _, rfl, by simpa using Own.at i k len cap ex cs xs hbi hi hl hc h, (by simp only [lenOfA_slice]; omega), Nat.le_refl _, fun _ _ _ => rfl⟩
    · rename_i hn0
      have hold : xs = (cs.drop k).take (len * es) ∧ k + len * es ≤ cs.length := by
        simp only [rdCells, hi] at h
        split at h
        · rename_i hle; cases h; exact ⟨rfl, hle⟩
        · cases h
      split
      · rename_i hroom
        try rw [if_pos hone]
        have hmul : (len + n) * es ≤ cap * es := Nat.mul_le_mul_right _ hroom
        have hadd : (len + n) * es = len * es + n * es := Nat.add_mul _ _ _
        have hfit : k + len * es + new.length ≤ cs.length := by rw [hnl]; omega
        have hwr : wrCells H i (k + len * es) new = some (H.set i (.cells (spl cs (k + len * es) new) elem)) := by
          simp only [wrCells, hi]; rw [if_pos ⟨hfit, hone⟩]
        rw [hwr]
        have hil := lt_of_get hi
        refine ⟨_, _, rfl, .at i k (len + n) cap ex (spl cs (k + len * es) new) (xs ++ new) hbi (by simp [hil]) hroom (by rw [spl_length]; exact hc) ?_, rfl, by simp, fun j hj hne => ?_⟩
        · simp only [rdCells]
          rw [show (H.set i (.cells (spl cs (k + len * es) new) elem))[i]? = some (.cells (spl cs (k + len * es) new) elem) by simp [hil]]
          simp only
          rw [if_pos (by rw [spl_length]; omega), spl_append cs new _ hfit, hold.1]
          congr 1
          rw [List.append_assoc, List.drop_append_of_le_length (by simp; omega), List.drop_take]
          have e : k + len * es - k = len * es := by omega
          rw [e, ← List.append_assoc, List.take_append_of_le_length (by simp [hnl]; omega)]
          apply List.take_of_length_le
          simp [hnl]; omega
        · rw [List.getElem?_set_ne (fun e => hne i k len cap ex rfl e.symm)]
      · rename_i hroom
        have hgrown : ∀ H1 : AH, H1.length = H.length → ∃ v H', ((rdCells H i k (len * es)).bind fun old => (put none H1 (.cells (old ++ new) elem)).map fun (j, H') => (AV.slice j 0 es (len + n) (len + n) false, H')) = some (v, H') ∧
            Own b H' es elem v (xs ++ new) ∧ lenOfA v = len + n ∧ H' = H1 ++ [.cells (xs ++ new) elem] := by
          intro H1 hl1
          rw [h]
          refine ⟨_, _, rfl, .at H1.length 0 (len + n) (len + n) false (xs ++ new) (xs ++ new) (by omega) (by simp) (Nat.le_refl _) ?_ ?_, rfl, rfl⟩
          · rw [List.length_append, rd_len h, hnl, Nat.add_mul]; omega
          · have hlen : (xs ++ new).length = (len + n) * es := by rw [List.length_append, rd_len h, hnl, Nat.add_mul]
            simp only [rdCells]
            rw [show (H1 ++ [AObj.cells (xs ++ new) elem])[H1.length]? = some (.cells (xs ++ new) elem) by simp]
            simp only
            rw [if_pos (by omega), List.drop_zero, List.take_of_length_le (by omega)]
        split
        · try rw [if_pos hg]
          obtain ⟨v, H', e, ho, hlv, rfl⟩ := hgrown H rfl
          exact ⟨v, _, e, ho, hlv, by simp, fun j hj _ => List.getElem?_append_left hj⟩
        · rw [hi]
          simp only
          rw [if_pos ⟨trivial, hone, hg⟩]
          obtain ⟨v, H', e, ho, hlv, rfl⟩ := hgrown (H.set i .dead) (by simp)
          refine ⟨v, _, e, ho, hlv, by simp, fun j hj hne => ?_⟩
          rw [List.getElem?_append_left (by simpa using hj), List.getElem?_set_ne (fun e => hne i k len cap ex rfl e.symm)]

/-! the heap as what stood there and what was made since -/
theorem put_app (H L : AH) (o : AObj) : put none (H ++ L) o = some (H.length + L.length, H ++ (L ++ [o])) := by simp [put]
theorem rd_app (H L : AH) (n k m : Nat) : rdCells (H ++ L) (H.length + n) k m = rdCells L n k m := by
  unfold rdCells
  rw [List.getElem?_append_right (by omega), Nat.add_sub_cancel_left]
theorem rd_app0 (H L : AH) (k m : Nat) : rdCells (H ++ L) H.length k m = rdCells L 0 k m := rd_app H L 0 k m
theorem wr_app (H L : AH) (n k : Nat) (xs : List AV) : wrCells (H ++ L) (H.length + n) k xs = (wrCells L n k xs).map (H ++ ·) := by
  unfold wrCells
  rw [List.getElem?_append_right (by omega), Nat.add_sub_cancel_left]
  cases L[n]? with
  | none => rfl
  | some o => cases o with
    | cells cs e =>
      simp only
      split
      · rw [List.set_append_right _ _ (by omega), Nat.add_sub_cancel_left]; rfl
      · rfl
    | _ => rfl
theorem wr_app0 (H L : AH) (k : Nat) (xs : List AV) : wrCells (H ++ L) H.length k xs = (wrCells L 0 k xs).map (H ++ ·) := wr_app H L 0 k xs
theorem b_ft : (false == true) = false := rfl
theorem b_tf : (true == false) = false := rfl
def boolOf : AV → Option Bool
  | .bool b => some b
  | _ => none
theorem boolOf_bool (b : Bool) : boolOf (.bool b) = some b := rfl
def yv (d : Option Tmp) (tm : List AV) : Option Bool := (d.bind (tm[·]?)).bind boolOf
theorem yielded_eq (ops : Array Oper) (tm : List AV) (j : Nat) : yieldedA ops tm j = yv ((ops[j]?).bind (·.dst)) tm := by
  unfold yieldedA yv
  cases ((ops[j]?).bind (·.dst)).bind (tm[·]?) with
  | none => rfl
  | some v => cases v <;> rfl
theorem yv_some (d : Tmp) (tm : List AV) (h : d < tm.length) : yv (some d) tm = boolOf (tm.getD d undefA) := by
  simp [yv, List.getD, h]
theorem rdL_here (cs : List AV) (e : TypeId) (L : AH) (k m : Nat) : rdCells (.cells cs e :: L) 0 k m = if k + m ≤ cs.length then some ((cs.drop k).take m) else none := rfl
theorem rdL_next (o : AObj) (L : AH) (n k m : Nat) : rdCells (o :: L) (n + 1) k m = rdCells L n k m := rfl
theorem wrL_here (cs : List AV) (e : TypeId) (L : AH) (k : Nat) (xs : List AV) : wrCells (.cells cs e :: L) 0 k xs = if k + xs.length ≤ cs.length ∧ xs.all AV.one = true then some (.cells (spl cs k xs) e :: L) else none := rfl
theorem wrL_next (o : AObj) (L : AH) (n k : Nat) (xs : List AV) : wrCells (o :: L) (n + 1) k xs = (wrCells L n k xs).map (o :: ·) := by
  unfold wrCells
  rw [List.getElem?_cons_succ]
  cases L[n]? with
  | none => rfl
  | some q => cases q with
    | cells cs e => simp only; split <;> rfl
    | _ => rfl
theorem rd_old {H : AH} {i k n : Nat} {xs : List AV} (h : rdCells H i k n = some xs) (L : AH) : rdCells (H ++ L) i k n = some xs := (Keeps.append H L).rd h

end
end Go.Dv
