/- make, append, copy, len on abstract states, held against the model's own (own work). -/
import Derived.Test.YtgnmeplfmkbkcaaGreatDoorDv7
import Derived.IntWalk

namespace Go.Dv

/-- The cells of what is appended or copied, and how many elements they are. -/
def srcA (H : AH) (size : Nat) : AV → Option (Nat × (Nat → Option (List AV)))
  | .slice i k es len _ _ => if es = size then some (len, fun n => if n ≤ len then rdCells H i k (n * size) else none) else none
  | .nilSlice => some (0, fun _ => some [])
  | .str s => if size = 1 then some (s.size, fun n => some ((s.extract 0 n).data.toList.map fun b => .int .u8 b.toNat)) else none
  | _ => none

def growOk (bytes need : Nat) : Bool := (2 * need + 400) * bytes ≤ 2 ^ 48 && need < 2 ^ 62

def zerosA (P : Program) (xT : Option TypeId) : Bool :=
  match xT with | some t => (match P.underlying t with | some (.int _) => true | some _ => false | none => true) | none => false

def appendA (P : Program) (slot : Option Nat) (sT : TypeId) (xT : Option TypeId) (s x : AV) (H : AH) : Option (AV × AH) :=
  if zerosA P xT = true then none else
  (sliceElem P sT).bind fun elem => (zeroA P elem).bind fun z => (srcA H (P.cellsOf elem) x).bind fun (n, f) => (f n).bind fun new =>
    if z.cells.length = P.cellsOf elem ∧ z.cells ≠ [] then
      match s with
      | .nilSlice => if n = 0 then some (.nilSlice, H) else
        if growOk (P.bytesOf elem) n = true then (put slot H (.cells new elem)).map fun (i, H') => (.slice i 0 (P.cellsOf elem) n n false, H') else none
      | .slice i k es len cap ex =>
        if es = P.cellsOf elem then
          if n = 0 then some (.slice i k es len cap ex, H) else
          if len + n ≤ cap then
            if new.all AV.one = true then (wrCells H i (k + len * es) new).map fun H' => (.slice i k es (len + n) cap ex, H') else none
          else if ex = true then
            if growOk (P.bytesOf elem) (len + n) = true then
              (rdCells H i k (len * es)).bind fun old => (put slot H (.cells (old ++ new) elem)).map fun (j, H') => (.slice j 0 es (len + n) (len + n) false, H')
            else none
          else
            match H[i]? with
            | some (.cells _ e0) =>
              if e0 = elem ∧ new.all AV.one = true ∧ growOk (P.bytesOf elem) (len + n) = true then
                (rdCells H i k (len * es)).bind fun old => (put slot (H.set i .dead) (.cells (old ++ new) elem)).map fun (j, H') => (.slice j 0 es (len + n) (len + n) false, H')
              else none
            | _ => none
        else none
      | _ => none
    else none

def copyA (P : Program) (dT : TypeId) (d s : AV) (H : AH) : Option (AV × AH) :=
  (sliceElem P dT).bind fun elem => (P.info? elem).bind fun _ => (srcA H (P.cellsOf elem) s).bind fun (m, f) =>
    match d with
    | .nilSlice => some (.int .i64 0, H)
    | .slice i k es len _ _ => if es = P.cellsOf elem then
        (f (Nat.min m len)).bind fun cs => if Nat.min m len = 0 then some (.int .i64 0, H) else (wrCells H i k cs).map fun H' => (.int .i64 (Nat.min m len), H')
      else none
    | _ => none

section
variable {P : Program} {w0 : World} {Pr : Nat → Prop} {φ : Env} {H : AH} {w : World}

theorem makeSliceA_spec (hW : WR w0 Pr φ H w) {slot : Option Nat} {t : TypeId} {l c v : AV} {ul uc : Value} {H' : AH} (rl : VR φ l ul) (rc : VR φ c uc)
    (h : makeSliceA P slot t l c H = some (v, H')) :
    ∃ φ' w' y, φ.le φ' ∧ WR w0 Pr φ' H' w' ∧ (Instr.makeSlice t ul uc).run P w = .ok y w' ∧ VR φ' v y := by
  unfold makeSliceA at h
  split at h
  · rename_i kl l kc c
    simp only [Option.bind_eq_some_iff] at h
    obtain ⟨elem, hel, z, hz, h⟩ := h
    split at h
    · rename_i hc
      obtain ⟨h0, hlc, hc62, hb, hne⟩ := hc
      simp only [Option.map_eq_some_iff] at h
      obtain ⟨⟨i, H1⟩, hp, hv⟩ := h
      cases hv
      simp only [VR] at rl rc
      subst rl; subst rc
      obtain ⟨ti, zv, hti, hzv, rz⟩ := zeroA_spec hz φ
      have hu := sliceElem_spec hel
      have hbytes : P.bytesOf elem = ti.bytes := by simp [Program.bytesOf, hti]
      rw [hbytes] at hb
      have e1 : IntKind.i64.wrap l = l := IntWalk.i64_in l (by omega)
      have e2 : IntKind.i64.wrap c = c := IntWalk.i64_in c (by omega)
      have key : ∀ arr : Array Value, VRs φ (zrow z.cells (c.toNat * P.cellsOf elem)) arr.toList → ∃ φ' w' y, φ.le φ' ∧ WR w0 Pr φ' H1 w' ∧
          ((do let a ← newRow elem arr; pure (.slice (some a) l.toNat c.toNat)) : Sem Value).run P w = .ok y w' ∧ VR φ' (.slice i 0 (P.cellsOf elem) l.toNat c.toNat true) y := by
        intro arr ra
        obtain ⟨φ', w', hle, hW', hrun, hφ'⟩ := new_spec (P := P) hW hp ra
        refine ⟨φ', w', _, hle, hW', ?_, _, c.toNat, rfl, by omega, ⟨Nat.le_refl _, fun _ => rfl⟩, .inr ⟨w.heap.size, 0, arr.size, hφ', rfl, ?_⟩⟩
        · simp only [Sem.run_bind, hrun, Result.andThen_ok, Sem.run_pure]
        · have : arr.size = (zrow z.cells (c.toNat * P.cellsOf elem)).length := by rw [ra.length]; simp
          rw [this]; simp [zrow]
      have hnt : ¬ ((decide (c < 0) || decide ((ti.bytes : Int) * c > 2 ^ 48)) = true ∨ decide (l < 0) = true) := by simp; omega
      have hlt : ¬ (((decide (c < 0) || decide ((ti.bytes : Int) * c > 2 ^ 48)) || decide (l < 0) || decide (l > c)) = true) := by simp; omega
      by_cases hn : c.toNat * P.cellsOf elem = 0
      · obtain ⟨φ', w', y, h1, h2, h3, h4⟩ := key ((Array.range (c.toNat * P.cellsOf elem)).map ((#[] : Array Value)[· % (#[] : Array Value).size]!)) (by rw [hn]; simp [zrow]; exact rfl)
        refine ⟨φ', w', y, h1, h2, ?_, h4⟩
        rw [← h3]
        simp only [Instr.makeSlice, Sem.run_bind, run_und hu, Result.andThen_ok, asInt, asIntOf, Sem.run_pure, run_info hti, e1, e2, if_neg hlt, run_askRoom, run_size hti, if_pos hn]
      · obtain ⟨φ', w', y, h1, h2, h3, h4⟩ := key _ (zrow_VRs (c.toNat * P.cellsOf elem) rz.cells hne)
        refine ⟨φ', w', y, h1, h2, ?_, h4⟩
        rw [← h3]
        simp only [Instr.makeSlice, Sem.run_bind, run_und hu, Result.andThen_ok, asInt, asIntOf, Sem.run_pure, run_info hti, e1, e2, if_neg hlt, run_askRoom, run_size hti, if_neg hn, run_zero hti hzv]
    · cases h
  · cases h

theorem srcA_len {size : Nat} {x : AV} {u : Value} {n : Nat} {f : Nat → Option (List AV)} (r : VR φ x u) (h : srcA H size x = some (n, f)) : (Builtin.lenOf u).run P w = .ok n w := by
  unfold srcA at h
  split at h
  · split at h
    · cases h; obtain ⟨a, c, rfl, _⟩ := r; rfl
    · cases h
  · cases h; simp only [VR] at r; subst r; rfl
  · split at h
    · cases h; simp only [VR] at r; subst r; rfl
    · cases h
  · cases h

theorem srcA_cells (hW : WR w0 Pr φ H w) {size : Nat} {x : AV} {u : Value} {n m : Nat} {f : Nat → Option (List AV)} {cs : List AV} (r : VR φ x u) (h : srcA H size x = some (n, f)) (hm : m ≤ n) (hf : f m = some cs) :
    ∃ vs : List Value, VRs φ cs vs ∧ vs.length = m * size ∧ (Builtin.firstCells size m u).run P w = .ok vs.toArray w := by
  unfold srcA at h
  split at h
  · rename_i i k es len cap ex
    split at h
    · rename_i hes
      subst hes
      simp only [Option.some.injEq, Prod.mk.injEq] at h
      obtain ⟨rfl, rfl⟩ := h
      simp only [if_pos hm] at hf
      obtain ⟨a, c, rfl, hlc, hcc, ha⟩ := r
      by_cases hc0 : c = 0
      · have hm0 : m = 0 := by omega
        subst hm0
        have hcs : cs = [] := by
          have hl : cs.length = 0 := by
            unfold rdCells at hf
            split at hf
            · split at hf
              · cases hf; simp
              · cases hf
            · split at hf
              · cases hf; simp
              · cases hf
            · cases hf
          exact List.length_eq_zero_iff.1 hl
        subst hcs
        refine ⟨[], rfl, by simp, ?_⟩
        simp only [Builtin.firstCells, Nat.zero_mul]
        rfl
      obtain ⟨b, o, z, hφ, rfl, _⟩ := ha.resolve_left hc0
      obtain ⟨vs, rs, hlen, hc⟩ := hW.read hφ hf
      refine ⟨vs, rs, hlen, ?_⟩
      simp only [Builtin.firstCells]
      rw [← hlen]
      refine run_loadCells_list w _ vs fun j v hj => ?_
      rw [add_none]; exact hc j v hj
    · cases h
  · simp only [Option.some.injEq, Prod.mk.injEq] at h
    obtain ⟨rfl, rfl⟩ := h
    simp only [Option.some.injEq] at hf
    subst hf
    simp only [VR] at r; subst r
    exact ⟨[], rfl, by simp at hm; simp [hm], rfl⟩
  · split at h
    · rename_i s hs
      subst hs
      simp only [Option.some.injEq, Prod.mk.injEq] at h
      obtain ⟨rfl, rfl⟩ := h
      simp only [Option.some.injEq] at hf
      subst hf
      simp only [VR] at r; subst r
      refine ⟨(s.extract 0 m).data.toList.map fun b => .int .u8 b.toNat, ?_, ?_, ?_⟩
      · exact .of_get (by simp) fun j x v hx hv => by
          simp only [List.getElem?_map] at hx hv
          cases hq : (s.extract 0 m).data.toList[j]? with
          | none => rw [hq] at hx; cases hx
          | some q => rw [hq] at hx hv; cases hx; cases hv; rfl
      · simp only [List.length_map, Array.length_toList]
        have : (s.extract 0 m).data.size = (s.extract 0 m).size := rfl
        rw [this, ByteArray.size_extract]; omega
      · simp only [Builtin.firstCells, Sem.run_pure]
        congr 1
        apply Array.toList_inj.1
        simp [Array.toList_extract, List.extract_eq_take_drop]
    · cases h
  · cases h

end
end Go.Dv
