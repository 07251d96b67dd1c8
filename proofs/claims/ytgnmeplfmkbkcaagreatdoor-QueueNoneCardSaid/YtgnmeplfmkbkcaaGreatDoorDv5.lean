/- Operations on addresses, structs and slices on abstract states (own work). -/
import Derived.Test.YtgnmeplfmkbkcaaGreatDoorDv4

namespace Go.Dv

def intA : AV → Option Int
  | .int _ n => some n
  | _ => none

def partA (P : Program) (t : TypeId) (cs : List AV) (off : Nat) : Option AV :=
  match isAggA P t with
  | some true => some (.agg ((cs.drop off).take (P.cellsOf t)))
  | some false => cs[off]?
  | none => none

def fieldA (P : Program) (t : TypeId) (x : AV) (f : Nat) : Option AV :=
  match P.underlying t, x with
  | some (.struct fs), .agg cs => (fs[f]?).bind fun fd => partA P fd.type cs fd.offset
  | _, _ => none

def fieldAddrA (P : Program) (t : TypeId) (x : AV) (f : Nat) : Option AV :=
  match P.underlying t, x with
  | some (.struct fs), .ptr i k => (fs[f]?).bind fun fd => if P.cellsOf fd.type = 0 then none else (P.info? fd.type).map fun _ => .ptr i (k + fd.offset)
  | _, _ => none

def indexAddrA (P : Program) (t : TypeId) (x ix : AV) : Option AV :=
  match P.underlying t, x, ix with
  | some (.slice elem), .slice i k es len _ _, .int _ n =>
    if 0 ≤ n ∧ n < len ∧ P.cellsOf elem = es then (P.info? elem).map fun _ => .ptr i (k + n.toNat * es) else none
  | some (.array len elem), .ptr i k, .int _ n =>
    if 0 ≤ n ∧ n < len then (P.info? elem).map fun _ => .ptr i (k + n.toNat * P.cellsOf elem) else none
  | _, _, _ => none

section
variable {P : Program} {w0 : World} {Pr : Nat → Prop} {φ : Env} {H : AH} {w : World}

theorem partA_spec {t : TypeId} {cs : List AV} {us : Array Value} {off : Nat} {v : AV} (r : VRs φ cs us.toList) (h : partA P t cs off = some v) :
    ∃ u, (∀ w, (part t us off).run P w = .ok u w) ∧ VR φ v u := by
  unfold partA at h
  split at h
  · rename_i ha
    cases h
    obtain ⟨ti, hti⟩ := isAgg_info ha
    refine ⟨.agg (us.extract off (off + P.cellsOf t)), fun w => ?_, _, rfl, ?_⟩
    · simp only [part, Sem.run_bind, run_isAgg ha, Result.andThen_ok, if_true, run_size hti, Sem.run_pure]
    · have := (r.drop off).take (P.cellsOf t)
      simpa [Array.toList_extract, List.extract_eq_take_drop] using this
  · rename_i ha
    obtain ⟨u, hu, ru⟩ := r.get off v h
    refine ⟨u, fun w => ?_, ru⟩
    have hu' : us[off]? = some u := by simpa using hu
    simp only [part, Sem.run_bind, run_isAgg ha, Result.andThen_ok, Bool.false_eq_true, if_false, hu', Sem.run_pure]
  · cases h

theorem fieldA_spec {t : TypeId} {x : AV} {u : Value} {f : Nat} {v : AV} (r : VR φ x u) (h : fieldA P t x f = some v) :
    ∃ y, (∀ w, (Instr.field t u f).run P w = .ok y w) ∧ VR φ v y := by
  unfold fieldA at h
  split at h
  · rename_i fs cs hu
    simp only [Option.bind_eq_some_iff] at h
    obtain ⟨fd, hf, hp⟩ := h
    obtain ⟨us, rfl, rs⟩ := r
    obtain ⟨y, hy, ry⟩ := partA_spec (P := P) rs hp
    refine ⟨y, fun w => ?_, ry⟩
    simp only [Instr.field, Sem.run_bind, run_und hu, Result.andThen_ok, hf, asAgg, Sem.run_pure, hy]
  · cases h

theorem fieldAddrA_spec {t : TypeId} {x : AV} {u : Value} {f : Nat} {v : AV} (r : VR φ x u) (h : fieldAddrA P t x f = some v) :
    ∃ y, (∀ w, (Instr.fieldAt t u f).run P w = .ok y w) ∧ VR φ v y := by
  unfold fieldAddrA at h
  split at h
  · rename_i fs i k hu
    simp only [Option.bind_eq_some_iff] at h
    obtain ⟨fd, hf, hp⟩ := h
    split at hp
    · cases hp
    · rename_i hz
      simp only [Option.map_eq_some_iff] at hp
      obtain ⟨ti, hti, rfl⟩ := hp
      obtain ⟨b, o, z, hφ, rfl⟩ := r
      refine ⟨_, fun w => ?_, b, o, z, hφ, rfl⟩
      simp only [Instr.fieldAt, Sem.run_bind, run_und hu, Result.andThen_ok, hf, Instr.sureAddr, Sem.run_pure, fieldPlace, run_size hti, if_neg hz, Sem.run_ite, add_none, Nat.add_assoc]
  · cases h

theorem indexAddrA_spec {t : TypeId} {x ix : AV} {u ui : Value} {v : AV} (r : VR φ x u) (ri : VR φ ix ui) (h : indexAddrA P t x ix = some v) :
    ∃ y, (∀ w, (Instr.indexAt t u ui).run P w = .ok y w) ∧ VR φ v y := by
  unfold indexAddrA at h
  split at h
  · rename_i elem i k es len cap ex kk n hu
    split at h
    · rename_i hc
      obtain ⟨h0, h1, hes⟩ := hc
      simp only [Option.map_eq_some_iff] at h
      obtain ⟨ti, hti, rfl⟩ := h
      obtain ⟨a, c, rfl, hlc, hcc, ha⟩ := r
      simp only [VR] at ri; subst ri
      have hc0 : c ≠ 0 := by omega
      obtain ⟨b, o, z, hφ, rfl, hb⟩ := ha.resolve_left hc0
      refine ⟨_, fun w => ?_, b, o, z, hφ, rfl⟩
      simp only [Instr.indexAt, Sem.run_bind, asIntOf, Sem.run_pure, run_und hu, Result.andThen_ok, Bool.and_false, Bool.false_eq_true, if_false, Sem.run_ite]
      rw [if_pos ⟨h0, h1⟩]
      simp [run_size hti, add_none, hes, Nat.add_assoc]
    · cases h
  · rename_i len elem i k kk n hu
    split at h
    · rename_i hc
      obtain ⟨h0, h1⟩ := hc
      simp only [Option.map_eq_some_iff] at h
      obtain ⟨ti, hti, rfl⟩ := h
      obtain ⟨b, o, z, hφ, rfl⟩ := r
      simp only [VR] at ri; subst ri
      refine ⟨_, fun w => ?_, b, o, z, hφ, rfl⟩
      simp only [Instr.indexAt, Sem.run_bind, asIntOf, Sem.run_pure, run_und hu, Result.andThen_ok, Instr.sureAddr, Sem.run_ite]
      rw [if_pos ⟨h0, h1⟩]
      simp [run_size hti, add_none, Nat.add_assoc]
    · cases h
  · cases h

/-! cuts -/
def boundA (d : Nat) : Option AV → Option Nat
  | none => some d
  | some (.int _ n) => if 0 ≤ n then some n.toNat else none
  | some _ => none

/-- 's[l:h]', 's[l:h:m]' of a slice -/
def sliceA (P : Program) (t : TypeId) (H : AH) (x : AV) (lo hi mx : Option AV) : Option AV :=
  match P.underlying t, x with
  | some (.slice elem), .slice i k es len cap ex =>
    match boundA 0 lo, boundA len hi with
    | some l, some h =>
      match mx with
      | none => if l ≤ h ∧ h ≤ cap ∧ P.cellsOf elem = es then (P.info? elem).map fun _ => .slice i (k + l * es) es (h - l) (cap - l) ex else none
      | some m => match boundA 0 (some m) with
        | some m => if hi.isSome = true ∧ l ≤ h ∧ h ≤ m ∧ m ≤ cap ∧ P.cellsOf elem = es then (P.info? elem).map fun _ => .slice i (k + l * es) es (h - l) (m - l) true else none
        | none => none
    | _, _ => none
  | some (.slice elem), .nilSlice =>
    match boundA 0 lo, boundA 0 hi, mx with
    | some 0, some 0, none => (P.info? elem).map fun _ => .nilSlice
    | _, _, _ => none
  | some (.array n elem), .ptr i k =>
    match boundA 0 lo, boundA n hi, mx, H[i]? with
    | some l, some h, none, some (.cells cs _) => if l ≤ h ∧ h ≤ n ∧ k + n * P.cellsOf elem ≤ cs.length then (P.info? elem).map fun _ => .slice i (k + l * P.cellsOf elem) (P.cellsOf elem) (h - l) (n - l) true else none
    | _, _, _, _ => none
  | _, _ => none

end
end Go.Dv
