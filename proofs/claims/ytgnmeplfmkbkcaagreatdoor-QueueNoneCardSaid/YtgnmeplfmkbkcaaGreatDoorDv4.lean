/- The operations of the model on abstract states, one by one, each held against the model's own (own work). -/
import Derived.Test.YtgnmeplfmkbkcaaGreatDoorDv3

namespace Go.Dv

inductive ANext where
  | val (v : AV)
  | skip
  | enter (f : FuncId) (args : List AV)
  deriving Inhabited

def pureRun {α : Type} (p : Program) : Sem α → Option α
  | .pure a => some a
  | .program k => pureRun p (k p)
  | _ => none

theorem pureRun_spec {α : Type} {p : Program} : ∀ (e : Sem α) (a : α), pureRun p e = some a → ∀ w, e.run p w = .ok a w
  | .pure a, b, h, w => by simp only [pureRun, Option.some.injEq] at h; subst h; rfl
  | .program k, b, h, w => by simp only [pureRun] at h; exact pureRun_spec (k p) b h w
  | .load .., _, h, _ | .store .., _, h, _ | .new .., _, h, _ | .shape .., _, h, _ | .freeze .., _, h, _ | .frozen .., _, h, _
  | .getObj .., _, h, _ | .setObj .., _, h, _ | .choose .., _, h, _ | .sys .., _, h, _ | .mark .., _, h, _ | .halt .., _, h, _ => by simp [pureRun] at h

/-- What the model's operation comes to, for what the abstract one says. -/
def Fits (φ : Env) (w' : World) : ANext → Result Next → Prop
  | .val v, r => ∃ u, r = .ok (.value u) w' ∧ VR φ v u
  | .skip, r => r = .ok .skip w'
  | .enter f args, r => ∃ us : Array Value, r = .ok (.enter f us) w' ∧ VRs φ args us.toList

section
variable {P : Program} {w0 : World} {Pr : Nat → Prop} {φ : Env} {H : AH} {w : World}

theorem run_und {t : TypeId} {d : TypeDesc} (h : P.underlying t = some d) : (underlying t).run P w = .ok d w := by simp [underlying, h]
theorem run_info {t : TypeId} {d : TypeInfo} (h : P.info? t = some d) : (typeInfo t).run P w = .ok d w := by simp [typeInfo, h]
theorem info_of_und {t : TypeId} {d : TypeDesc} (h : P.underlying t = some d) : ∃ i, P.info? t = some i := by
  unfold Program.underlying at h
  split at h <;> first | exact ⟨_, ‹_›⟩ | cases h
theorem run_size {t : TypeId} {i : TypeInfo} (h : P.info? t = some i) : (sizeOf t).run P w = .ok (P.cellsOf t) w := by simp [sizeOf, typeInfo, h, Program.cellsOf]
theorem run_zero {t : TypeId} {i : TypeInfo} {z : Value} (h : P.info? t = some i) (hz : i.zero = some z) : (zeroValue t).run P w = .ok z w := by simp [zeroValue, typeInfo, h, hz]

def isAggA (P : Program) (t : TypeId) : Option Bool :=
  match P.underlying t with
  | some (.struct _) | some (.array _ _) => some true
  | some _ => some false
  | none => none
theorem run_isAgg {t : TypeId} {b : Bool} (h : isAggA P t = some b) : (isAgg t).run P w = .ok b w := by
  unfold isAggA at h
  split at h
  · rename_i hu; cases h; simp [isAgg, underlying, hu]
  · rename_i hu; cases h; simp [isAgg, underlying, hu]
  · rename_i d h1 h2 hu
    cases h
    cases d <;> first | exact absurd rfl (h1 _) | exact absurd rfl (h2 _ _) | simp [isAgg, underlying, hu]
  · cases h
theorem isAgg_info {t : TypeId} {b : Bool} (h : isAggA P t = some b) : ∃ i, P.info? t = some i := by
  unfold isAggA at h
  split at h <;> first | exact info_of_und ‹_› | cases h

/-! loads -/
def ldA (P : Program) (t : TypeId) (H : AH) (i k : Nat) : Option AV :=
  match isAggA P t with
  | some true => (rdCells H i k (P.cellsOf t)).map .agg
  | some false => (rdCells H i k 1).bind (·.head?)
  | none => none

theorem ldA_spec (h : WR w0 Pr φ H w) {t : TypeId} {i k b o z : Nat} {v : AV} (hφ : φ i = some (b, o, z)) (hl : ldA P t H i k = some v) :
    ∃ u, (loadVar t ⟨b, o + k, none⟩).run P w = .ok u w ∧ VR φ v u := by
  unfold ldA at hl
  split at hl
  · rename_i ha
    simp only [Option.map_eq_some_iff] at hl
    obtain ⟨xs, hx, rfl⟩ := hl
    obtain ⟨vs, rs, hlen, hc⟩ := h.read hφ hx
    obtain ⟨ti, hti⟩ := isAgg_info ha
    refine ⟨.agg vs.toArray, ?_, vs.toArray, rfl, by simpa using rs⟩
    have hrun : (loadCells ⟨b, o + k, none⟩ (P.cellsOf t)).run P w = .ok vs.toArray w := by
      rw [← hlen]
      exact run_loadCells_list w _ vs fun j v hj => by rw [add_none]; exact hc j v hj
    simp only [loadVar, Sem.run_bind, run_isAgg ha, Result.andThen_ok, if_true, run_size hti, hrun, Sem.run_pure]
  · rename_i ha
    simp only [Option.bind_eq_some_iff] at hl
    obtain ⟨xs, hx, hv⟩ := hl
    obtain ⟨vs, rs, hlen, hc⟩ := h.read hφ hx
    match xs, vs, rs with
    | [], _, _ => simp at hv
    | x :: xs, _, ⟨u, us, e, r, _⟩ =>
      subst e; simp at hv; subst hv
      refine ⟨u, ?_, r⟩
      have := hc 0 u rfl
      simp only [loadVar, Sem.run_bind, run_isAgg ha, Result.andThen_ok, Bool.false_eq_true, if_false, run_load]
      rw [Nat.add_zero] at this
      rw [this]
  · cases hl

/-! stores -/
def stA (P : Program) (t : TypeId) (H : AH) (i k : Nat) (x : AV) : Option AH :=
  match P.info? t with
  | some _ => if x.cells.length = P.cellsOf t then wrCells H i k x.cells else none
  | none => none

theorem wrCells_spec (h : WR w0 Pr φ H w) {i k b o z o' n : Nat} {xs : List AV} {vs : List Value} {H' : AH} (hφ : φ i = some (b, o, z)) (hw : wrCells H i k xs = some H') (r : VRs φ xs vs) (ho : o' + n = o + k) :
    ∃ w', (storeCells ⟨b, o', none⟩ vs n).run P w = .ok () w' ∧ WR w0 Pr φ H' w' := by
  unfold wrCells at hw
  split at hw
  · rename_i cs e hi
    split at hw
    · rename_i hk
      cases hw
      exact WR.stores hφ xs vs cs H w k o' n h hi hk.1 hk.2 r ho
    · cases hw
  · cases hw

theorem stA_spec (h : WR w0 Pr φ H w) {t : TypeId} {i k b o z : Nat} {x : AV} {v : Value} {H' : AH} (hφ : φ i = some (b, o, z)) (hs : stA P t H i k x = some H') (r : VR φ x v) :
    ∃ w', (storeVar t ⟨b, o + k, none⟩ v).run P w = .ok () w' ∧ WR w0 Pr φ H' w' := by
  unfold stA at hs
  split at hs
  · rename_i ti hti
    split at hs
    · rename_i hlen
      obtain ⟨w', hw', hW⟩ := wrCells_spec (P := P) h hφ hs r.cells (Nat.add_zero _)
      refine ⟨w', ?_, hW⟩
      have hsz : v.cells.size = P.cellsOf t := by rw [← hlen, r.cells.length]; simp
      simp only [storeVar, Sem.run_bind, run_size hti, Result.andThen_ok, hsz, ne_eq, not_true, if_false, hw']
    · cases hs
  · cases hs

/-! new blocks -/
theorem new_spec (h : WR w0 Pr φ H w) {slot : Option Nat} {cs : List AV} {elem : TypeId} {i : Nat} {H' : AH} (hp : put slot H (.cells cs elem) = some (i, H')) {vs : Array Value} (r : VRs φ cs vs.toList) :
    ∃ φ' w', φ.le φ' ∧ WR w0 Pr φ' H' w' ∧ (newRow elem vs).run P w = .ok ⟨w.heap.size, 0, none⟩ w' ∧ φ' i = some (w.heap.size, 0, vs.size) := by
  have hn := (put_spec h hp).1
  obtain ⟨hle, hW⟩ := h.alloc hp (.cells vs elem) vs.size ⟨w.heap.size, 0, vs.size, vs, Env.set_self _ _ _, by simp, rfl, by simp [r.length], fun j v hj => by
    obtain ⟨u, hu, ru⟩ := r.get j v hj
    exact ⟨u, by simpa using hu, ru.mono (Env.le_set _ hn)⟩⟩ rfl
  exact ⟨_, _, hle, hW, by simp [newRow], Env.set_self _ _ _⟩

def zeroA (P : Program) (t : TypeId) : Option AV := ((P.info? t).bind (·.zero)).bind (ofV 6)
theorem zeroA_spec {t : TypeId} {x : AV} (h : zeroA P t = some x) (φ : Env) : ∃ i z, P.info? t = some i ∧ i.zero = some z ∧ VR φ x z := by
  simp only [zeroA, Option.bind_eq_some_iff] at h
  obtain ⟨z, ⟨i, hi, hz⟩, hx⟩ := h
  exact ⟨i, z, hi, hz, ofV_spec _ _ _ hx⟩

end
end Go.Dv
