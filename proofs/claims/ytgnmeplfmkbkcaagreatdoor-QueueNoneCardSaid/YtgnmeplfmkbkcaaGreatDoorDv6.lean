/- Cuts of slices, aggregates that are built, new rows: each held against the model's own operation (own work). -/
import Derived.Test.YtgnmeplfmkbkcaaGreatDoorDv5

namespace Go.Dv

def OVR (φ : Env) : Option AV → Option Value → Prop
  | none, v => v = none
  | some x, v => ∃ u, v = some u ∧ VR φ x u

section
variable {P : Program} {w0 : World} {Pr : Nat → Prop} {φ : Env} {H : AH} {w : World}

theorem run_bound {x : AV} {u : Value} {n y : Nat} (r : VR φ x u) (hb : boundA 0 (some x) = some n) (hy : n ≤ y) (code : BoundsCode) :
    (Instr.sliceBound u y code).run P w = .ok n w := by
  cases x <;> simp only [boundA] at hb <;> try (cases hb; done)
  rename_i k i
  split at hb
  · rename_i h0
    cases hb
    simp only [VR] at r; subst r
    simp only [Instr.sliceBound, asIntOf, Sem.run_bind, Sem.run_pure, Result.andThen_ok, Sem.run_ite]
    rw [if_pos ⟨h0, by omega⟩]
  · cases hb

theorem boundA_some (d : Nat) (x : AV) : boundA d (some x) = boundA 0 (some x) := by cases x <;> rfl

theorem run_bounds {isS : Bool} {len cap l h : Nat} {lo hi : Option AV} {lo' hi' : Option Value} (rl : OVR φ lo lo') (rh : OVR φ hi hi')
    (hl : boundA 0 lo = some l) (hh : boundA len hi = some h) (hlh : l ≤ h) (hc : h ≤ cap) :
    (Instr.sliceBounds isS len cap lo' hi' none).run P w = .ok (l, h, cap) w := by
  cases lo with
  | none =>
    cases hl; obtain rfl := rl
    cases hi with
    | none => cases hh; obtain rfl := rh; simp [Instr.sliceBounds]
    | some y =>
      obtain ⟨u, rfl, ru⟩ := rh
      rw [boundA_some] at hh
      have := fun code => run_bound (P := P) (w := w) ru hh hc code
      simp [Instr.sliceBounds, this]
  | some x =>
    obtain ⟨v, rfl, rv⟩ := rl
    have h1 := fun code => run_bound (P := P) (w := w) rv hl hlh code
    cases hi with
    | none => cases hh; obtain rfl := rh; simp [Instr.sliceBounds, h1]
    | some y =>
      obtain ⟨u, rfl, ru⟩ := rh
      rw [boundA_some] at hh
      have := fun code => run_bound (P := P) (w := w) ru hh hc code
      simp [Instr.sliceBounds, this, h1]

theorem run_bounds_max {isS : Bool} {len cap l h m : Nat} {lo : Option AV} {hi mx : AV} {lo' : Option Value} {hi' mx' : Value} (rl : OVR φ lo lo') (rh : VR φ hi hi') (rm : VR φ mx mx')
    (hl : boundA 0 lo = some l) (hh : boundA 0 (some hi) = some h) (hm : boundA 0 (some mx) = some m) (hlh : l ≤ h) (hc : h ≤ m) (hmc : m ≤ cap) :
    (Instr.sliceBounds isS len cap lo' (some hi') (some mx')).run P w = .ok (l, h, m) w := by
  have h2 := fun code => run_bound (P := P) (w := w) rh hh hc code
  have h3 := fun code => run_bound (P := P) (w := w) rm hm hmc code
  cases lo with
  | none => cases hl; obtain rfl := rl; simp [Instr.sliceBounds, h2, h3]
  | some x =>
    obtain ⟨v, rfl, rv⟩ := rl
    have h1 := fun code => run_bound (P := P) (w := w) rv hl hlh code
    simp [Instr.sliceBounds, h1, h2, h3]

theorem room (o k l c es z : Nat) (hlc : l ≤ c) (h : o + k + c * es ≤ z) : o + (k + l * es) + (c - l) * es ≤ z := by
  have : l * es + (c - l) * es = c * es := by rw [← Nat.add_mul]; congr 1; omega
  omega

/-- where a cut lies -/
theorem cut_VR {i k es l h c c' cap' : Nat} {a : Addr} {ex' : Bool} (hcc : c' ≤ c)
    (ha : c = 0 ∨ ∃ b o z, φ i = some (b, o, z) ∧ a = ⟨b, o + k, none⟩ ∧ o + k + c * es ≤ z) (hh : h - l ≤ cap') (hlc : l ≤ c') (hcap : cap' ≤ c' - l ∧ (ex' = true → c' - l = cap')) :
    VR φ (.slice i (k + l * es) es (h - l) cap' ex') (.slice (some (if c' = l then a else a.add (l * es))) (h - l) (c' - l)) := by
  refine ⟨_, _, rfl, hh, hcap, ?_⟩
  by_cases e : c' = l
  · left; omega
  · right
    obtain ⟨b, o, z, hφ, rfl, hb⟩ := ha.resolve_left (by omega)
    rw [if_neg e, add_none]
    have := room o k l c' es z hlc (Nat.le_trans (by have := Nat.mul_le_mul_right es hcc; omega) hb)
    exact ⟨b, o, z, hφ, by rw [Nat.add_assoc], this⟩

theorem sliceA_spec (hW : WR w0 Pr φ H w) {t : TypeId} {x : AV} {u : Value} {lo hi mx : Option AV} {lo' hi' mx' : Option Value} {v : AV} (r : VR φ x u) (rl : OVR φ lo lo') (rh : OVR φ hi hi') (rm : OVR φ mx mx')
    (hs : sliceA P t H x lo hi mx = some v) : ∃ y, (Instr.sliceAt t u lo' hi' mx').run P w = .ok y w ∧ VR φ v y := by
  unfold sliceA at hs
  split at hs
  · rename_i elem i k es len cap ex hu
    split at hs
    · rename_i l h hl hh
      obtain ⟨a, c, rfl, hlc, ⟨hcap, hex⟩, ha⟩ := r
      split at hs
      · split at hs
        · rename_i hc
          obtain ⟨hlh, hhc, hes⟩ := hc
          simp only [Option.map_eq_some_iff] at hs
          obtain ⟨ti, hti, rfl⟩ := hs
          obtain rfl := rm
          have hhc' : h ≤ c := by omega
          refine ⟨_, ?_, cut_VR (Nat.le_refl c) ha (by omega) (by omega) ⟨by omega, fun e => by have := hex e; omega⟩⟩
          · simp only [Instr.sliceAt, Instr.slice, Sem.run_bind, run_und hu, Result.andThen_ok, run_bounds rl rh hl hh hlh hhc', run_size hti, hes, Sem.run_pure]
            by_cases e : c = l <;> simp [e]
        · cases hs
      · rename_i m
        split at hs
        · rename_i m hm
          split at hs
          · rename_i hc
            obtain ⟨hhi, hlh, hhm, hmc, hes⟩ := hc
            simp only [Option.map_eq_some_iff] at hs
            obtain ⟨ti, hti, rfl⟩ := hs
            obtain ⟨um, rfl, rum⟩ := rm
            cases hi with
            | none => cases hhi
            | some xh =>
              obtain ⟨uh, rfl, ruh⟩ := rh
              rw [boundA_some] at hh
              have hmc' : m ≤ c := by omega
              refine ⟨_, ?_, cut_VR hmc' ha (by omega) (by omega) ⟨by omega, fun _ => rfl⟩⟩
              simp only [Instr.sliceAt, Instr.slice, Sem.run_bind, run_und hu, Result.andThen_ok, run_bounds_max rl ruh rum hl hh hm hlh hhm hmc', run_size hti, hes, Sem.run_pure]
              by_cases e : m = l <;> simp [e]
          · cases hs
        · cases hs
    · cases hs
  · rename_i elem hu
    split at hs
    · rename_i hl hh
      simp only [Option.map_eq_some_iff] at hs
      obtain ⟨ti, hti, rfl⟩ := hs
      obtain rfl := rm
      simp only [VR] at r; subst r
      refine ⟨_, ?_, rfl⟩
      simp only [Instr.sliceAt, Instr.slice, Sem.run_bind, run_und hu, Result.andThen_ok, run_bounds rl rh hl hh (Nat.le_refl 0) (Nat.le_refl 0), run_size hti, Sem.run_pure]
      simp
    · cases hs
  · rename_i n elem i k hu
    split at hs
    · rename_i l h cs e' hl hh hi'
      split at hs
      · rename_i hc
        obtain ⟨hlh, hhn, hk⟩ := hc
        simp only [Option.map_eq_some_iff] at hs
        obtain ⟨ti, hti, rfl⟩ := hs
        obtain rfl := rm
        obtain ⟨b, o, z, hφ, rfl⟩ := r
        obtain ⟨b', o', z', c, hφ', _, _, hlz, _⟩ := hW.obj i _ hi'
        rw [hφ] at hφ'; cases hφ'
        refine ⟨_, ?_, cut_VR (Nat.le_refl n) (a := ⟨b, o + k, none⟩) (.inr ⟨b, o, _, hφ, rfl, by omega⟩) (by omega) (by omega) ⟨by omega, fun _ => rfl⟩⟩
        simp only [Instr.sliceAt, Sem.run_bind, run_und hu, Result.andThen_ok, Instr.sureAddr, run_bounds rl rh hl hh hlh hhn, run_size hti, Sem.run_pure]
      · cases hs
    · cases hs
  · cases hs

/-! aggregates -/
def fillA (place : Nat → Option (Nat × Nat)) (cells : List AV) : List (Nat × AV) → Option (List AV)
  | [] => some cells
  | (i, v) :: rest =>
    match place i with
    | none => none
    | some (off, size) => if v.cells.length ≠ size ∨ off + v.cells.length > cells.length then none else fillA place (spl cells off v.cells) rest

def PVR (φ : Env) : List (Nat × AV) → List (Nat × Value) → Prop
  | [], l => l = []
  | (i, x) :: xs, l => ∃ u us, l = (i, u) :: us ∧ VR φ x u ∧ PVR φ xs us

theorem splice_VRs : ∀ (xs : List AV) (vs : List Value) (cs : List AV) (us : Array Value) (off n : Nat), VRs φ xs vs → VRs φ cs us.toList →
    VRs φ (spl cs (off + n) xs) ((vs.zipIdx n).foldl (fun cs (c, j) => cs.setIfInBounds (off + j) c) us).toList
  | [], vs, cs, us, off, n, r, rc => by rw [show vs = [] from r]; exact rc
  | x :: xs, _, cs, us, off, n, ⟨v, vs, e, rx, rs⟩, rc => by
    subst e
    simp only [spl, List.zipIdx_cons, List.foldl_cons]
    have := splice_VRs xs vs (cs.set (off + n) x) (us.setIfInBounds (off + n) v) off (n + 1) rs (by simpa using rc.set (off + n) rx)
    exact this

theorem fillA_spec {place : Nat → Option (Nat × Nat)} : ∀ (ps : List (Nat × AV)) (qs : List (Nat × Value)) (cs : List AV) (us : Array Value) (res : List AV), PVR φ ps qs → VRs φ cs us.toList →
    fillA place cs ps = some res → ∃ out : Array Value, Instr.fill place us qs = some out ∧ VRs φ res out.toList
  | [], qs, cs, us, res, r, rc, h => by
    rw [show qs = [] from r]
    simp only [fillA, Option.some.injEq] at h; subst h
    exact ⟨us, rfl, rc⟩
  | (i, x) :: ps, _, cs, us, res, ⟨v, qs, e, rx, rs⟩, rc, h => by
    subst e
    simp only [fillA] at h
    split at h
    · cases h
    · rename_i off size hpl
      split at h
      · cases h
      · rename_i hc
        have hsz : v.cells.size = x.cells.length := by rw [rx.cells.length]; simp
        have hul : us.size = cs.length := by rw [rc.length]; simp
        have hcs := splice_VRs x.cells v.cells.toList cs us off 0 rx.cells rc
        rw [Nat.add_zero] at hcs
        obtain ⟨out, ho, ro⟩ := fillA_spec ps qs _ (v.cells.zipIdx.foldl (fun cs (c, j) => cs.setIfInBounds (off + j) c) us) res rs (by
          rw [← Array.foldl_toList, Array.toList_zipIdx]; exact hcs) h
        refine ⟨out, ?_, ro⟩
        simp only [Instr.fill, hpl]
        rw [if_neg (by simp; omega)]
        exact ho

end
end Go.Dv
