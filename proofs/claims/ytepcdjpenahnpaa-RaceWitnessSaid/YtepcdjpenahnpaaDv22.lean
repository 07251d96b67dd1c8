/- Calls whose arguments lead to no block, or to one block of known cells, run once by the kernel, stand in every world (own work). -/
import Derived.Test.YtepcdjpenahnpaaDv21

namespace Go.Dv
set_option linter.unusedSimpArgs false
set_option linter.unusedVariables false

mutual
theorem toV_VR {φ : Env} : ∀ (x : AV) (v : Value), toV x = some v → VR φ x v
  | .int .., v, h => by simp only [toV, Option.some.injEq] at h; exact h.symm
  | .bool .., v, h => by simp only [toV, Option.some.injEq] at h; exact h.symm
  | .str .., v, h => by simp only [toV, Option.some.injEq] at h; exact h.symm
  | .nilPtr, v, h => by simp only [toV, Option.some.injEq] at h; exact h.symm
  | .nilSlice, v, h => by simp only [toV, Option.some.injEq] at h; exact h.symm
  | .nilMap, v, h => by simp only [toV, Option.some.injEq] at h; exact h.symm
  | .nilFunc, v, h => by simp only [toV, Option.some.injEq] at h; exact h.symm
  | .nilIface, v, h => by simp only [toV, Option.some.injEq] at h; exact h.symm
  | .ptr .., v, h => by simp [toV] at h
  | .slice .., v, h => by simp [toV] at h
  | .map .., v, h => by simp [toV] at h
  | .junk, v, h => by simp [toV] at h
  | .iface t x, v, h => by
    simp only [toV, Option.map_eq_some_iff] at h
    obtain ⟨y, hy, rfl⟩ := h
    exact ⟨y, rfl, toV_VR x y hy⟩
  | .agg cs, v, h => by
    simp only [toV, Option.map_eq_some_iff] at h
    obtain ⟨y, hy, rfl⟩ := h
    exact ⟨_, rfl, toVs_VR cs y hy⟩
  | .tuple cs, v, h => by
    simp only [toV, Option.map_eq_some_iff] at h
    obtain ⟨y, hy, rfl⟩ := h
    exact ⟨_, rfl, toVs_VR cs y hy⟩
  | .func fn f c, v, h => by
    simp only [toV, Option.bind_eq_some_iff, Option.map_eq_some_iff] at h
    obtain ⟨y, hy, z, hz, rfl⟩ := h
    exact ⟨_, _, rfl, toVs_VR f y hy, toVs_VR c z hz⟩
theorem toVs_VR {φ : Env} : ∀ (xs : List AV) (l : List Value), toVs xs = some l → VRs φ xs l
  | [], l, h => by simp only [toVs, Option.some.injEq] at h; exact h.symm
  | x :: xs, l, h => by
    simp only [toVs, Option.bind_eq_some_iff, Option.map_eq_some_iff] at h
    obtain ⟨y, hy, z, hz, rfl⟩ := h
    exact ⟨_, _, rfl, toV_VR x y hy, toVs_VR xs z hz⟩
end

/-- what leads to no block means the same everywhere -/
theorem toV_env {φ ψ : Env} {x : AV} {u : Value} (h : (toV x).isSome = true) (r : VR φ x u) : VR ψ x u := by
  obtain ⟨v, hv⟩ := Option.isSome_iff_exists.1 h
  rw [toV_spec x v hv u r]
  exact toV_VR x v hv
theorem toVs_env {φ ψ : Env} {xs : List AV} {us : List Value} (h : (toVs xs).isSome = true) (r : VRs φ xs us) : VRs ψ xs us := by
  obtain ⟨v, hv⟩ := Option.isSome_iff_exists.1 h
  rw [toVs_spec xs v hv us r]
  exact toVs_VR xs v hv
theorem toVs_get : ∀ {xs : List AV} (_ : (toVs xs).isSome = true) {j : Nat} {x : AV}, xs[j]? = some x → (toV x).isSome = true
  | [], _, _, _, h => by simp at h
  | y :: ys, hs, j, x, h => by
    obtain ⟨l, hl⟩ := Option.isSome_iff_exists.1 hs
    simp only [toVs, Option.bind_eq_some_iff, Option.map_eq_some_iff] at hl
    obtain ⟨a, ha, b, hb, _⟩ := hl
    cases j with
    | zero => simp at h; subst h; rw [ha]; rfl
    | succ j => exact toVs_get (xs := ys) (by rw [hb]; rfl) (by simpa using h)

/-! calls whose arguments lead to no block -/
abbrev Closed := FuncId × List AV × AV

def closedOrc (l : List Closed) : CallF := fun f args H => (l.find? fun e => f == e.1 && AV.beqs e.2.1 args).map fun e => (e.2.2, H)

def closedRuns (P : Program) (C : Cfg P) (n : Nat) (e : Closed) : Bool := (toVs e.2.1).isSome && (toV e.2.2).isSome && match evCall P C n e.1 e.2.1 [] with
  | some (v, _) => AV.beq v e.2.2
  | none => false

theorem closedOrc_ok {P : Program} {C : Cfg P} {n : Nat} {l : List Closed} (hl : l.all (closedRuns P C n) = true) (w0 : World) (Pr : Nat → Prop) : CallOk P w0 Pr (closedOrc l) := by
  intro f args H v H' h φ w vs hW hr
  unfold closedOrc at h
  simp only [Option.map_eq_some_iff, Prod.mk.injEq] at h
  obtain ⟨⟨g, as', v'⟩, he, rfl, rfl⟩ := h
  have hm := List.mem_of_find?_eq_some he
  have hp := List.find?_some he
  simp only [Bool.and_eq_true, beq_iff_eq] at hp
  obtain ⟨rfl, hp⟩ := hp
  have ha := AV.beqs_eq _ _ hp
  subst ha
  have hs := List.all_eq_true.1 hl _ hm
  simp only [closedRuns, Bool.and_eq_true] at hs
  obtain ⟨⟨h1, h2⟩, h3⟩ := hs
  split at h3
  · rename_i v0 H0 he0
    have hv := AV.beq_eq _ _ h3
    subst hv
    have := evCall_sound (C := C) (w0 := w) (Pr := fun b => b < w.heap.size) n f as' [] v0 H0 he0 (fun _ => none) w vs (WR.start w) (toVs_env h1 hr)
    refine this.mono fun e w' hw => ?_
    obtain ⟨φ', u, _, he, hu, hW'⟩ := hw
    exact ⟨φ, u, Env.le_refl φ, he, toV_env h2 hu, hW.later hW'.size hW'.old hW'.os hW'.tape hW'.output⟩
  · cases h3

/-! calls on a pointer to one block of known cells -/
structure AtPtr where
  f : FuncId
  cs : List AV
  elem : TypeId
  more : List AV
  val : AV

def ptrOrc (l : List AtPtr) : CallF := fun f args H => match args with
  | .ptr i 0 :: more => match H[i]? with
    | some (.cells cs e) => (l.find? fun p => f == p.f && AV.beqs p.cs cs && e == p.elem && AV.beqs p.more more).map fun p => (p.val, H)
    | _ => none
  | _ => none

def ptrRuns (P : Program) (C : Cfg P) (n : Nat) (p : AtPtr) : Bool := (toVs p.cs).isSome && (toV p.val).isSome && (toVs p.more).isSome && match evCall P C n p.f (.ptr 0 0 :: p.more) [.cells p.cs p.elem] with
  | some (v, .cells cs e :: _) => AV.beq v p.val && AV.beqs cs p.cs && e == p.elem
  | _ => false

theorem ptrOrc_ok {P : Program} {C : Cfg P} {n : Nat} {l : List AtPtr} (hl : l.all (ptrRuns P C n) = true) (w0 : World) (Pr : Nat → Prop) : CallOk P w0 Pr (ptrOrc l) := by
  intro f args H v H' h φ w vs hW hr
  unfold ptrOrc at h
  split at h
  · rename_i i more
    split at h
    · rename_i cs el hi
      simp only [Option.map_eq_some_iff, Prod.mk.injEq] at h
      obtain ⟨p, he, rfl, rfl⟩ := h
      have hm := List.mem_of_find?_eq_some he
      have hp := List.find?_some he
      simp only [Bool.and_eq_true, beq_iff_eq] at hp
      obtain ⟨⟨⟨rfl, hcs⟩, rfl⟩, hmo⟩ := hp
      have ha := AV.beqs_eq _ _ hcs
      have hb := AV.beqs_eq _ _ hmo
      subst ha hb
      have hs := List.all_eq_true.1 hl _ hm
      simp only [ptrRuns, Bool.and_eq_true] at hs
      obtain ⟨⟨⟨h1, h2⟩, h4⟩, h3⟩ := hs
      split at h3
      · rename_i v0 cs0 e0 H0 he0
        simp only [Bool.and_eq_true, beq_iff_eq] at h3
        obtain ⟨⟨hv, hc0⟩, rfl⟩ := h3
        have hv := AV.beq_eq _ _ hv
        have hc0 := AV.beqs_eq _ _ hc0
        subst hv hc0
        obtain ⟨b, o, z, c, hφ, hblk, hz, hlen, hcell⟩ := hW.obj i _ hi
        have hOi : Owned H i := ⟨_, hi, rfl⟩
        have hnp := hW.own i _ hOi hφ
        have hblt := hW.lt i _ hφ
        obtain ⟨us, uss, hvs, hu1, hus⟩ := hr
        let ψ : Env := fun j => if j = 0 then some (b, o, z) else none
        have hψ : WR w (fun b' => b' < w.heap.size ∧ b' ≠ b) ψ [.cells p.cs p.elem] w := by
          refine ⟨fun j hj => ?_, fun j hj => ?_, fun j x hx => ?_, fun j k x y ⟨q, hq, _⟩ ⟨q', hq', _⟩ _ _ _ => ?_, fun j x _ hx => ?_, fun j x q hq _ => ?_, fun j q hq => ?_, fun b' hb' => hb'.1, Nat.le_refl _, rfl, rfl, rfl, fun _ _ => rfl⟩
          · simp at hj; simp only [ψ]; rw [if_neg (by omega)]
          · cases j <;> simp at hj
          · simp only [ψ] at hx; split at hx <;> simp at hx; subst hx; exact hblt
          · cases j <;> simp at hq; cases k <;> simp at hq'; rfl
          · simp only [ψ] at hx; split at hx <;> simp at hx; subst hx; exact fun h => h.2 rfl
          · cases j <;> simp at hq
          · cases j with
            | zero =>
              simp at hq; subst hq
              refine ⟨b, o, z, c, rfl, hblk, hz, hlen, fun j v hj => ?_⟩
              obtain ⟨u, hu, r⟩ := hcell j v hj
              exact ⟨u, hu, toV_env (toVs_get h1 hj) r⟩
            | succ j => simp at hq
        have hr' : VRs ψ (.ptr 0 0 :: p.more) vs.toList := by
          refine ⟨us, uss, hvs, ?_, toVs_env h4 hus⟩
          obtain ⟨b', o', z', hb', rfl⟩ := hu1
          rw [hφ] at hb'; cases hb'
          exact ⟨b, o, z, rfl, rfl⟩
        have := evCall_sound (C := C) n p.f _ _ p.val _ he0 ψ w vs hψ hr'
        refine this.mono fun e w' hw => ?_
        obtain ⟨φ', u, hle, he, hu, hW'⟩ := hw
        refine ⟨φ, u, Env.le_refl φ, he, toV_env h2 hu, ?_⟩
        have hst : ∀ b', b' < w.heap.size → b' ≠ b → w'.heap[b']? = w.heap[b']? := fun b' h1 h2 => hW'.old b' ⟨h1, h2⟩
        refine ⟨hW.dom, hW.fresh, fun j x hx => Nat.lt_of_lt_of_le (hW.lt j x hx) hW'.size, hW.inj, hW.own, hW.argP, fun j q hq => ?_, hW.prLt, Nat.le_trans hW.size hW'.size, hW'.os.trans hW.os, hW'.tape.trans hW.tape, hW'.output.trans hW.output, fun b' hb' => ?_⟩
        · have hk := hW.obj j q hq
          have go : (∀ x, φ j = some x → x.1 ≠ b) → OR φ w' j q := fun g => hk.keep (Env.le_refl φ) fun x hx => hst _ (hW.lt j x hx) (g x hx)
          cases q with
          | fresh => trivial
          | dead => trivial
          | arg cs => exact go fun x hx hxb => hnp (by have := hW.argP j x cs hq hx; rw [hxb] at this; exact this)
          | map es cl =>
            refine go fun x hx hxb => ?_
            have := hW.inj j i x _ ⟨_, hq, rfl⟩ hOi hx hφ hxb
            subst this; rw [hi] at hq; cases hq
          | strIter s q =>
            refine go fun x hx hxb => ?_
            have := hW.inj j i x _ ⟨_, hq, rfl⟩ hOi hx hφ hxb
            subst this; rw [hi] at hq; cases hq
          | cells cs' e' =>
            by_cases hji : j = i
            · subst hji
              rw [hi] at hq; cases hq
              obtain ⟨b1, o1, z1, c1, hφ1, hblk1, hz1, hlen1, hcell1⟩ := hW'.obj 0 _ rfl
              rw [hle 0 (b, o, z) rfl] at hφ1
              cases hφ1
              refine ⟨b, o, z, c1, hφ, hblk1, hz1, hlen1, fun j v hj => ?_⟩
              obtain ⟨u, hu, r⟩ := hcell1 j v hj
              exact ⟨u, hu, toV_env (toVs_get h1 hj) r⟩
            · exact go fun x hx hxb => hji (hW.inj j i x _ ⟨_, hq, rfl⟩ hOi hx hφ hxb)
        · have hbl : b' < w.heap.size := Nat.lt_of_lt_of_le (hW.prLt b' hb') hW.size
          rw [hst b' hbl (fun e => hnp (by subst e; exact hb'))]
          exact hW.old b' hb'
      · cases h3
    · cases h
  · cases h

def orElse (a b : CallF) : CallF := fun f args H => (a f args H).or (b f args H)
theorem orElse_ok {P : Program} {w0 : World} {Pr : Nat → Prop} {a b : CallF} (ha : CallOk P w0 Pr a) (hb : CallOk P w0 Pr b) : CallOk P w0 Pr (orElse a b) := by
  intro f args H v H' h
  unfold orElse at h
  cases h1 : a f args H with
  | some r => rw [h1] at h; simp at h; subst h; exact ha f args H v H' h1
  | none => rw [h1] at h; simp at h; exact hb f args H v H' h

end Go.Dv
