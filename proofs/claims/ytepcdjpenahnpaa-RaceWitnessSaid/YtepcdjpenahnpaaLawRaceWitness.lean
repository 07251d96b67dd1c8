/- The law RaceWitness: race.Witness gives the first two accesses of a list that are such a race as the one that is asked for, as the reference does; for every list (the law itself asks it of at most 150 accesses) and every pair of accesses. Conditions: none beyond the row's own (each slice and string of a size that a 64-bit machine can reach). Own work; the shell after the kit's template for rows. -/
import Derived.Test.YtepcdjpenahnpaaT36
import Derived.Test.YtepcdjpenahnpaaRows
namespace Go.Proofs.Ytepcdjpenahnpaa.raceWitness
open Go.ChangeShapes Go.WideShapes Go.ChangeAt Go.RowKit Go.Dv
open Go.ChangeMaps (open_string shut_string)
set_option linter.unusedVariables false

theorem own : ownKnob Try.prog.godebug = none := by kernel_rfl
theorem laidOut : laidOutB Try.prog = true := by kernel_rfl
theorem params6 : Try.f6.params.toList = [22, 38] := by kernel_rfl
theorem bytes36 : Try.prog.bytesOf 36 = 48 := by kernel_rfl

theorem struct38 : ∃ fs, Try.prog.underlying 38 = some (.struct fs) := by
  have h : (match Try.prog.underlying 38 with | some (.struct _) => true | _ => false) = true := by kernel_rfl
  split at h
  · rename_i fs e
    exact ⟨fs, e⟩
  · cases h

theorem walk (W : World) (a : Option Addr) (len cap : Nat) (l : List E6) (h : InRow W a len cap l) (hl : len < 2 ^ 42) (ra rb : E6) (cs : Array Value) (hcs : cs.toList = ra.vals5 ++ rb.vals5) :
    Calls Try.prog 6 #[.slice a len cap, .agg cs] W fun e W' => e = .returned (.bool true) ∧ Below W.heap.size W W' := by
  obtain ⟨φ, H, v, hW, hv, hE, hlen⟩ := start_events W h
  obtain ⟨H', he⟩ := law6_ev H v (l.take len) ra rb (by omega) hE
  refine (Ev_sound 6 [v, .agg (rcells ra rb)] H _ H' he φ W #[.slice a len cap, .agg cs] hW (VRs.cons hv (VRs.one (VR_race ra rb cs hcs)))).mono fun e W' h => ?_
  obtain ⟨φ', u, _, rfl, hu, hW'⟩ := h
  rw [show u = .bool true from hu]
  exact ⟨rfl, hW'.os, hW'.tape, hW'.output, hW'.size, hW'.old⟩

theorem sized_events {H : Type} {enc : TypeId × Value → H} {W : World} {base : Nat} {held : Bool} {a : Option Addr} {len cap : Nat} {d : DataW H} {ps : List MemPlace} {ts : List TypeId} {ds : List (DataW H)} {j : Nat}
    (hsz : (DataW.weightsEach Try.prog ts ds).all (· ≤ reachBytes) = true) (ht : ts[j]? = some 22) (hd : ds[j]? = some d)
    (h : DataW.Trod enc Try.prog W base (fun _ => true) held 22 (.slice a len cap) d ps) : len < 2 ^ 42 := by
  obtain ⟨fuel, hf⟩ := h
  rcases DataW.trod_slice und22 hf with ⟨hcs, _⟩ | ⟨x, l, c, elems, rest, n, _, hcs, hx, _, hl, _, hel, _⟩
  · simp [Value.cells] at hcs
    omega
  · simp [Value.cells] at hcs
    obtain ⟨rfl, rfl, rfl⟩ := hcs
    obtain ⟨hx, _⟩ := Prod.mk.inj hx
    subst hx
    have z := sized_slice hsz ht hd und22
    rw [bytes36] at z
    have := reachBytes_lt
    simp at z
    omega

set_option maxRecDepth 100000 in
theorem lifted (os : Os) (started : os.Started) (H : Type) (enc : TypeId × Value → H) :
    ReturnsInHanded {} Try.checked os 6 .any (Rows.raceWitnessSpec.pre6 enc Try.prog Try.f6 Rows.raceWitnessRow.domain false) (Rows.raceWitnessSpec.post enc Try.prog Try.f6 false true false false) := by
  refine returnsInHanded_of_change_sized (C := Try.checked) own started (by kernel_rfl) Try.func6
    (ChangeSpec.witness6 (enc := enc) (C := Try.checked) false ⟨#[], #[.slice none 0 0, .agg #[.int .i64 0, .int .i64 0, .int .i64 0, .int .i64 0, .int .i64 0, .int .i64 0, .int .i64 0, .int .i64 0, .int .i64 0, .int .i64 0]], []⟩ 8 (by kernel_rfl) (by kernel_rfl) (by kernel_rfl) (by kernel_rfl)) ?_
  intro W base args ds gs before hval0 hW hcnd hsz0 _
  have hsz : (DataW.weightsEach Try.prog (Try.f6.params.toList ++ Rows.raceWitnessSpec.plain.varTypes Try.prog) (ds ++ gs)).all (· ≤ reachBytes) = true := hsz0
  have hval : ∀ (j : Nat) t v, Try.f6.params[j]? = some t → args[j]? = some v → Value.okWide Try.prog W .any base t v := hval0
  have hW' := hW
  obtain ⟨p, q, hA0, hV, rfl, hfz, hnd⟩ := hW
  have hA : DataW.TrodAll enc Try.prog W 0 (fun _ => true) true Try.f6.params.toList args.toList ds p := hA0
  rw [params6] at hA hsz
  obtain ⟨v0, vs0, d0, ds0, p0, q0, hargs, rfl, rfl, h0, r0⟩ := trodAll_cons hA
  obtain ⟨v1, vs1, d1, ds1, p1, q1, hargs1, rfl, rfl, h1, r1⟩ := trodAll_cons r0
  obtain ⟨rfl, rfl, rfl⟩ := trodAll_nil r1
  obtain rfl : args = #[v0, v1] := by cases args; simp_all
  obtain ⟨rfl, rfl⟩ := trodVars_none hV
  obtain ⟨a0, len0, cap0, rfl⟩ := okWide_slice und22 (hval 0 22 v0 rfl rfl)
  obtain ⟨fs38, und38⟩ := struct38
  obtain ⟨cs1, rfl, _⟩ := okWide_struct und38 (hval 1 38 v1 rfl rfl)
  have k1 := h1
  have lt1 : ∀ x ∈ p1, x.block < W.heap.size := by obtain ⟨m, hm⟩ := k1; exact DataW.trod_lt m _ _ _ hm
  obtain ⟨ra, rb, hcs⟩ : ∃ a b : E6, cs1.toList = a.vals5 ++ b.vals5 := by
    obtain ⟨fuel, hf⟩ := h1
    exact trod_race hf
  have k0 := h0
  have lt0 : ∀ x ∈ p0, x.block < W.heap.size := by obtain ⟨m, hm⟩ := k0; exact DataW.trod_lt m _ _ _ hm
  obtain ⟨z0, w0⟩ : ∃ zs, InRow W a0 len0 cap0 zs := by
    obtain ⟨fuel, hf⟩ := h0
    exact open_events hf
  have y0 : len0 < 2 ^ 42 := sized_events hsz (j := 0) rfl rfl h0
  clear hA0 hval0 hsz0 hsz
  refine (walk W a0 len0 cap0 z0 w0 y0 ra rb cs1 hcs).mono fun e W' ⟨he, bel⟩ => ?_
  subst he
  exact ⟨_, rfl, _, _, _, [], _, [], hW', trodAll_mk1 (shut_bool und4 _), (trodAll_cons_mk (Below.trod laidOut (by kernel_rfl) (of_decide_eq_true (by kernel_rfl)) k0 bel lt0) (trodAll_cons_mk (Below.trod laidOut (by kernel_rfl) (of_decide_eq_true (by kernel_rfl)) k1 bel lt1) trodAll_mk0)), rfl, bel.frame _, fun h => by cases h⟩

theorem over : Rows.raceWitnessRow.holds Try.pinned (OpenSpec.ofChange Rows.raceWitnessSpec) :=
  OpenClaim.holds_of_wide 6 Try.f6 rfl rfl rfl rfl rfl rfl rfl ⟨rfl, rfl, rfl, rfl, rfl⟩ rfl rfl rfl rfl rfl (by kernel_rfl) Try.func6 (by kernel_rfl)
    (of_decide_eq_true (by kernel_rfl)) (by unfold Func.isWrapper; first | (rw [if_pos (by decide +kernel)]; kernel_rfl) | (rw [if_neg (by decide +kernel)]; exact ⟨rfl, rfl⟩))
    (fun os started H enc _ => lifted os started H enc)
end Go.Proofs.Ytepcdjpenahnpaa.raceWitness
namespace Go.Proofs.Ytepcdjpenahnpaa
/-- The row, under a short name, for the claim. -/
theorem raceWitness_holds : Rows.RaceWitnessSaid := raceWitness.over
#print axioms raceWitness_holds
end Go.Proofs.Ytepcdjpenahnpaa
