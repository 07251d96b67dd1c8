/- The law ImageTrace: image.Trace gives the pages of a list of accesses, as the reference does; for every list. Conditions: none beyond the row's own (each slice and string of a size that a 64-bit machine can reach). Own work; the shell after the kit's template for rows. -/
import Derived.Test.YtepcdjpenahnpaaT9
import Derived.Test.YtepcdjpenahnpaaRows
namespace Go.Proofs.Ytepcdjpenahnpaa.imageTrace
open Go.ChangeShapes Go.WideShapes Go.ChangeAt Go.RowKit Go.Dv
open Go.ChangeMaps (open_string shut_string)
set_option linter.unusedVariables false

theorem own : ownKnob Try.prog.godebug = none := by kernel_rfl
theorem laidOut : laidOutB Try.prog = true := by kernel_rfl
theorem params10 : Try.f10.params.toList = [22] := by kernel_rfl
theorem bytes36 : Try.prog.bytesOf 36 = 48 := by kernel_rfl

theorem walk (W : World) (a : Option Addr) (len cap : Nat) (l : List E6) (h : InRow W a len cap l) (hl : len < 2 ^ 42) :
    Calls Try.prog 10 #[.slice a len cap] W fun e W' => e = .returned (.bool true) ∧ Below W.heap.size W W' := by
  obtain ⟨φ, H, v, hW, hv, hE, hlen⟩ := start_events W h
  obtain ⟨H', he⟩ := law_ev H v (l.take len) (by omega) hE
  refine (Ev_sound 10 [v] H _ H' he φ W #[.slice a len cap] hW (VRs.one hv)).mono fun e W' h => ?_
  obtain ⟨φ', u, _, rfl, hu, hW'⟩ := h
  rw [show u = .bool true from hu]
  exact ⟨rfl, hW'.os, hW'.tape, hW'.output, hW'.size, hW'.old⟩

theorem sized_events {H : Type} {enc : TypeId × Value → H} {W : World} {base : Nat} {held : Bool} {a : Option Addr} {len cap : Nat} {d : DataW H} {ps : List MemPlace} {ts : List TypeId} {ds : List (DataW H)} {j : Nat}
    (hsz : (DataW.weightsEach Try.prog ts ds).all (· ≤ reachBytes) = true) (ht : ts[j]? = some 22) (hd : ds[j]? = some d)
    (h : DataW.Trod enc Try.prog W base (fun _ => true) held 22 (.slice a len cap) d ps) : len < 2 ^ 42 := by
  obtain ⟨fuel, hf⟩ := h
  rcases DataW.trod_slice und22 hf with ⟨hcs, _⟩ | ⟨x, l, c, elems, rest, n, _, hcs, hx, _, hl, _, hel, _⟩
  · simp [Value.cells] at hcs
    omega
  · simp [Value.cells] at hcs
    obtain ⟨rfl, rfl, rfl⟩ := hcs
    obtain ⟨hx, _⟩ := Prod.mk.inj hx
    subst hx
    have z := sized_slice hsz ht hd und22
    rw [bytes36] at z
    have := reachBytes_lt
    simp at z
    omega

set_option maxRecDepth 100000 in
theorem lifted (os : Os) (started : os.Started) (H : Type) (enc : TypeId × Value → H) :
    ReturnsInHanded {} Try.checked os 10 .any (Rows.imageTraceSpec.pre6 enc Try.prog Try.f10 Rows.imageTraceRow.domain false) (Rows.imageTraceSpec.post enc Try.prog Try.f10 false true false false) := by
  refine returnsInHanded_of_change_sized (C := Try.checked) own started (by kernel_rfl) Try.func10
    (ChangeSpec.witness6 (enc := enc) (C := Try.checked) false ⟨#[], #[.slice none 0 0], []⟩ 8 (by kernel_rfl) (by kernel_rfl) (by kernel_rfl) (by kernel_rfl)) ?_
  intro W base args ds gs before hval0 hW hcnd hsz0 _
  have hsz : (DataW.weightsEach Try.prog (Try.f10.params.toList ++ Rows.imageTraceSpec.plain.varTypes Try.prog) (ds ++ gs)).all (· ≤ reachBytes) = true := hsz0
  have hval : ∀ (j : Nat) t v, Try.f10.params[j]? = some t → args[j]? = some v → Value.okWide Try.prog W .any base t v := hval0
  have hW' := hW
  obtain ⟨p, q, hA0, hV, rfl, hfz, hnd⟩ := hW
  have hA : DataW.TrodAll enc Try.prog W 0 (fun _ => true) true Try.f10.params.toList args.toList ds p := hA0
  rw [params10] at hA hsz
  obtain ⟨v0, vs0, d0, ds0, p0, q0, hargs, rfl, rfl, h0, r0⟩ := trodAll_cons hA
  obtain ⟨rfl, rfl, rfl⟩ := trodAll_nil r0
  obtain rfl : args = #[v0] := by cases args; simp_all
  obtain ⟨rfl, rfl⟩ := trodVars_none hV
  obtain ⟨a0, len0, cap0, rfl⟩ := okWide_slice und22 (hval 0 22 v0 rfl rfl)
  have k0 := h0
  have lt0 : ∀ x ∈ p0, x.block < W.heap.size := by obtain ⟨m, hm⟩ := k0; exact DataW.trod_lt m _ _ _ hm
  obtain ⟨z0, w0⟩ : ∃ zs, InRow W a0 len0 cap0 zs := by
    obtain ⟨fuel, hf⟩ := h0
    exact open_events hf
  have y0 : len0 < 2 ^ 42 := sized_events hsz (j := 0) rfl rfl h0
  clear hA0 hval0 hsz0 hsz
  refine (walk W a0 len0 cap0 z0 w0 y0).mono fun e W' ⟨he, bel⟩ => ?_
  subst he
  exact ⟨_, rfl, _, _, _, [], _, [], hW', trodAll_mk1 (shut_bool und4 _), (trodAll_cons_mk (Below.trod laidOut (by kernel_rfl) (of_decide_eq_true (by kernel_rfl)) k0 bel lt0) trodAll_mk0), rfl, bel.frame _, fun h => by cases h⟩

theorem over : Rows.imageTraceRow.holds Try.pinned (OpenSpec.ofChange Rows.imageTraceSpec) :=
  OpenClaim.holds_of_wide 10 Try.f10 rfl rfl rfl rfl rfl rfl rfl ⟨rfl, rfl, rfl, rfl, rfl⟩ rfl rfl rfl rfl rfl (by kernel_rfl) Try.func10 (by kernel_rfl)
    (of_decide_eq_true (by kernel_rfl)) (by unfold Func.isWrapper; first | (rw [if_pos (by decide +kernel)]; kernel_rfl) | (rw [if_neg (by decide +kernel)]; exact ⟨rfl, rfl⟩))
    (fun os started H enc _ => lifted os started H enc)
end Go.Proofs.Ytepcdjpenahnpaa.imageTrace
namespace Go.Proofs.Ytepcdjpenahnpaa
/-- The row, under a short name, for the claim. -/
theorem imageTrace_holds : Rows.ImageTraceSaid := imageTrace.over
#print axioms imageTrace_holds
end Go.Proofs.Ytepcdjpenahnpaa
