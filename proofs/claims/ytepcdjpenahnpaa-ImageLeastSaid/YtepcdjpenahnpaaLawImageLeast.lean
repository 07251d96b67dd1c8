/- The law ImageLeast: image.Least gives the least number of faults of all ways to choose pages, and the errors of bad arguments; for every trace of at most 14 pages or more than 400 (the law lets the others by) and every number of frames. Conditions: none beyond the row's own (each slice and string of a size that a 64-bit machine can reach). Own work; the shell after the kit's template for rows. -/
import Derived.Test.YtepcdjpenahnpaaMI8
import Derived.Test.YtepcdjpenahnpaaRows
namespace Go.Proofs.Ytepcdjpenahnpaa.imageLeast
open Go.ChangeShapes Go.WideShapes Go.ChangeAt Go.RowKit Go.Dv
open Go.ChangeMaps (open_string shut_string)
set_option linter.unusedVariables false

theorem own : ownKnob Try.prog.godebug = none := by kernel_rfl
theorem laidOut : laidOutB Try.prog = true := by kernel_rfl
theorem params8 : Try.f8.params.toList = [46, 3] := by kernel_rfl
theorem walk (W : World) (a : Option Addr) (len cap : Nat) (l : List Int) (h : InRow W a len cap l) (hin : ∀ z ∈ l, inI z) (n1 : Int) :
    Calls Try.prog 8 #[.slice a len cap, .int .i64 n1] W fun e W' => e = .returned (.bool true) ∧ Below W.heap.size W W' := by
  obtain ⟨φ, H, v, hW, hv, hE⟩ := start_intv W h
  obtain ⟨H', he⟩ := law8_ev hE (fun x hx => hin x (List.mem_of_mem_take hx)) n1
  refine (Ev_sound 8 [v, .int .i64 n1] H _ H' he φ W #[.slice a len cap, .int .i64 n1] hW (VRs.cons hv (VRs.one rfl))).mono fun e W' h => ?_
  obtain ⟨φ', u, _, rfl, hu, hW'⟩ := h
  rw [show u = .bool true from hu]
  exact ⟨rfl, hW'.os, hW'.tape, hW'.output, hW'.size, hW'.old⟩

set_option maxRecDepth 100000 in
theorem lifted (os : Os) (started : os.Started) (H : Type) (enc : TypeId × Value → H) :
    ReturnsInHanded {} Try.checked os 8 .any (Rows.imageLeastSpec.pre6 enc Try.prog Try.f8 Rows.imageLeastRow.domain false) (Rows.imageLeastSpec.post enc Try.prog Try.f8 false true false false) := by
  refine returnsInHanded_of_change_sized (C := Try.checked) own started (by kernel_rfl) Try.func8
    (ChangeSpec.witness6 (enc := enc) (C := Try.checked) false ⟨#[], #[.slice none 0 0, .int .i64 0], []⟩ 8 (by kernel_rfl) (by kernel_rfl) (by kernel_rfl) (by kernel_rfl)) ?_
  intro W base args ds gs before hval0 hW hcnd hsz0 _
  have hval : ∀ (j : Nat) t v, Try.f8.params[j]? = some t → args[j]? = some v → Value.okWide Try.prog W .any base t v := hval0
  have hW' := hW
  obtain ⟨p, q, hA0, hV, rfl, hfz, hnd⟩ := hW
  have hA : DataW.TrodAll enc Try.prog W 0 (fun _ => true) true Try.f8.params.toList args.toList ds p := hA0
  rw [params8] at hA
  obtain ⟨v0, vs0, d0, ds0, p0, q0, hargs, rfl, rfl, h0, r0⟩ := trodAll_cons hA
  obtain ⟨v1, vs1, d1, ds1, p1, q1, hargs1, rfl, rfl, h1, r1⟩ := trodAll_cons r0
  obtain ⟨rfl, rfl, rfl⟩ := trodAll_nil r1
  obtain rfl : args = #[v0, v1] := by cases args; simp_all
  obtain ⟨rfl, rfl⟩ := trodVars_none hV
  obtain ⟨n1, rfl, rfl, rfl, wn1⟩ := open_int und3 (hval 1 3 v1 rfl rfl) h1
  obtain ⟨a0, len0, cap0, rfl⟩ := okWide_slice un46 (hval 0 46 v0 rfl rfl)
  have k0 := h0
  have lt0 : ∀ x ∈ p0, x.block < W.heap.size := by obtain ⟨m, hm⟩ := k0; exact DataW.trod_lt m _ _ _ hm
  obtain ⟨z0, w0, i0⟩ : ∃ zs, InRow W a0 len0 cap0 zs ∧ ∀ z ∈ zs, inI z := by
    obtain ⟨fuel, hf⟩ := h0
    exact open_rowI hf
  clear hA0 hval0 hsz0
  refine (walk W a0 len0 cap0 z0 w0 i0 n1).mono fun e W' ⟨he, bel⟩ => ?_
  subst he
  exact ⟨_, rfl, _, _, _, [], _, [], hW', trodAll_mk1 (shut_bool und4 _), (trodAll_cons_mk (Below.trod laidOut (by kernel_rfl) (of_decide_eq_true (by kernel_rfl)) k0 bel lt0) (trodAll_cons_mk (shut_int und3 wn1) trodAll_mk0)), rfl, bel.frame _, fun h => by cases h⟩

theorem over : Rows.imageLeastRow.holds Try.pinned (OpenSpec.ofChange Rows.imageLeastSpec) :=
  OpenClaim.holds_of_wide 8 Try.f8 rfl rfl rfl rfl rfl rfl rfl ⟨rfl, rfl, rfl, rfl, rfl⟩ rfl rfl rfl rfl rfl (by kernel_rfl) Try.func8 (by kernel_rfl)
    (of_decide_eq_true (by kernel_rfl)) (by unfold Func.isWrapper; first | (rw [if_pos (by decide +kernel)]; kernel_rfl) | (rw [if_neg (by decide +kernel)]; exact ⟨rfl, rfl⟩))
    (fun os started H enc _ => lifted os started H enc)
end Go.Proofs.Ytepcdjpenahnpaa.imageLeast
namespace Go.Proofs.Ytepcdjpenahnpaa
/-- The row, under a short name, for the claim. -/
theorem imageLeast_holds : Rows.ImageLeastSaid := imageLeast.over
#print axioms imageLeast_holds
end Go.Proofs.Ytepcdjpenahnpaa
