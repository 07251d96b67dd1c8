/- The third layer of known calls; what makes one access invalid (printed by sym.py, own work). -/
import Derived.Test.YtepcdjpenahnpaaT22
namespace Go.Dv
open Go.Proofs
set_option maxRecDepth 100000
set_option linter.unusedSimpArgs false
set_option linter.unusedVariables false
def S24 : List AV → Option AV
  | [.agg [.int .i64 sp, .int .i64 bl, .int .i64 ce, .int .i64 th, .int .i64 ki, .int .i64 ph], .agg [.int .i64 sp', .int .i64 bl', .int .i64 ce', .int .i64 th', .int .i64 ki', .int .i64 ph']] => some (.bool (raceB sp bl ce th ki ph sp' bl' ce' th' ki' ph'))
  | _ => none
def S49 : List AV → Option AV
  | [.int .i64 n] => some (.bool (foldsB n))
  | _ => none
def tbl2 : List (FuncId × (List AV → Option AV)) := [(24, S24), (49, S49), (52, S49)]
theorem tbl2_ok : ∀ e ∈ tbl2, ∀ args v, e.2 args = some v → (toVs args).isSome = true ∧ (toV v).isSome = true ∧ ∃ H', Ev Try.prog C1 e.1 args [] = some (v, H') := by
  intro e he args v h
  simp only [tbl2, List.mem_cons, List.not_mem_nil, or_false] at he
  rcases he with rfl | rfl | rfl
  · simp only [S24] at h
    split at h
    · rename_i sp bl ce th ki ph sp' bl' ce' th' ki' ph'
      cases h
      obtain ⟨L, hL⟩ := race_ev [] sp bl ce th ki ph sp' bl' ce' th' ki' ph'
      exact ⟨rfl, rfl, _, hL⟩
    · cases h
  · simp only [S49] at h
    split at h
    · rename_i n
      cases h
      obtain ⟨L, hL⟩ := folds_ref_ev [] n
      exact ⟨rfl, rfl, _, hL⟩
    · cases h
  · simp only [S49] at h
    split at h
    · rename_i n
      cases h
      obtain ⟨L, hL⟩ := folds_ev [] n
      exact ⟨rfl, rfl, _, hL⟩
    · cases h
noncomputable def C2 : Cfg Try.prog := known (orElse (orElse (trueOrc [15]) (pureOrc tbl1)) (pureOrc tbl2)) (fun w0 Pr => orElse_ok (orElse_ok (trueOrc_ok awake_runs w0 Pr) (pureOrc_ok tbl1_ok w0 Pr)) (pureOrc_ok tbl2_ok w0 Pr))
theorem orc2 {f : FuncId} (h : f ∉ [15, 44, 47, 25, 64, 65, 24, 49, 52]) (args : List AV) (H : AH) : C2.orc f args H = none := by
  have h0 : f ∉ [15, 44, 47, 25, 64, 65] := fun g => h (List.mem_append_left [24, 49, 52] g)
  have e1 := orc1 h0 args H
  simp only [List.mem_cons, List.not_mem_nil, or_false, not_or] at h
  obtain ⟨_, _, _, _, _, _, h7, h8, h9⟩ := h
  have e2 : pureOrc tbl2 f args H = none := by simp [pureOrc, tbl2, h7, h8, h9]
  show ((C1.orc f args H).or (pureOrc tbl2 f args H)) = none
  rw [e1, e2]; rfl
theorem k2_cell (H : AH) (sp bl ce th ki : Int) : Ev Try.prog C2 44 [acc sp bl ce th ki] H = some (.agg [I sp, I (bif decide (sp < 0) then bl else 0), I ce], H) := Ev_orc rfl
theorem k2_clash (H : AH) (sp bl ce th ki ph sp' bl' ce' th' ki' ph' : Int) : Ev Try.prog C2 47 [evt sp bl ce th ki ph, evt sp' bl' ce' th' ki' ph'] H = some (.bool (clashB bl th ki ph bl' th' ki' ph'), H) := Ev_orc rfl
theorem k2_same (H : AH) (sp bl ce th ki sp' bl' ce' th' ki' : Int) : Ev Try.prog C2 25 [acc sp bl ce th ki, acc sp' bl' ce' th' ki'] H = some (.bool (sameB sp bl ce sp' bl' ce'), H) := Ev_orc rfl
theorem k2_race (H : AH) (sp bl ce th ki ph sp' bl' ce' th' ki' ph' : Int) : Ev Try.prog C2 24 [evt sp bl ce th ki ph, evt sp' bl' ce' th' ki' ph'] H = some (.bool (raceB sp bl ce th ki ph sp' bl' ce' th' ki' ph'), H) := Ev_orc rfl
theorem k2_folds_ref (H : AH) (n : Int) : Ev Try.prog C2 49 [I n] H = some (.bool (foldsB n), H) := Ev_orc rfl
theorem k2_folds (H : AH) (n : Int) : Ev Try.prog C2 52 [I n] H = some (.bool (foldsB n), H) := Ev_orc rfl
theorem k2_awake (H : AH) : Ev Try.prog C2 15 [] H = some (.bool true, H) := Ev_orc rfl
end Go.Dv
