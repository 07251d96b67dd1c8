/- The fourth layer of known calls: race.Valid's closure (own work). -/
import Derived.Test.YtepcdjpenahnpaaT24
namespace Go.Dv
open Go.Proofs
set_option maxRecDepth 100000
def S51 : List AV → Option AV
  | [.agg [.int .i64 sp, .int .i64 bl, .int .i64 ce, .int .i64 th, .int .i64 ki, .int .i64 ph]] => some (.bool (badB sp bl ce th ki ph))
  | _ => none
def tbl3 : List (FuncId × (List AV → Option AV)) := [(51, S51)]
theorem tbl3_ok : ∀ e ∈ tbl3, ∀ args v, e.2 args = some v → (toVs args).isSome = true ∧ (toV v).isSome = true ∧ ∃ H', Ev Try.prog C2 e.1 args [] = some (v, H') := by
  intro e he args v h
  simp only [tbl3, List.mem_cons, List.not_mem_nil, or_false] at he
  subst he
  simp only [S51] at h
  split at h
  · rename_i sp bl ce th ki ph
    cases h
    obtain ⟨L, hL⟩ := bad_ev [] sp bl ce th ki ph
    exact ⟨rfl, rfl, _, hL⟩
  · cases h
noncomputable def C3 : Cfg Try.prog := known (orElse C2.orc (pureOrc tbl3)) (fun w0 Pr => orElse_ok (C2.orcOk w0 Pr) (pureOrc_ok tbl3_ok w0 Pr))
theorem orc3 {f : FuncId} (h : f ∉ [15, 44, 47, 25, 64, 65, 24, 49, 52, 51]) (args : List AV) (H : AH) : C3.orc f args H = none := by
  have e1 := orc2 (fun g => h (List.mem_append_left [51] g)) args H
  have h1 : f ≠ 51 := fun e => h (by simp [e])
  have e2 : pureOrc tbl3 f args H = none := by simp [pureOrc, tbl3, h1]
  show ((C2.orc f args H).or (pureOrc tbl3 f args H)) = none
  rw [e1, e2]; rfl
theorem k3_bad (H : AH) (sp bl ce th ki ph : Int) : Ev Try.prog C3 51 [evt sp bl ce th ki ph] H = some (.bool (badB sp bl ce th ki ph), H) := Ev_orc rfl
theorem k3_cell (H : AH) (sp bl ce th ki : Int) : Ev Try.prog C3 44 [acc sp bl ce th ki] H = some (.agg [I sp, I (bif decide (sp < 0) then bl else 0), I ce], H) := Ev_orc rfl
theorem k3_clash (H : AH) (sp bl ce th ki ph sp' bl' ce' th' ki' ph' : Int) : Ev Try.prog C3 47 [evt sp bl ce th ki ph, evt sp' bl' ce' th' ki' ph'] H = some (.bool (clashB bl th ki ph bl' th' ki' ph'), H) := Ev_orc rfl
theorem k3_race (H : AH) (sp bl ce th ki ph sp' bl' ce' th' ki' ph' : Int) : Ev Try.prog C3 24 [evt sp bl ce th ki ph, evt sp' bl' ce' th' ki' ph'] H = some (.bool (raceB sp bl ce th ki ph sp' bl' ce' th' ki' ph'), H) := Ev_orc rfl
theorem k3_folds_ref (H : AH) (n : Int) : Ev Try.prog C3 49 [I n] H = some (.bool (foldsB n), H) := Ev_orc rfl
theorem k3_awake (H : AH) : Ev Try.prog C3 15 [] H = some (.bool true, H) := Ev_orc rfl
end Go.Dv
