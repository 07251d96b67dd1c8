/- Orders that come together again: a plan in parts (own work). -/
import Derived.Test.YtepcdjpenahnpaaDv22

namespace Go.Dv

mutual
/-- a plan, and another one behind each of its ends -/
def graft : Plan → Plan → Plan
  | .done, q => q
  | .take i p, q => .take i (graft p q)
  | .all l, q => .all (graftL l q)
def graftL : List (Nat × Plan) → Plan → List (Nat × Plan)
  | [], _ => []
  | (i, p) :: l, q => (i, graft p q) :: graftL l q
end

section
variable {P : Program} {C : Cfg P}

mutual
theorem graft_run (call : CallF) (base : Nat) (ops : Array Oper) (q : Plan) : ∀ (p : Plan) (s t : St), runPlan P C call base ops p s = some t → runPlan P C call base ops (graft p q) s = runPlan P C call base ops q t
  | .done, s, t, h => by
    simp only [runPlan, Option.some.injEq] at h
    subst h
    simp only [graft]
  | .take i p, s, t, h => by
    simp only [graft, runPlan] at h ⊢
    split at h
    · cases h
    · simp only [Option.bind_eq_some_iff] at h
      obtain ⟨v, hv, h⟩ := h
      rw [hv]
      exact graft_run call base ops q p _ t h
  | .all l, s, t, h => by
    simp only [graft, runPlan] at h ⊢
    cases l with
    | nil => simp only [runAll] at h; cases h
    | cons x l =>
      cases hq : runPlan P C call base ops q t with
      | none => exact graft_none call base ops q (x :: l) s t h (by simp) hq
      | some u => exact graft_some call base ops q (x :: l) s t u h (by simp) hq
theorem graft_some (call : CallF) (base : Nat) (ops : Array Oper) (q : Plan) : ∀ (l : List (Nat × Plan)) (s t u : St), runAll P C call base ops l s none = some t → l ≠ [] → runPlan P C call base ops q t = some u → runAll P C call base ops (graftL l q) s none = some u
  | [], _, _, _, _, hn, _ => absurd rfl hn
  | (i, p) :: l, s, t, u, h, _, hq => by
    simp only [graftL, runAll] at h ⊢
    simp only [Option.bind_eq_some_iff] at h
    obtain ⟨s', hs, t0, ht, h⟩ := h
    have e := runAll_same call base ops l s t0 t h
    subst e
    rw [hs]
    simp only [Option.bind_some]
    rw [graft_run call base ops q p s' t0 ht, hq]
    exact graft_rest call base ops q l s t0 u h hq
theorem graft_rest (call : CallF) (base : Nat) (ops : Array Oper) (q : Plan) : ∀ (l : List (Nat × Plan)) (s t u : St), runAll P C call base ops l s (some t) = some t → runPlan P C call base ops q t = some u → runAll P C call base ops (graftL l q) s (some u) = some u
  | [], _, _, _, _, _ => by simp only [graftL, runAll]
  | (i, p) :: l, s, t, u, h, hq => by
    simp only [graftL, runAll] at h ⊢
    simp only [Option.bind_eq_some_iff] at h
    obtain ⟨s', hs, t0, ht, h⟩ := h
    split at h
    · rename_i he
      have e := stBeq_eq he
      subst e
      rw [hs]
      simp only [Option.bind_some]
      rw [graft_run call base ops q p s' t ht, hq]
      simp only [Option.bind_some, stBeq_self, if_true]
      exact graft_rest call base ops q l s t u h hq
    · cases h
theorem graft_none (call : CallF) (base : Nat) (ops : Array Oper) (q : Plan) : ∀ (l : List (Nat × Plan)) (s t : St), runAll P C call base ops l s none = some t → l ≠ [] → runPlan P C call base ops q t = none → runAll P C call base ops (graftL l q) s none = none
  | [], _, _, _, hn, _ => absurd rfl hn
  | (i, p) :: l, s, t, h, _, hq => by
    simp only [graftL, runAll] at h ⊢
    simp only [Option.bind_eq_some_iff] at h
    obtain ⟨s', hs, t0, ht, h⟩ := h
    have e := runAll_same call base ops l s t0 t h
    subst e
    rw [hs]
    simp only [Option.bind_some]
    rw [graft_run call base ops q p s' t0 ht, hq]
    rfl
theorem runAll_same (call : CallF) (base : Nat) (ops : Array Oper) : ∀ (l : List (Nat × Plan)) (s t0 t : St), runAll P C call base ops l s (some t0) = some t → t0 = t
  | [], _, _, _, h => by simp only [runAll, Option.some.injEq] at h; exact h
  | (i, p) :: l, s, t0, t, h => by
    simp only [runAll] at h
    simp only [Option.bind_eq_some_iff] at h
    obtain ⟨s', hs, t1, ht, h⟩ := h
    split at h
    · exact runAll_same call base ops l s t0 t h
    · cases h
end

/-- a plan in parts -/
def runG (P : Program) (C : Cfg P) (call : CallF) (base : Nat) (ops : Array Oper) (p q : Plan) (s : St) : Option St := runPlan P C call base ops (graft p q) s

theorem rp_graft (call : CallF) (base : Nat) (ops : Array Oper) (p q : Plan) (s : St) : runPlan P C call base ops (graft p q) s =
    match runPlan P C call base ops p s with
    | some t => runPlan P C call base ops q t
    | none => runG P C call base ops p q s := by
  split
  · rename_i t h; exact graft_run call base ops q p s t h
  · rfl

end
end Go.Dv
