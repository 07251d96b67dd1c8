/- The evaluator without a bound on rounds and depth: equations to reckon with (own work). -/
import Derived.Test.YtepcdjpenahnpaaDv15

namespace Go.Dv

def Mono {α : Type} (g : Nat → Option α) : Prop := ∀ n r, g n = some r → g (n + 1) = some r
theorem Mono.le {α : Type} {g : Nat → Option α} (h : Mono g) {n m : Nat} (hnm : n ≤ m) {r : α} (hr : g n = some r) : g m = some r := by
  induction hnm with
  | refl => exact hr
  | step _ ih => exact h _ _ ih

open Classical in
noncomputable def lim {α : Type} (g : Nat → Option α) : Option α := if h : ∃ n r, g n = some r then some (Classical.choose (Classical.choose_spec h)) else none

theorem lim_some {α : Type} {g : Nat → Option α} {r : α} (h : lim g = some r) : ∃ n, g n = some r := by
  unfold lim at h
  split at h
  · rename_i he
    cases h
    exact ⟨_, Classical.choose_spec (Classical.choose_spec he)⟩
  · cases h

theorem lim_of {α : Type} {g : Nat → Option α} (hg : Mono g) {n : Nat} {r : α} (h : g n = some r) : lim g = some r := by
  have he : ∃ n r, g n = some r := ⟨n, r, h⟩
  cases hl : lim g with
  | none => unfold lim at hl; rw [dif_pos he] at hl; cases hl
  | some r' =>
    obtain ⟨m, hm⟩ := lim_some hl
    have h1 := hg.le (Nat.le_max_left n m) h
    have h2 := hg.le (Nat.le_max_right n m) hm
    rw [h1] at h2; cases h2; rfl

theorem lim_none {α : Type} {g : Nat → Option α} (h : lim g = none) (n : Nat) : g n = none := by
  cases hn : g n with
  | none => rfl
  | some r => unfold lim at h; rw [dif_pos ⟨n, r, hn⟩] at h; cases h

theorem lim_eq_none {α : Type} {g : Nat → Option α} (h : ∀ n, g n = none) : lim g = none := by
  cases hl : lim g with
  | none => rfl
  | some r => obtain ⟨n, hn⟩ := lim_some hl; rw [h n] at hn; cases hn

theorem lim_const {α : Type} (x : Option α) : lim (fun _ => x) = x := by
  cases x with
  | none => exact lim_eq_none fun _ => rfl
  | some r => exact lim_of (g := fun _ => some r) (fun _ _ h => h) (n := 0) rfl

theorem mono_bind {α β : Type} {g : Nat → Option α} {k : Nat → α → Option β} (hg : Mono g) (hk : ∀ x, Mono fun n => k n x) : Mono fun n => (g n).bind (k n) := fun n r h => by
  simp only [Option.bind_eq_some_iff] at h ⊢
  obtain ⟨x, hx, hr⟩ := h
  exact ⟨x, hg n x hx, hk x n r hr⟩

theorem lim_bind {α β : Type} {g : Nat → Option α} {k : Nat → α → Option β} (hg : Mono g) (hk : ∀ x, Mono fun n => k n x) :
    lim (fun n => (g n).bind (k n)) = (lim g).bind fun x => lim fun n => k n x := by
  cases h1 : lim g with
  | none => exact lim_eq_none fun n => by rw [lim_none h1 n]; rfl
  | some x =>
    obtain ⟨n1, hn1⟩ := lim_some h1
    simp only [Option.bind_some]
    cases h2 : lim (fun n => k n x) with
    | none =>
      refine lim_eq_none fun n => ?_
      cases hb : (g n).bind (k n) with
      | none => rfl
      | some r =>
        simp only [Option.bind_eq_some_iff] at hb
        obtain ⟨y, hy, hr⟩ := hb
        have e1 := hg.le (Nat.le_max_left n n1) hy
        have e2 := hg.le (Nat.le_max_right n n1) hn1
        rw [e1] at e2; cases e2
        have := lim_none h2 n; rw [hr] at this; cases this
    | some r =>
      obtain ⟨n2, hn2⟩ := lim_some h2
      refine lim_of (mono_bind hg hk) (n := max n1 n2) ?_
      rw [hg.le (Nat.le_max_left n1 n2) hn1]
      exact (hk x).le (Nat.le_max_right n1 n2) hn2

theorem lim_shift {α : Type} {g : Nat → Option α} (hg : Mono g) : lim (fun n => g (n + 1)) = lim g := by
  cases h : lim g with
  | none => exact lim_eq_none fun n => lim_none h _
  | some r =>
    obtain ⟨n, hn⟩ := lim_some h
    exact lim_of (fun n r h => hg (n + 1) r h) (n := n) (hg n r hn)

theorem mono_const {α : Type} (x : Option α) : Mono fun _ => x := fun _ _ h => h

section
variable {P : Program} {C : Cfg P}

/-- a call's answers, one bound after the other -/
def MonoF (c : Nat → CallF) : Prop := ∀ f a H, Mono fun n => c n f a H

noncomputable def limF (c : Nat → CallF) : CallF := fun f a H => lim fun n => c n f a H

theorem stepA_eq (call : CallF) (slot : Option Nat) (ops : Array Oper) (i : Nat) (s : St) : stepA P C call slot ops i s =
    match ops[i]? with
    | none => some s
    | some o => if Region.wanted o (yieldedA ops s.1) then (aop P C slot (evalA s.1) o s.2).bind fun r => match r with
        | (.val v, H') => some (putA o.dst v s.1, H')
        | (.skip, H') => some (putA o.dst undefA s.1, H')
        | (.enter f args, H') => (call f args H').bind fun r => some (putA o.dst r.1 s.1, r.2)
      else some (putA o.dst undefA s.1, s.2) := by
  unfold stepA
  cases ops[i]? with
  | none => rfl
  | some o =>
    simp only
    by_cases hw : Region.wanted o (yieldedA ops s.1) = true
    · rw [if_pos hw, if_pos hw]
      cases aop P C slot (evalA s.1) o s.2 with
      | none => rfl
      | some r =>
        obtain ⟨r, H'⟩ := r
        cases r with
        | val v => rfl
        | skip => rfl
        | enter f args => simp only [Option.bind_some]; cases call f args H' <;> rfl
    · rw [if_neg hw, if_neg hw]

theorem mono_stepA {c : Nat → CallF} (hc : MonoF c) (slot : Option Nat) (ops : Array Oper) (i : Nat) (s : St) : Mono fun n => stepA P C (c n) slot ops i s := by
  simp only [stepA_eq]
  split
  · exact mono_const _
  · split
    · refine mono_bind (mono_const _) fun r => ?_
      obtain ⟨r, H'⟩ := r
      cases r with
      | val v => exact mono_const _
      | skip => exact mono_const _
      | enter f args => exact mono_bind (hc f args H') fun x => mono_const _
    · exact mono_const _

theorem lim_stepA {c : Nat → CallF} (hc : MonoF c) (slot : Option Nat) (ops : Array Oper) (i : Nat) (s : St) : lim (fun n => stepA P C (c n) slot ops i s) = stepA P C (limF c) slot ops i s := by
  simp only [stepA_eq]
  split
  · exact lim_const _
  · split
    · rename_i o ho hw
      cases ha : aop P C slot (evalA s.1) o s.2 with
      | none => exact lim_const _
      | some r =>
        obtain ⟨r, H'⟩ := r
        simp only [Option.bind_some]
        cases r with
        | val v => exact lim_const _
        | skip => exact lim_const _
        | enter f args =>
          show lim (fun n => (c n f args H').bind fun r => some (putA o.dst r.1 s.1, r.2)) = _
          refine (lim_bind (k := fun _ r => some (putA o.dst r.1 s.1, r.2)) (hc f args H') (fun x => mono_const _)).trans ?_
          simp only [lim_const]; rfl
    · exact lim_const _

theorem mono_runOps {c : Nat → CallF} (hc : MonoF c) (ops : Array Oper) : ∀ (is : List Nat) (s : St), Mono fun n => runOps P C (c n) ops is s
  | [], s => mono_const _
  | i :: is, s => by simp only [runOps]; exact mono_bind (mono_stepA hc none ops i s) fun x => mono_runOps hc ops is x

theorem lim_runOps {c : Nat → CallF} (hc : MonoF c) (ops : Array Oper) : ∀ (is : List Nat) (s : St), lim (fun n => runOps P C (c n) ops is s) = runOps P C (limF c) ops is s
  | [], s => lim_const _
  | i :: is, s => by
    simp only [runOps]
    rw [lim_bind (mono_stepA hc none ops i s) fun x => mono_runOps hc ops is x, lim_stepA hc]
    congr 1; funext x; exact lim_runOps hc ops is x

mutual
theorem mono_runPlan {c : Nat → CallF} (hc : MonoF c) (base : Nat) (ops : Array Oper) : ∀ (p : Plan) (s : St), Mono fun n => runPlan P C (c n) base ops p s
  | .done, s => by simp only [runPlan]; exact mono_const _
  | .take i p, s => by
    simp only [runPlan]
    split
    · exact mono_const _
    · exact mono_bind (mono_const _) fun x => mono_runPlan hc base ops p _
  | .all l, s => by simp only [runPlan]; exact mono_runAll hc base ops l s none
theorem mono_runAll {c : Nat → CallF} (hc : MonoF c) (base : Nat) (ops : Array Oper) : ∀ (l : List (Nat × Plan)) (s : St) (r : Option St), Mono fun n => runAll P C (c n) base ops l s r
  | [], s, r => by simp only [runAll]; exact mono_const _
  | (i, p) :: l, s, r => by
    simp only [runAll]
    refine mono_bind (mono_stepA hc _ ops i s) fun s' => mono_bind (mono_runPlan hc base ops p s') fun t => ?_
    split
    · exact mono_runAll hc base ops l s _
    · split
      · exact mono_runAll hc base ops l s _
      · exact mono_const _
end

mutual
theorem lim_runPlan {c : Nat → CallF} (hc : MonoF c) (base : Nat) (ops : Array Oper) : ∀ (p : Plan) (s : St), lim (fun n => runPlan P C (c n) base ops p s) = runPlan P C (limF c) base ops p s
  | .done, s => by simp only [runPlan]; exact lim_const _
  | .take i p, s => by
    simp only [runPlan]
    split
    · exact lim_const _
    · rw [lim_bind (mono_const _) fun x => mono_runPlan hc base ops p _, lim_const]
      congr 1; funext x; exact lim_runPlan hc base ops p _
  | .all l, s => by simp only [runPlan]; exact lim_runAll hc base ops l s none
theorem lim_runAll {c : Nat → CallF} (hc : MonoF c) (base : Nat) (ops : Array Oper) : ∀ (l : List (Nat × Plan)) (s : St) (r : Option St), lim (fun n => runAll P C (c n) base ops l s r) = runAll P C (limF c) base ops l s r
  | [], s, r => by simp only [runAll]; exact lim_const _
  | (i, p) :: l, s, r => by
    simp only [runAll]
    have hm : ∀ (t : St), Mono fun n => (match r with
      | none => runAll P C (c n) base ops l s (some t)
      | some t0 => if stBeq t0 t = true then runAll P C (c n) base ops l s (some t0) else none) := fun t => by
      split
      · exact mono_runAll hc base ops l s _
      · split
        · exact mono_runAll hc base ops l s _
        · exact mono_const _
    refine (lim_bind (k := fun n s' => (runPlan P C (c n) base ops p s').bind fun t => match r with
      | none => runAll P C (c n) base ops l s (some t)
      | some t0 => if stBeq t0 t = true then runAll P C (c n) base ops l s (some t0) else none) (mono_stepA hc _ ops i s) fun s' => mono_bind (mono_runPlan hc base ops p s') hm).trans ?_
    rw [lim_stepA hc]
    congr 1; funext s'
    refine (lim_bind (k := fun n t => match r with
      | none => runAll P C (c n) base ops l s (some t)
      | some t0 => if stBeq t0 t = true then runAll P C (c n) base ops l s (some t0) else none) (mono_runPlan hc base ops p s') hm).trans ?_
    rw [lim_runPlan hc base ops p s']
    congr 1; funext t
    cases r with
    | none => exact lim_runAll hc base ops l s _
    | some t0 =>
      simp only
      by_cases hb : stBeq t0 t = true
      · simp only [if_pos hb]; exact lim_runAll hc base ops l s _
      · simp only [if_neg hb]; exact lim_const _
end

theorem loopA_succ (f : St → Option (AExit × St)) (n : Nat) (s : St) : loopA f (n + 1) s = (f s).bind fun r => match r with
    | (.normal, s') => loopA f n s'
    | r => some r := by
  simp only [loopA]
  split
  · rename_i h; rw [h]; rfl
  · rename_i h
    cases hf : f s with
    | none => rfl
    | some r =>
      obtain ⟨e, s'⟩ := r
      cases e with
      | normal => exact absurd hf (h s')
      | _ => rfl

theorem mono_loopA {f : Nat → St → Option (AExit × St)} (hf : ∀ s, Mono fun n => f n s) : ∀ (n m : Nat) (s : St) (r : AExit × St), loopA (f n) m s = some r → ∀ n' m', n ≤ n' → m ≤ m' → loopA (f n') m' s = some r
  | n, 0, s, r, h, _, _, _, _ => by simp [loopA] at h
  | n, m + 1, s, r, h, n', m', hn, hm => by
    obtain ⟨m', rfl⟩ : ∃ q, m' = q + 1 := ⟨m' - 1, by omega⟩
    rw [loopA_succ] at h ⊢
    simp only [Option.bind_eq_some_iff] at h ⊢
    obtain ⟨x, hx, hr⟩ := h
    refine ⟨x, (hf s).le hn hx, ?_⟩
    split at hr
    · exact mono_loopA hf n m _ r hr n' m' hn (by omega)
    · exact hr

theorem evC_seq (call : CallF) (n : Nat) (a b : Code) (s : St) : evC P C call n (.seq a b) s = (evC P C call n a s).bind fun r => match r with
    | (.normal, s') => evC P C call n b s'
    | r => some r := by
  simp only [evC]
  split
  · rename_i h; rw [h]; rfl
  · rename_i h
    cases hf : evC P C call n a s with
    | none => rfl
    | some r =>
      obtain ⟨e, s'⟩ := r
      cases e with
      | normal => exact absurd hf (h s')
      | _ => rfl

theorem evC_block (call : CallF) (n : Nat) (id : Nat) (b : Code) (s : St) : evC P C call n (.block id b) s = (evC P C call n b s).bind fun r => match r with
    | (.exit id', s') => if id' = id then some (.normal, s') else some (.exit id', s')
    | r => some r := by
  simp only [evC]
  split
  · rename_i h; rw [h]; rfl
  · rename_i h
    cases hf : evC P C call n b s with
    | none => rfl
    | some r =>
      obtain ⟨e, s'⟩ := r
      cases e with
      | exit id' => exact absurd hf (h id' s')
      | _ => rfl

theorem mono_evC {c : Nat → CallF} (hc : MonoF c) : ∀ (x : Code) (s : St), Mono fun n => evC P C (c n) n x s
  | .skip, s => by simp only [evC]; exact mono_const _
  | .region id ops false, s => by
    simp only [evC]; intro n r h
    simp only [Option.map_eq_some_iff] at h ⊢
    obtain ⟨x, hx, hr⟩ := h
    exact ⟨x, mono_runOps hc ops _ _ n x hx, hr⟩
  | .region id ops true, s => by
    simp only [evC]; intro n r h
    simp only at h ⊢
    split at h
    · rename_i hn
      rw [if_pos hn]
      simp only [Option.map_eq_some_iff] at h ⊢
      obtain ⟨x, hx, hr⟩ := h
      exact ⟨x, mono_runPlan hc _ ops _ _ n x hx, hr⟩
    · cases h
  | .seq a b, s => by
    simp only [evC_seq]
    refine mono_bind (mono_evC hc a s) fun r => ?_
    obtain ⟨e, s'⟩ := r
    cases e with
    | normal => exact mono_evC hc b s'
    | _ => exact mono_const _
  | .cond q x y, s => by
    simp only [evC]
    split
    · exact mono_evC hc x s
    · exact mono_evC hc y s
    · exact mono_const _
  | .block id b, s => by
    simp only [evC_block]
    exact mono_bind (mono_evC hc b s) fun r => mono_const _
  | .loop b, s => by
    simp only [evC]; intro n r h
    exact mono_loopA (f := fun n s => evC P C (c n) n b s) (fun s => mono_evC hc b s) n n s r h (n + 1) (n + 1) (by omega) (by omega)
  | .exit id, s => by simp only [evC]; exact mono_const _
  | .ret, s => by simp only [evC]; exact mono_const _
  | .rangeFunc .., s => by simp only [evC]; exact mono_const _
  | .scope _, s => by simp only [evC]; exact mono_const _
  | .label _, s => by simp only [evC]; exact mono_const _
  | .goto _, s => by simp only [evC]; exact mono_const _
  | .refuse _, s => by simp only [evC]; exact mono_const _

theorem evCall_succ (n : Nat) (f : FuncId) (args : List AV) (H : AH) (ho : C.orc f args H = none) : evCall P C (n + 1) f args H =
    (P.funcs[f]?).bind fun fn => fn.body.bind fun c =>
      (evC P C (evCall P C n) n c (args ++ List.replicate (fn.ntmps - args.length) undefA, H)).bind fun r => match r with
        | (.normal, s) => retA P fn s
        | (.ret, s) => retA P fn s
        | _ => none := by
  simp only [evCall, ho]
  congr 1; funext fn; congr 1; funext c
  cases evC P C (evCall P C n) n c (args ++ List.replicate (fn.ntmps - args.length) undefA, H) with
  | none => rfl
  | some r => obtain ⟨e, s⟩ := r; cases e <;> rfl

theorem mono_evCall : MonoF (evCall P C) := by
  have key : ∀ n f a H r, evCall P C n f a H = some r → evCall P C (n + 1) f a H = some r := by
    intro n
    induction n with
    | zero => intro f a H r h; simp [evCall] at h
    | succ n ih =>
      intro f a H r h
      cases ho : C.orc f a H with
      | some r' => simp only [evCall, ho] at h ⊢; exact h
      | none =>
      rw [evCall_succ _ _ _ _ ho] at h ⊢
      simp only [Option.bind_eq_some_iff] at h ⊢
      obtain ⟨fn, hfn, c, hc, x, hx, hr⟩ := h
      refine ⟨fn, hfn, c, hc, x, ?_, hr⟩
      -- the two bounds as one sequence
      have hm : MonoF (fun k => if k = 0 then evCall P C n else evCall P C (n + 1)) := fun f a H k r hk => by
        simp only at hk ⊢
        split at hk
        · rw [if_neg (by omega)]; exact ih f a H r hk
        · rw [if_neg (by omega)]; exact hk
      have hm' : MonoF (fun k => if k ≤ n then evCall P C n else evCall P C (n + 1)) := fun f a H k r hk => by
        simp only at hk ⊢
        split at hk
        · split
          · exact hk
          · exact ih f a H r hk
        · rw [if_neg (by omega)]; exact hk
      have := (mono_evC (P := P) (C := C) hm' c (a ++ List.replicate (fn.ntmps - a.length) undefA, H)) n x (by simpa using hx)
      simpa [show ¬ (n + 1 ≤ n) by omega] using this
  exact fun f a H n r h => key n f a H r h

/-- A call's answer, without a bound. -/
noncomputable def Ev (P : Program) (C : Cfg P) : CallF := limF (evCall P C)
/-- What a piece of code comes to, without a bound. -/
noncomputable def EvC (P : Program) (C : Cfg P) (c : Code) (s : St) : Option (AExit × St) := lim fun n => evC P C (evCall P C n) n c s

theorem Ev_of {n : Nat} {f : FuncId} {a : List AV} {H : AH} {r : AV × AH} (h : evCall P C n f a H = some r) : Ev P C f a H = some r := lim_of (mono_evCall f a H) h
theorem Ev_orc {f : FuncId} {a : List AV} {H : AH} {r : AV × AH} (h : C.orc f a H = some r) : Ev P C f a H = some r := Ev_of (n := 1) (by simp only [evCall, h])
theorem Ev_sound {w0 : World} {Pr : Nat → Prop} : CallOk P w0 Pr (Ev P C) := fun f args H v H' h => by
  obtain ⟨n, hn⟩ := lim_some h
  exact evCall_sound n f args H v H' hn

theorem Ev_eq {f : FuncId} {fn : Func} {c : Code} (hf : P.funcs[f]? = some fn) (hb : fn.body = some c) (args : List AV) (H : AH) (ho : C.orc f args H = none) : Ev P C f args H =
    (EvC P C c (args ++ List.replicate (fn.ntmps - args.length) undefA, H)).bind fun r => match r with
      | (.normal, s) => retA P fn s
      | (.ret, s) => retA P fn s
      | _ => none := by
  have h1 : Ev P C f args H = lim fun n => evCall P C (n + 1) f args H := (lim_shift (mono_evCall f args H)).symm
  rw [h1]
  simp only [evCall_succ _ _ _ _ ho, hf, hb, Option.bind_some]
  refine (lim_bind (k := fun _ (r : AExit × St) => match r with
      | (.normal, s) => retA P fn s
      | (.ret, s) => retA P fn s
      | _ => none) (mono_evC mono_evCall c _) (fun r => mono_const _)).trans ?_
  simp only [lim_const]
  rfl

/-! the equations of code -/
theorem EvC_skip (s : St) : EvC P C .skip s = some (.normal, s) := by unfold EvC; simp only [evC]; exact lim_const _
theorem EvC_exit (id : Nat) (s : St) : EvC P C (.exit id) s = some (.exit id, s) := by unfold EvC; simp only [evC]; exact lim_const _
theorem EvC_ret (s : St) : EvC P C .ret s = some (.ret, s) := by unfold EvC; simp only [evC]; exact lim_const _
theorem EvC_seq (a b : Code) (s : St) : EvC P C (.seq a b) s = (EvC P C a s).bind fun r => match r with
    | (.normal, s') => EvC P C b s'
    | r => some r := by
  unfold EvC
  simp only [evC_seq]
  refine (lim_bind (k := fun n (r : AExit × St) => match r with
    | (.normal, s') => evC P C (evCall P C n) n b s'
    | r => some r) (mono_evC mono_evCall a s) (fun r => ?_)).trans ?_
  · obtain ⟨e, s'⟩ := r
    cases e with
    | normal => exact mono_evC mono_evCall b s'
    | _ => exact mono_const _
  · congr 1; funext r
    obtain ⟨e, s'⟩ := r
    cases e with
    | normal => rfl
    | _ => exact lim_const _
theorem EvC_block (id : Nat) (b : Code) (s : St) : EvC P C (.block id b) s = (EvC P C b s).bind fun r => match r with
    | (.exit id', s') => if id' = id then some (.normal, s') else some (.exit id', s')
    | r => some r := by
  unfold EvC
  simp only [evC_block]
  refine (lim_bind (k := fun _ (r : AExit × St) => match r with
    | (.exit id', s') => if id' = id then some (.normal, s') else some (.exit id', s')
    | r => some r) (mono_evC mono_evCall b s) (fun r => mono_const _)).trans ?_
  simp only [lim_const]
theorem EvC_cond (q : Operand) (x y : Code) (s : St) : EvC P C (.cond q x y) s = match evalA s.1 q with
    | some (.bool true) => EvC P C x s
    | some (.bool false) => EvC P C y s
    | _ => none := by
  unfold EvC
  cases h : evalA s.1 q with
  | none => simp only [evC, h]; exact lim_const _
  | some v => cases v with
    | bool b => cases b <;> simp only [evC, h]
    | _ => simp only [evC, h]; exact lim_const _
theorem map_bind {α β : Type} (f : α → β) (o : Option α) : o.map f = o.bind fun x => some (f x) := by cases o <;> rfl
theorem EvC_region (id : Nat) (ops : Array Oper) (s : St) : EvC P C (.region id ops false) s = (runOps P C (Ev P C) ops (List.range ops.size) s).bind fun s' => some (.normal, s') := by
  unfold EvC
  simp only [evC, map_bind]
  refine (lim_bind (k := fun _ s' => some (AExit.normal, s')) (mono_runOps mono_evCall ops _ s) (fun r => mono_const _)).trans ?_
  rw [lim_runOps mono_evCall]
  simp only [lim_const]
  rfl
theorem EvC_draw (id : Nat) (ops : Array Oper) (s : St) : EvC P C (.region id ops true) s = if Region.noSelect ops then
    (runPlan P C (Ev P C) s.2.length ops (planOf ops ops.size (Array.replicate ops.size false)) (s.1, if ops.any (allocates ·.op) then s.2 ++ List.replicate ops.size .fresh else s.2)).bind fun s' => some (.normal, s') else none := by
  unfold EvC
  simp only [evC, map_bind]
  split
  · refine (lim_bind (k := fun _ s' => some (AExit.normal, s')) (mono_runPlan mono_evCall _ ops _ _) (fun r => mono_const _)).trans ?_
    rw [lim_runPlan mono_evCall]
    simp only [lim_const]
    rfl
  · exact lim_const _
theorem EvC_loop (b : Code) (s : St) : EvC P C (.loop b) s = (EvC P C b s).bind fun r => match r with
    | (.normal, s') => EvC P C (.loop b) s'
    | r => some r := by
  have hm : ∀ s : St, Mono fun n => loopA (fun s => evC P C (evCall P C n) n b s) n s := fun s n r h =>
    mono_loopA (f := fun n s => evC P C (evCall P C n) n b s) (fun s => mono_evC mono_evCall b s) n n s r h (n + 1) (n + 1) (by omega) (by omega)
  have hm' : ∀ s : St, Mono fun n => loopA (fun s => evC P C (evCall P C (n + 1)) (n + 1) b s) n s := fun s n r h =>
    mono_loopA (f := fun n s => evC P C (evCall P C n) n b s) (fun s => mono_evC mono_evCall b s) (n + 1) n s r h (n + 2) (n + 1) (by omega) (by omega)
  have hl : ∀ s : St, lim (fun n => loopA (fun s => evC P C (evCall P C (n + 1)) (n + 1) b s) n s) = lim fun n => loopA (fun s => evC P C (evCall P C n) n b s) n s := fun s => by
    cases h : lim (fun n => loopA (fun s => evC P C (evCall P C n) n b s) n s) with
    | some r =>
      obtain ⟨n, hn⟩ := lim_some h
      exact lim_of (hm' s) (n := n) (mono_loopA (f := fun n s => evC P C (evCall P C n) n b s) (fun s => mono_evC mono_evCall b s) n n s r hn (n + 1) n (by omega) (by omega))
    | none =>
      refine lim_eq_none fun n => ?_
      cases hn : loopA (fun s => evC P C (evCall P C (n + 1)) (n + 1) b s) n s with
      | none => rfl
      | some r =>
        have := lim_none h (n + 1)
        rw [mono_loopA (f := fun n s => evC P C (evCall P C n) n b s) (fun s => mono_evC mono_evCall b s) (n + 1) n s r hn (n + 1) (n + 1) (by omega) (by omega)] at this
        cases this
  have h0 : EvC P C (.loop b) s = lim fun n => loopA (fun s => evC P C (evCall P C n) n b s) n s := by unfold EvC; simp only [evC]
  rw [h0, ← lim_shift (hm s)]
  simp only [loopA_succ]
  refine (lim_bind (g := fun n => evC P C (evCall P C (n + 1)) (n + 1) b s) (k := fun n (r : AExit × St) => match r with
    | (.normal, s') => loopA (fun s => evC P C (evCall P C (n + 1)) (n + 1) b s) n s'
    | r => some r) (fun n r h => (mono_evC mono_evCall b s) (n + 1) r h) (fun r => ?_)).trans ?_
  · obtain ⟨e, s'⟩ := r
    cases e with
    | normal => exact hm' s'
    | _ => exact mono_const _
  · rw [lim_shift (g := fun n => evC P C (evCall P C n) n b s) (mono_evC mono_evCall b s)]
    show (EvC P C b s).bind _ = _
    congr 1; funext r
    obtain ⟨e, s'⟩ := r
    cases e with
    | normal => simp only []; rw [hl s']; unfold EvC; simp only [evC]
    | _ => exact lim_const _

end
end Go.Dv
