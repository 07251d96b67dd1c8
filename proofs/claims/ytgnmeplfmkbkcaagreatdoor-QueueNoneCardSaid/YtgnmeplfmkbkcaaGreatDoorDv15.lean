/- That the evaluator is right: what it answers the model's call answers, in every world and whatever is drawn (own work). -/
import Derived.Test.YtgnmeplfmkbkcaaGreatDoorDv14
import Derived.LoopN

namespace Go.Dv

section
variable {P : Program} {C : Cfg P} {w0 : World} {Pr : Nat → Prop}

/-- The abstract state of an activation. -/
structure SR (gl : GL) (w0 : World) (Pr : Nat → Prop) (φ : Env) (s : St) (a : Act) (w : World) : Prop where
  wr : WR w0 Pr φ s.2 w
  tm : VRs φ s.1 a.tmps.toList
  df : a.defers = []
  gi : GI gl φ

theorem evalA_spec {gl : GL} {φ : Env} {tm : List AV} {a : Act} (hg : GI gl φ) (h : VRs φ tm a.tmps.toList) (x : Operand) (v : AV) (hx : evalA gl tm x = some v) : VR φ v (a.eval x) := by
  cases x with
  | tmp t =>
    simp only [evalA, Option.some.injEq] at hx
    subst hx
    simp only [Act.eval]
    rcases Nat.lt_or_ge t tm.length with hl | hl
    · obtain ⟨u, hu, r⟩ := h.get t _ (List.getElem?_eq_getElem hl)
      have hu' : a.tmps[t]? = some u := by simpa using hu
      simpa [List.getD, List.getElem?_eq_getElem hl, Array.getD_eq_getD_getElem?, hu'] using r
    · have hl' : a.tmps.size ≤ t := by have := h.length; simp at this; omega
      simp only [List.getD, List.getElem?_eq_none hl, Array.getD_eq_getD_getElem?, Array.getElem?_eq_none hl']
      exact ⟨#[], rfl, rfl⟩
  | const c => exact ofV_spec _ _ _ hx
  | global g =>
    simp only [evalA, Option.map_eq_some_iff] at hx
    obtain ⟨i, hi, rfl⟩ := hx
    obtain ⟨z, hz⟩ := hg g i hi
    exact ⟨g, 0, z, hz, rfl⟩
  | func f => cases hx; exact ⟨#[], #[], rfl, rfl, rfl⟩

theorem putA_spec {φ : Env} {tm : List AV} {a : Act} {v : AV} {u : Value} (h : VRs φ tm a.tmps.toList) (dst : Option Tmp) (r : VR φ v u) : VRs φ (putA dst v tm) (a.put dst u).tmps.toList := by
  cases dst with
  | none => exact h
  | some d => simpa [putA, Act.put] using h.set d r

theorem put_defers (a : Act) (dst : Option Tmp) (u : Value) : (a.put dst u).defers = a.defers := by cases dst <;> rfl

theorem VR_bool {φ : Env} {x : AV} {u : Value} (r : VR φ x u) (b : Bool) : u = .bool b ↔ x = .bool b := by
  constructor
  · rintro rfl
    cases x <;> simp only [VR] at r <;> first
      | (cases r; rfl)
      | (cases r; done)
      | exact absurd rfl (r.2 b)
      | (obtain ⟨_, _, h, _⟩ := r; cases h; done)
      | (obtain ⟨_, _, _, _, h⟩ := r; cases h; done)
      | (obtain ⟨_, _, _, _, _, _, h, _⟩ := r; cases h; done)
      | (obtain ⟨_, _, _, h⟩ := r; cases h; done)
      | (obtain ⟨_, _, h, _⟩ := r; cases h; done)
      | (obtain ⟨_, h, _⟩ := r; cases h; done)
  · rintro rfl; exact r

theorem yieldedA_spec {φ : Env} {tm : List AV} {a : Act} (ops : Array Oper) (h : VRs φ tm a.tmps.toList) : yielded ops a.tmps = yieldedA ops tm := by
  funext j
  unfold yielded yieldedA
  cases hd : (ops[j]?).bind (·.dst) with
  | none => rfl
  | some d =>
    simp only [Option.bind_some]
    rcases Nat.lt_or_ge d tm.length with hl | hl
    · obtain ⟨u, hu, r⟩ := h.get d _ (List.getElem?_eq_getElem hl)
      have hu' : a.tmps[d]? = some u := by simpa using hu
      rw [hu', List.getElem?_eq_getElem hl]
      cases hx : tm[d] with
      | bool b => rw [hx] at r; simp only [VR] at r; subst r; rfl
      | _ =>
        have hne : ∀ b, u ≠ .bool b := fun b e => by have := (VR_bool r b).1 e; rw [hx] at this; cases this
        simp only
        cases u <;> first | rfl | exact absurd rfl (hne _)
    · have hl' : a.tmps.size ≤ d := by have := h.length; simp at this; omega
      rw [List.getElem?_eq_none hl, Array.getElem?_eq_none hl']

/-- What a call that is evaluated means. -/
theorem stepA_sound {call : CallF} (hcall : CallOk P C.gl w0 Pr call) {slot : Option Nat} {ops : Array Oper} {i : Nat} {s s' : St} (h : stepA P C call slot ops i s = some s') {φ : Env} {a : Act} {w : World} (hs : SR C.gl w0 Pr φ s a w)
    {Q : Exit → Act → World → Prop} {K : Act → World → Prop} (hK : ∀ φ' a' w', φ.le φ' → SR C.gl w0 Pr φ' s' a' w' → K a' w') : wpOp P ops Q i K a w := by
  unfold stepA at h
  unfold wpOp
  split at h
  · rename_i hi
    cases h
    simp only [hi]
    exact hK φ a w (Env.le_refl φ) hs
  · rename_i o hi
    simp only [hi]
    rw [yieldedA_spec ops hs.tm]
    split at h
    · rename_i hw
      rw [if_pos hw]
      left
      split at h
      · rename_i v H' ha
        cases h
        obtain ⟨φ', w', hle, hW, u, hrun, r⟩ := aop_spec (C := C) hs.wr (fun x v hx => evalA_spec hs.gi hs.tm x v hx) ha
        unfold Oper.wp
        rw [hrun]
        exact hK φ' _ w' hle ⟨hW, putA_spec (hs.tm.mono hle) o.dst r, by rw [put_defers]; exact hs.df, hs.gi.mono hle⟩
      · rename_i H' ha
        cases h
        obtain ⟨φ', w', hle, hW, hrun⟩ := aop_spec (C := C) hs.wr (fun x v hx => evalA_spec hs.gi hs.tm x v hx) ha
        unfold Oper.wp
        rw [show (execOp a.eval o).run P w = _ from hrun]
        exact hK φ' _ w' hle ⟨hW, putA_spec (hs.tm.mono hle) o.dst ⟨#[], rfl, rfl⟩, by rw [put_defers]; exact hs.df, hs.gi.mono hle⟩
      · rename_i f args H' ha
        simp only [Option.map_eq_some_iff] at h
        obtain ⟨⟨v, H''⟩, hc, he⟩ := h
        cases he
        obtain ⟨φ', w', hle, hW, us, hrun, r⟩ := aop_spec (C := C) hs.wr (fun x v hx => evalA_spec hs.gi hs.tm x v hx) ha
        unfold Oper.wp
        rw [hrun]
        refine (hcall f args H' v H'' hc φ' w' us (hs.gi.mono hle) hW r).mono ?_
        rintro e w'' ⟨φ'', u, hle', rfl, ru, hW'⟩
        exact hK φ'' _ w'' (Env.le_trans hle hle') ⟨hW', putA_spec (hs.tm.mono (Env.le_trans hle hle')) o.dst ru, by rw [put_defers]; exact hs.df, hs.gi.mono (Env.le_trans hle hle')⟩
      · cases h
    · rename_i hw
      cases h
      rw [if_neg hw]
      exact hK φ _ w (Env.le_refl φ) ⟨hs.wr, putA_spec hs.tm o.dst ⟨#[], rfl, rfl⟩, by rw [put_defers]; exact hs.df, hs.gi⟩

theorem runOps_sound {call : CallF} (hcall : CallOk P C.gl w0 Pr call) {ops : Array Oper} : ∀ (is : List Nat) (s s' : St), runOps P C call ops is s = some s' → ∀ {φ : Env} {a : Act} {w : World}, SR C.gl w0 Pr φ s a w →
    ∀ {Q : Exit → Act → World → Prop}, (∀ φ' a' w', φ.le φ' → SR C.gl w0 Pr φ' s' a' w' → Q .normal a' w') → wpOps P ops Q is a w
  | [], s, s', h, φ, a, w, hs, Q, hQ => by cases h; exact hQ φ a w (Env.le_refl φ) hs
  | i :: is, s, s', h, φ, a, w, hs, Q, hQ => by
    simp only [runOps, Option.bind_eq_some_iff] at h
    obtain ⟨s1, h1, h2⟩ := h
    rw [wpOps_cons]
    exact stepA_sound hcall h1 hs fun φ' a' w' hle hs' => runOps_sound hcall is s1 s' h2 hs' fun φ'' a'' w'' hle' hs'' => hQ φ'' a'' w'' (Env.le_trans hle hle') hs''

/-- what yields the same in whatever world -/
theorem pureA_every {ev : Operand → Option AV} {ρ : Operand → Value} {φ : Env} (hρ : ∀ x a, ev x = some a → VR φ a (ρ x)) {o : Oper} {v : AV} (h : ((pureA P ev o).bind fun n => match n with | .val v => some v | _ => none) = some v) :
    ∃ u, VR φ v u ∧ ∀ w, (execOp ρ o).run P w = .ok (.value u) w := by
  simp only [Option.bind_eq_some_iff] at h
  obtain ⟨n, hn, hv⟩ := h
  unfold pureA at hn
  split at hn
  · rename_i hc
    simp only [Bool.and_eq_true, List.all_eq_true] at hc
    have hcong : execOp ρ o = execOp (rhoOf ev) o := execOp_congr o (fun cs b e => by rw [e] at hc; exact absurd hc.1 (by simp [notSelect])) fun x hx => by
      obtain ⟨u, hu⟩ := Option.isSome_iff_exists.1 (hc.2 x (by simpa using hx))
      have : rhoOf ev x = u := by simp [rhoOf, hu]
      rw [this]
      simp only [Option.bind_eq_some_iff] at hu
      obtain ⟨a, ha, hav⟩ := hu
      exact toV_spec a u hav _ (hρ x a ha)
    split at hn
    · rename_i u hu
      simp only [Option.map_eq_some_iff] at hn
      obtain ⟨a, ha, rfl⟩ := hn
      cases hv
      exact ⟨u, ofV_spec _ _ _ ha, fun w => by rw [hcong]; exact pureRun_spec _ _ hu w⟩
    · cases hn
  · cases hn

theorem quietA_spec {ev : Operand → Option AV} {ρ : Operand → Value} {φ : Env} (hρ : ∀ x a, ev x = some a → VR φ a (ρ x)) {o : Oper} {v : AV} (h : quietA P ev o = some v) :
    ∃ u, VR φ v u ∧ ∀ w, (execOp ρ o).run P w = .ok (.value u) w := by
  obtain ⟨dst, op, ty, pos, after, guard⟩ := o
  cases op <;> try (simp only [quietA] at h; cases h; done)
  case move x => simp only [quietA] at h; exact ⟨ρ x, hρ x v h, fun w => rfl⟩
  case assign x => simp only [quietA] at h; exact ⟨ρ x, hρ x v h, fun w => rfl⟩
  case pick c a b =>
    simp only [quietA, Option.bind_eq_some_iff] at h
    obtain ⟨cv, hc, h⟩ := h
    have rc := hρ c cv hc
    split at h
    · simp only [VR] at rc
      exact ⟨ρ a, hρ a v h, fun w => by simp [execOp, rc, asBool]⟩
    · simp only [VR] at rc
      exact ⟨ρ b, hρ b v h, fun w => by simp [execOp, rc, asBool]⟩
    · cases h
  case binOp op t x y yt =>
    simp only [quietA, Option.bind_eq_some_iff] at h
    obtain ⟨xv, hx, yv, hy, h⟩ := h
    have rx := hρ x _ hx
    have ry := hρ y _ hy
    split at h
    · rename_i k a k' b
      split at h
      · rename_i v' hv
        cases h
        split at hv
        · rename_i hk
          subst hk
          simp only [VR] at rx ry
          have key := fun w => intBinA_spec (P := P) (w := w) (φ := φ) hv t x y
          obtain ⟨u, hu, ru⟩ := key default
          refine ⟨u, ru, fun w => ?_⟩
          obtain ⟨u', hu', ru'⟩ := key w
          have e : u' = u := by
            cases op <;> simp only [intBinA] at hv <;> try (cases hv; done)
            case quo => split at hv <;> cases hv; exact ru'.trans ru.symm
            case rem => split at hv <;> cases hv; exact ru'.trans ru.symm
            all_goals (cases hv; exact ru'.trans ru.symm)
          subst e
          obtain ⟨u2, h2, _⟩ := fits_val (φ' := φ) (s := do eqGuard op t x y (ρ x) (ρ y); binOp op t (ρ x) (ρ y)) (u := u') (by rw [rx, ry]; exact hu') ru'
          have := (fits_val (P := P) (w := w) (φ' := φ) (s := do eqGuard op t x y (ρ x) (ρ y); binOp op t (ρ x) (ρ y)) (u := u') (by rw [rx, ry]; exact hu') ru')
          show (do pure (Next.value (← (do eqGuard op t x y (ρ x) (ρ y); binOp op t (ρ x) (ρ y)))) : Sem Next).run P w = _
          rw [rx, ry]
          rw [Sem.run_bind, hu', Result.andThen_ok, Sem.run_pure]
        · cases hv
      · exact pureA_every hρ h
    · split at h
      · rename_i r hr
        cases h
        refine ⟨.bool r, rfl, fun w => ?_⟩
        obtain ⟨h1, h2, h3, _⟩ := eqVG_spec rx ry hr .eql x y w
        show (do pure (Next.value (← (do eqGuard .eql t x y (ρ x) (ρ y); binOp .eql t (ρ x) (ρ y)))) : Sem Next).run P w = _
        simp only [Sem.run_bind, h2, Result.andThen_ok, h3, h1, Sem.run_pure]
      · rename_i r hr
        cases h
        refine ⟨.bool (!r), rfl, fun w => ?_⟩
        obtain ⟨h1, h2, _, h4⟩ := eqVG_spec rx ry hr .neq x y w
        show (do pure (Next.value (← (do eqGuard .neq t x y (ρ x) (ρ y); binOp .neq t (ρ x) (ρ y)))) : Sem Next).run P w = _
        simp only [Sem.run_bind, h2, Result.andThen_ok, h4, h1, Sem.run_pure]
      · exact pureA_every hρ h
  case unOp => exact pureA_every hρ h
  case convert => exact pureA_every hρ h
  case index => exact pureA_every hρ h
  case typeAssert => exact pureA_every hρ h
  case makeInterface t x =>
    simp only [quietA, Option.bind_eq_some_iff] at h
    obtain ⟨xv, hv, h⟩ := h
    split at h
    · cases h
    · rename_i d hd hu
      cases h
      refine ⟨.iface t (ρ x), ⟨_, rfl, hρ x xv hv⟩, fun w => ?_⟩
      cases d <;> first | exact absurd rfl (hd _) | simp [execOp, Instr.makeInterface, run_und hu]
    · cases h
  case makeFunc fn first cap =>
    simp only [quietA, Option.bind_eq_some_iff, Option.map_eq_some_iff] at h
    obtain ⟨f, hf, c, hc, rfl⟩ := h
    refine ⟨.func fn (first.map ρ) (cap.map ρ), ⟨_, _, rfl, ?_, ?_⟩, fun w => rfl⟩
    · simpa using evL_spec hρ _ _ hf
    · simpa using evL_spec hρ _ _ hc
  case fieldAddr t x f =>
    simp only [quietA, Option.bind_eq_some_iff] at h
    obtain ⟨xv, hx, hv⟩ := h
    obtain ⟨y, hy, ry⟩ := fieldAddrA_spec (P := P) (hρ x _ hx) hv
    exact ⟨y, ry, fun w => by simp only [execOp, Sem.run_bind, hy w, Result.andThen_ok, Sem.run_pure]⟩
  case field t x f =>
    simp only [quietA, Option.bind_eq_some_iff] at h
    obtain ⟨xv, hx, hv⟩ := h
    obtain ⟨y, hy, ry⟩ := fieldA_spec (P := P) (hρ x _ hx) hv
    exact ⟨y, ry, fun w => by simp only [execOp, Sem.run_bind, hy w, Result.andThen_ok, Sem.run_pure]⟩
  case indexAddr t x ix =>
    simp only [quietA, Option.bind_eq_some_iff] at h
    obtain ⟨xv, hx, iv, hi, hv⟩ := h
    obtain ⟨y, hy, ry⟩ := indexAddrA_spec (P := P) (hρ x _ hx) (hρ ix _ hi) hv
    exact ⟨y, ry, fun w => by simp only [execOp, Sem.run_bind, hy w, Result.andThen_ok, Sem.run_pure]⟩
  case extract t ix =>
    simp only [quietA, Option.bind_eq_some_iff] at h
    obtain ⟨tv, ht, h⟩ := h
    split at h
    · rename_i vs
      obtain ⟨us, hval, rs⟩ := hρ t _ ht
      obtain ⟨u, hu, ru⟩ := rs.get ix v h
      have hu' : us[ix]? = some u := by simpa using hu
      exact ⟨u, ru, fun w => by simp [execOp, Instr.extract, hval, hu']⟩
    · cases h
  case nilCheck x =>
    simp only [quietA, Option.bind_eq_some_iff] at h
    obtain ⟨xv, hx, hn⟩ := h
    have key := fun w => nilCheckA_spec (P := P) (w := w) (ρ := ρ) hn (hρ x xv hx) ⟨dst, .nilCheck x, ty, pos, after, guard⟩ x rfl rfl
    refine ⟨ρ x, ?_, fun w => (key w).1⟩
    rw [(key default).2]; exact hρ x xv hx

theorem endsL_same (ops : Array Oper) : ∀ (l : List (Nat × Plan)) (n : Nat) (L : Array Bool) (r : Option (Nat × Array Bool)) (e : Nat × Array Bool), endsL ops l n L r = some e → ∀ e0, r = some e0 → e0 = e
  | [], n, L, r, e, h, e0, hr => by rw [endsL_nil] at h; rw [hr] at h; exact Option.some.inj h
  | (i, p) :: l, n, L, r, e, h, e0, hr => by
    subst hr
    rw [endsL_cons] at h
    simp only [Option.bind_eq_some_iff] at h
    obtain ⟨e1, _, h⟩ := h
    split at h
    · exact endsL_same ops l n L _ e h e0 rfl
    · cases h

theorem runAll_spec {call : CallF} {base : Nat} {ops : Array Oper} : ∀ (l : List (Nat × Plan)) (s t : St) (r : Option St), runAll P C call base ops l s r = some t →
    (∀ t0, r = some t0 → t0 = t) ∧ ∀ i p, (i, p) ∈ l → ∃ s', stepA P C call (some (base + i)) ops i s = some s' ∧ runPlan P C call base ops p s' = some t
  | [], s, t, r, h => by
    simp only [runAll] at h
    exact ⟨fun t0 e => by rw [h] at e; exact (Option.some.inj e).symm, fun i p hm => by cases hm⟩
  | (i, p) :: l, s, t, r, h => by
    simp only [runAll, Option.bind_eq_some_iff] at h
    obtain ⟨s', hs', t', ht', h⟩ := h
    cases r with
    | none =>
      obtain ⟨h1, h2⟩ := runAll_spec l s t (some t') h
      have e := h1 t' rfl
      subst e
      refine ⟨fun t0 e => (by cases e), fun j q hm => ?_⟩
      cases hm with
      | head => exact ⟨s', hs', ht'⟩
      | tail _ hm => exact h2 j q hm
    | some t0 =>
      simp only at h
      split at h
      · rename_i hb
        obtain ⟨h1, h2⟩ := runAll_spec l s t (some t0) h
        have e := h1 t0 rfl
        have e2 := stBeq_eq hb
        subst e; subst e2
        refine ⟨fun t1 e => (Option.some.inj e).symm, fun j q hm => ?_⟩
        cases hm with
        | head => exact ⟨s', hs', ht'⟩
        | tail _ hm => exact h2 j q hm
      · cases h

mutual
theorem plan_sound {call : CallF} (hcall : CallOk P C.gl w0 Pr call) {base : Nat} {ops : Array Oper} (hns : Region.noSelect ops = true) {K : Act → World → Prop} : ∀ (p : Plan) (n : Nat) (L : Array Bool) (e : Nat × Array Bool) (s t : St), ends ops p n L = some e →
    runPlan P C call base ops p s = some t → ∀ {φ : Env} {a : Act} {w : World}, SR C.gl w0 Pr φ s a w →
    (∀ φ' a' w', φ.le φ' → SR C.gl w0 Pr φ' t a' w' → wpAny P .any ops (fun e a w => match e with | .normal => K a w | _ => False) e.1 e.2 a' w') →
    wpAny P .any ops (fun e a w => match e with | .normal => K a w | _ => False) n L a w
  | .done, n, L, e, s, t, he, h, φ, a, w, hs, hK => by
    rw [ends_done] at he
    simp only [runPlan] at h
    cases he; cases h
    exact hK φ a w (Env.le_refl φ) hs
  | .take i p, n, L, e, s, t, he, h, φ, a, w, hs, hK => by
    cases n with
    | zero => rw [ends_take0] at he; cases he
    | succ n =>
      rw [ends_take] at he
      split at he
      case isFalse => cases he
      rename_i hc
      simp only [Bool.and_eq_true, canTake] at hc
      obtain ⟨hmem, _, hfree⟩ := hc
      simp only [runPlan] at h
      split at h
      · cases h
      · rename_i o ho
        simp only [Option.bind_eq_some_iff] at h
        obtain ⟨v, hv, h⟩ := h
        have hy : ∃ u, VR φ v u ∧ Yields P ops o u a := by
          rw [← yieldedA_spec ops hs.tm] at hv
          split at hv
          · rename_i hw
            obtain ⟨u, ru, hu⟩ := quietA_spec (fun x v hx => evalA_spec hs.gi hs.tm x v hx) hv
            exact ⟨u, ru, .inl ⟨hw, hu⟩⟩
          · rename_i hw
            cases hv
            exact ⟨undef, ⟨#[], rfl, rfl⟩, .inr ⟨by simpa using hw, rfl⟩⟩
        obtain ⟨u, ru, hyy⟩ := hy
        refine wpAny_take ho hns hfree (by simpa using hmem) (fun c a w h => h) hyy ?_
        exact plan_sound hcall hns p n _ e _ t he h ⟨hs.wr, putA_spec hs.tm o.dst ru, by rw [put_defers]; exact hs.df, hs.gi⟩ hK
  | .all l, n, L, e, s, t, he, h, φ, a, w, hs, hK => by
    cases n with
    | zero => rw [ends_all0] at he; cases he
    | succ n =>
      rw [ends_all] at he
      split at he
      case isFalse => cases he
      rename_i hc
      simp only [Bool.and_eq_true, beq_iff_eq] at hc
      simp only [runPlan] at h
      obtain ⟨hl, hne⟩ := hc
      refine wpAny_all rfl (fun e => ?_) fun i hi => ?_
      · rw [← hl] at e
        cases l with
        | nil => simp at hne
        | cons x l => simp at e
      · rw [← hl] at hi
        exact alls_sound hcall hns l n L e s t none none he h (fun _ e => by cases e) (fun _ e => by cases e) i hi hs hK
  | .join p q, n, L, e, s, t, he, h, φ, a, w, hs, hK => by
    rw [ends_join] at he
    simp only [runPlan, Option.bind_eq_some_iff] at h he
    obtain ⟨e1, he1, he2⟩ := he
    obtain ⟨t1, h1, h2⟩ := h
    exact plan_sound hcall hns p n L e1 s t1 he1 h1 hs fun φ' a' w' hle hs' => plan_sound hcall hns q e1.1 e1.2 e t1 t he2 h2 hs' fun φ'' a'' w'' hle' h'' => hK φ'' a'' w'' (Env.le_trans hle hle') h''
theorem alls_sound {call : CallF} (hcall : CallOk P C.gl w0 Pr call) {base : Nat} {ops : Array Oper} (hns : Region.noSelect ops = true) {K : Act → World → Prop} : ∀ (l : List (Nat × Plan)) (n : Nat) (L : Array Bool) (e : Nat × Array Bool) (s t : St) (re : Option (Nat × Array Bool)) (r : Option St),
    endsL ops l n L re = some e → runAll P C call base ops l s r = some t → (∀ e0, re = some e0 → e0 = e) → (∀ t0, r = some t0 → t0 = t) → ∀ i, i ∈ l.map (·.1) → ∀ {φ : Env} {a : Act} {w : World}, SR C.gl w0 Pr φ s a w →
    (∀ φ' a' w', φ.le φ' → SR C.gl w0 Pr φ' t a' w' → wpAny P .any ops (fun e a w => match e with | .normal => K a w | _ => False) e.1 e.2 a' w') →
    wpOp P ops (fun e a w => match e with | .normal => K a w | _ => False) i (wpAny P .any ops (fun e a w => match e with | .normal => K a w | _ => False) n (L.setIfInBounds i true)) a w
  | [], n, L, e, s, t, re, r, he, h, hre, hr, i, hi, φ, a, w, hs, hK => by simp at hi
  | (j, p) :: l, n, L, e, s, t, re, r, he, h, hre, hr, i, hi, φ, a, w, hs, hK => by
    rw [endsL_cons] at he
    simp only [runAll, Option.bind_eq_some_iff] at h he
    obtain ⟨e1, he1, he2⟩ := he
    obtain ⟨s', hs', t1, ht1, h⟩ := h
    have ee : e1 = e ∧ ∃ re', endsL ops l n L re' = some e ∧ ∀ e0, re' = some e0 → e0 = e := by
      cases re with
      | none =>
        simp only at he2
        have := endsL_same ops l n L _ e he2
        have := this e1 rfl
        subst this
        exact ⟨rfl, _, he2, fun e0 h => (Option.some.inj h).symm⟩
      | some e0 =>
        simp only at he2
        split at he2
        · rename_i hb
          simp only [Bool.and_eq_true, beq_iff_eq] at hb
          have := hre e0 rfl
          subst this
          exact ⟨(Prod.ext hb.1 hb.2).symm, _, he2, fun e1 h => (Option.some.inj h).symm⟩
        · cases he2
    have tt : t1 = t ∧ ∃ r', runAll P C call base ops l s r' = some t ∧ ∀ t0, r' = some t0 → t0 = t := by
      cases r with
      | none =>
        simp only at h
        have := (runAll_spec l s t (some t1) h).1 t1 rfl
        subst this
        exact ⟨rfl, _, h, fun t0 h => (Option.some.inj h).symm⟩
      | some t0 =>
        simp only at h
        split at h
        · rename_i hb
          have e2 := stBeq_eq hb
          have := hr t0 rfl
          subst this
          exact ⟨e2.symm, _, h, fun t1 h => (Option.some.inj h).symm⟩
        · cases h
    obtain ⟨rfl, re', he3, hre'⟩ := ee
    obtain ⟨rfl, r', h3, hr'⟩ := tt
    simp only [List.map_cons, List.mem_cons] at hi
    by_cases hij : i = j
    · subst hij
      exact stepA_sound hcall hs' hs fun φ' a' w' hle hs'' => plan_sound hcall hns p n _ e1 s' t1 he1 ht1 hs'' fun φ'' a'' w'' hle' h'' => hK φ'' a'' w'' (Env.le_trans hle hle') h''
    · exact alls_sound hcall hns l n L e1 s t1 re' r' he3 h3 hre' hr' i (hi.resolve_left hij) hs hK
end

theorem runPlan_sound {call : CallF} (hcall : CallOk P C.gl w0 Pr call) {base : Nat} {ops : Array Oper} (hns : Region.noSelect ops = true) {K : Act → World → Prop} {p : Plan} (hp : planOk ops p = true) {s t : St}
    (h : runPlan P C call base ops p s = some t) {φ : Env} {a : Act} {w : World} (hs : SR C.gl w0 Pr φ s a w) (hK : ∀ φ' a' w', φ.le φ' → SR C.gl w0 Pr φ' t a' w' → K a' w') :
    wpAny P .any ops (fun e a w => match e with | .normal => K a w | _ => False) ops.size (Array.replicate ops.size false) a w := by
  unfold planOk at hp
  split at hp
  · rename_i n L he
    exact plan_sound hcall hns p _ _ _ s t he h hs fun φ' a' w' hle hs' => wpAny_done (by simpa using hp) (hK φ' a' w' hle hs') _
  · cases hp

theorem WR.reserve {φ : Env} {H : AH} {w : World} (h : WR w0 Pr φ H w) (n : Nat) : WR w0 Pr φ (H ++ List.replicate n .fresh) w := by
  have hg : ∀ {j : Nat} {o : AObj}, (H ++ List.replicate n .fresh)[j]? = some o → o = .fresh ∧ H.length ≤ j ∨ H[j]? = some o := fun {j o} hj => by
    rcases Nat.lt_or_ge j H.length with hl | hl
    · rw [List.getElem?_append_left hl] at hj; exact .inr hj
    · rw [List.getElem?_append_right hl, List.getElem?_replicate] at hj
      split at hj
      · cases hj; exact .inl ⟨rfl, hl⟩
      · cases hj
  have hO : ∀ {j : Nat}, Owned (H ++ List.replicate n .fresh) j → Owned H j := fun {j} ⟨o, ho, hw⟩ => by
    rcases hg ho with ⟨rfl, _⟩ | ho
    · cases hw
    · exact ⟨o, ho, hw⟩
  refine ⟨fun j hj => h.dom j (by simp at hj; omega), fun j hj => ?_, h.lt, fun i j x y hi hj => h.inj i j x y (hO hi) (hO hj), fun i x hi => h.own i x (hO hi), fun i x cs hi hx => ?_, fun i o hi => ?_, h.prLt, h.size, h.os, h.tape, h.output, h.old⟩
  · rcases hg hj with ⟨_, hl⟩ | hj
    · exact h.dom j hl
    · exact h.fresh j hj
  · rcases hg hi with ⟨e, _⟩ | hi
    · cases e
    · exact h.argP i x cs hi hx
  · rcases hg hi with ⟨rfl, _⟩ | hi
    · trivial
    · exact h.obj i o hi

theorem readA_spec {ev : Operand → Option AV} {ρ : Operand → Value} {φ : Env} {H : AH} {w : World} (hW : WR w0 Pr φ H w) (hρ : ∀ x a, ev x = some a → VR φ a (ρ x)) {o : Oper} {v : AV} (h : readA P ev o H = some v) :
    ∃ u, VR φ v u ∧ (execOp ρ o).run P w = .ok (.value u) w := by
  unfold readA at h
  split at h
  · rename_i t a hop
    obtain ⟨dst, op, ty, pos, after, guard⟩ := o
    simp only at hop
    subst hop
    simp only [Option.bind_eq_some_iff] at h
    obtain ⟨av, ha, h⟩ := h
    split at h
    · rename_i i k
      obtain ⟨b, o, z, hφ, hval⟩ := hρ a _ ha
      obtain ⟨y, hy, ry⟩ := ldA_spec (P := P) hW hφ h
      exact ⟨y, ry, by simp only [execOp, Instr.loadAt, hval, Instr.sureAddr, Sem.run_bind, Sem.run_pure, Result.andThen_ok, hy]⟩
    · cases h
  · rename_i t m k ok hop
    obtain ⟨dst, op, ty, pos, after, guard⟩ := o
    simp only at hop
    subst hop
    simp only [Option.bind_eq_some_iff] at h
    obtain ⟨mv, hm, kv, hk, hv⟩ := h
    obtain ⟨y, hy, ry⟩ := lookupA_spec (P := P) hW (hρ m _ hm) (hρ k _ hk) hv
    exact ⟨y, ry, by simp only [execOp, Sem.run_bind, hy, Result.andThen_ok, Sem.run_pure]⟩
  · rename_i t x lo hi mx hop
    obtain ⟨dst, op, ty, pos, after, guard⟩ := o
    simp only at hop
    subst hop
    simp only [Option.bind_eq_some_iff] at h
    obtain ⟨xv, hx, l, hl, hh', hh, m, hm, hv⟩ := h
    obtain ⟨y, hy, ry⟩ := sliceA_spec (P := P) hW (hρ x _ hx) (evO_spec hρ hl) (evO_spec hρ hh) (evO_spec hρ hm) hv
    exact ⟨y, ry, by simp only [execOp, Sem.run_bind, hy, Result.andThen_ok, Sem.run_pure]⟩
  · rename_i c hop
    obtain ⟨dst, op, ty, pos, after, guard⟩ := o
    simp only at hop
    subst hop
    split at h
    · rename_i hcal
      simp only [Option.bind_eq_some_iff] at h
      obtain ⟨as, has, h⟩ := h
      have ras := evL_spec hρ _ _ has
      split at h
      · rename_i x
        simp only [Option.bind_eq_some_iff] at h
        obtain ⟨t, ht, hl⟩ := h
        obtain ⟨u, us, hu, rx, _⟩ := ras
        have ha0 : (c.args.map ρ)[0]? = some u := by rw [← Array.getElem?_toList, Array.toList_map, hu]; rfl
        obtain ⟨y, hy, ry⟩ := lenA_spec (ty := ty) hW ht ha0 rx hl
        refine ⟨y, ry, ?_⟩
        simp only [execOp, resolve, hcal, Sem.run_bind, Sem.run_pure, Result.andThen_ok, invoke, builtin, hy]
      · cases h
    · cases h
  · obtain ⟨u, ru, hu⟩ := quietA_spec hρ h
    exact ⟨u, ru, hu w⟩

theorem readsA_sound {ops : Array Oper} {w : World} {Q : Act → Prop} : ∀ (os : List Oper) (s s' : St), readsA P C.gl ops os s = some s' → ∀ {φ : Env} {a : Act}, SR C.gl w0 Pr φ s a w →
    (∀ a', SR C.gl w0 Pr φ s' a' w → Q a') → wpStill P ops w Q os a
  | [], s, s', h, φ, a, hs, hQ => by cases h; exact hQ a hs
  | o :: os, s, s', h, φ, a, hs, hQ => by
    simp only [readsA] at h
    rw [← yieldedA_spec ops hs.tm] at h
    simp only [wpStill]
    split at h
    · rename_i hw
      rw [if_pos hw]
      simp only [Option.bind_eq_some_iff] at h
      obtain ⟨v, hv, h⟩ := h
      obtain ⟨u, ru, hu⟩ := readA_spec (P := P) hs.wr (fun x v hx => evalA_spec hs.gi hs.tm x v hx) hv
      unfold Oper.still
      rw [hu, Oper.stillUpon_value]
      exact readsA_sound os _ s' h ⟨hs.wr, putA_spec hs.tm o.dst ru, by rw [put_defers]; exact hs.df, hs.gi⟩ hQ
    · rename_i hw
      rw [if_neg hw]
      exact readsA_sound os _ s' h ⟨hs.wr, putA_spec hs.tm o.dst ⟨#[], rfl, rfl⟩, by rw [put_defers]; exact hs.df, hs.gi⟩ hQ

def AExit.conc : AExit → Exit
  | .normal => .normal
  | .exit id => .exit id
  | .ret => .ret

theorem evC_sound {call : CallF} (hcall : CallOk P C.gl w0 Pr call) (pl : Nat → Option Way) (n : Nat) : ∀ (c : Code) (_ : waysOk pl c = true ∧ waysSure P pl c) (s : St) (ex : AExit) (s' : St), evC P C call pl n c s = some (ex, s') → ∀ {φ : Env} {a : Act} {w : World}, SR C.gl w0 Pr φ s a w →
    ∀ {Q : Exit → Act → World → Prop}, (∀ φ' a' w', φ.le φ' → SR C.gl w0 Pr φ' s' a' w' → Q ex.conc a' w') → c.wp P Q a w
  | .skip, hpl, s, ex, s', h, φ, a, w, hs, Q, hQ => by
    simp only [evC, Option.some.injEq, Prod.mk.injEq] at h; obtain ⟨rfl, rfl⟩ := h
    exact wp_skip (hQ φ a w (Env.le_refl φ) hs)
  | .region id ops false, hpl, s, ex, s', h, φ, a, w, hs, Q, hQ => by
    simp only [evC, Option.map_eq_some_iff, Prod.mk.injEq] at h; obtain ⟨s1, h1, rfl, rfl⟩ := h
    exact wp_region (runOps_sound hcall _ s s1 h1 hs hQ)
  | .region id ⟨l⟩ true, hpl, s, ex, s', h, φ, a, w, hs, Q, hQ => by
    simp only [evC] at h
    obtain ⟨hpl, hsu⟩ := hpl
    simp only [waysOk] at hpl
    simp only [waysSure] at hsu
    split at h
    · rename_i p hp
      rw [hp] at hpl
      simp only [wayOk, Bool.and_eq_true] at hpl
      simp only [Option.map_eq_some_iff, Prod.mk.injEq] at h; obtain ⟨s1, h1, rfl, rfl⟩ := h
      have hs1 : SR C.gl w0 Pr φ (s.1, if (Array.mk l).any (allocates ·.op) then s.2 ++ List.replicate (Array.mk l).size .fresh else s.2) a { w with drawn := w.drawn + 1 } := by
        refine ⟨?_, hs.tm, hs.df, hs.gi⟩
        simp only
        split
        · exact (hs.wr.drew _).reserve _
        · exact hs.wr.drew _
      refine wp_mono (wp_region_any C.mixed (runPlan_sound (C := C) (K := fun a w => Q .normal a w) hcall hpl.1 hpl.2 h1 hs1 hQ)) fun e a w he => ?_
      cases e <;> first | exact he | exact he.elim
    · rename_i hp
      rw [hp] at hpl
      simp only [wayOk] at hpl
      simp only [Option.map_eq_some_iff, Prod.mk.injEq] at h; obtain ⟨s1, h1, rfl, rfl⟩ := h
      refine wp_region_still C.mixed hpl ?_
      exact readsA_sound (C := C) (w := { w with drawn := w.drawn + 1 }) l s s1 h1 ⟨hs.wr.drew _, hs.tm, hs.df, hs.gi⟩ fun a' hs' => hQ φ a' _ (Env.le_refl φ) hs'
    · rename_i k hp
      rw [hp] at hpl
      simp only [wayOk] at hpl
      simp only [Option.bind_eq_some_iff, Option.map_eq_some_iff, Prod.mk.injEq] at h
      obtain ⟨s1, h1, s2, h2, rfl, rfl⟩ := h
      refine wp_region_still_tail (l := l) k C.mixed hpl ?_
      refine readsA_sound (C := C) (w := { w with drawn := w.drawn + 1 }) (l.take k) s s1 h1 ⟨hs.wr.drew _, hs.tm, hs.df, hs.gi⟩ fun a' hs' => ?_
      rw [← wpOps_eq_wpList (l.drop k) k (fun j => by simp [List.getElem?_drop])]
      exact runOps_sound hcall _ s1 s2 h2 hs' hQ
    · rename_i p k hp
      rw [hp] at hpl
      simp only [wayOk, Bool.and_eq_true] at hpl
      obtain ⟨hns, hpl⟩ := hpl
      simp only [Option.bind_eq_some_iff, Option.map_eq_some_iff, Prod.mk.injEq] at h
      obtain ⟨s1, h1, s2, h2, rfl, rfl⟩ := h
      have hs1 : SR C.gl w0 Pr φ (s.1, if (Array.mk l).any (allocates ·.op) then s.2 ++ List.replicate (Array.mk l).size .fresh else s.2) a { w with drawn := w.drawn + 1 } := by
        refine ⟨?_, hs.tm, hs.df, hs.gi⟩
        simp only
        split
        · exact (hs.wr.drew _).reserve _
        · exact hs.wr.drew _
      refine wp_mono (wp_region_any (Q := fun e a w => match e with | .normal => Q .normal a w | _ => False) C.mixed ?_) fun e a w he => by cases e <;> first | exact he | exact he.elim
      split at hpl
      · rename_i n L he
        simp only [Bool.and_eq_true, beq_iff_eq] at hpl
        obtain ⟨rfl, hlex⟩ := hpl
        refine plan_sound (C := C) (K := fun a w => Q .normal a w) hcall hns p _ _ _ _ s1 he h1 hs1 fun φ' a' w' hle hs' => ?_
        refine wpAny_of_still (Q := fun a => Q .normal a w') (Q' := fun e a w => match e with | .normal => Q .normal a w | _ => False) (fun _ h => h) _ _ _ ?_
        exact wpAnyS_lex hns (l.drop k) k L a' (fun j => by simp [List.getElem?_drop]) hlex (readsA_sound (C := C) (l.drop k) s1 s2 h2 hs' fun a2 hs2 => hQ φ' a2 w' hle hs2)
      · cases hpl
    · rename_i p kl hp
      rw [hp] at hpl hsu
      simp only [wayOk, Bool.and_eq_true] at hpl
      simp only [waySure] at hsu
      simp only [Option.map_eq_some_iff, Prod.mk.injEq] at h; obtain ⟨e, he, rfl, rfl⟩ := h
      have hm := List.mem_of_find?_eq_some he
      have hb := List.find?_some he
      have hb := stBeq_eq hb
      subst hb
      have h1 := hsu e hm C call
      have hs1 : SR C.gl w0 Pr φ (e.1.1, if (Array.mk l).any (allocates ·.op) then e.1.2 ++ List.replicate (Array.mk l).size .fresh else e.1.2) a { w with drawn := w.drawn + 1 } := by
        refine ⟨?_, hs.tm, hs.df, hs.gi⟩
        simp only
        split
        · exact (hs.wr.drew _).reserve _
        · exact hs.wr.drew _
      refine wp_mono (wp_region_any C.mixed (runPlan_sound (C := C) (K := fun a w => Q .normal a w) hcall hpl.1 hpl.2 h1 hs1 hQ)) fun e a w he => ?_
      cases e <;> first | exact he | exact he.elim
    · cases h
  | .seq x y, hpl, s, ex, s', h, φ, a, w, hs, Q, hQ => by
    simp only [evC] at h
    simp only [waysOk, waysSure, Bool.and_eq_true] at hpl
    refine wp_seq ?_
    split at h
    · rename_i s1 h1
      exact evC_sound hcall pl n x ⟨hpl.1.1, hpl.2.1⟩ s .normal s1 h1 hs fun φ' a' w' hle hs' => evC_sound hcall pl n y ⟨hpl.1.2, hpl.2.2⟩ s1 ex s' h hs' fun φ'' a'' w'' hle' hs'' => hQ φ'' a'' w'' (Env.le_trans hle hle') hs''
    · rename_i r hne
      refine evC_sound hcall pl n x ⟨hpl.1.1, hpl.2.1⟩ s ex s' h hs fun φ' a' w' hle hs' => ?_
      have := hQ φ' a' w' hle hs'
      cases ex with
      | normal => exact absurd h (hne s')
      | exit id => exact this
      | ret => exact this
  | .cond c x y, hpl, s, ex, s', h, φ, a, w, hs, Q, hQ => by
    simp only [evC] at h
    simp only [waysOk, waysSure, Bool.and_eq_true] at hpl
    split at h
    · rename_i hc
      exact wp_cond_true (evalA_spec hs.gi hs.tm c _ hc) (evC_sound hcall pl n x ⟨hpl.1.1, hpl.2.1⟩ s ex s' h hs hQ)
    · rename_i hc
      exact wp_cond_false (evalA_spec hs.gi hs.tm c _ hc) (evC_sound hcall pl n y ⟨hpl.1.2, hpl.2.2⟩ s ex s' h hs hQ)
    · cases h
  | .block id body, hpl, s, ex, s', h, φ, a, w, hs, Q, hQ => by
    simp only [evC] at h
    simp only [waysOk, waysSure] at hpl
    refine wp_block ?_
    split at h
    · rename_i id' s1 h1
      refine evC_sound hcall pl n body hpl s (.exit id') s1 h1 hs fun φ' a' w' hle hs' => ?_
      simp only [AExit.conc, Exit.inBlock]
      split at h
      · rename_i he
        cases h; rw [if_pos he]; exact hQ φ' a' w' hle hs'
      · rename_i he
        cases h; rw [if_neg he]; exact hQ φ' a' w' hle hs'
    · rename_i r hne
      refine evC_sound hcall pl n body hpl s ex s' h hs fun φ' a' w' hle hs' => ?_
      have := hQ φ' a' w' hle hs'
      cases ex with
      | normal => exact this
      | exit id' => exact absurd h (hne id' s')
      | ret => exact this
  | .loop body, hpl, s, ex, s', h, φ, a, w, hs, Q, hQ => by
    simp only [evC] at h
    simp only [waysOk, waysSure] at hpl
    refine wp_loop_rounds n ?_
    exact loop_go (fun s ex s' h φ a w hs Q hQ => evC_sound hcall pl n body hpl s ex s' h hs hQ) n s ex s' h φ a w hs Q hQ
  | .exit id, hpl, s, ex, s', h, φ, a, w, hs, Q, hQ => by
    simp only [evC, Option.some.injEq, Prod.mk.injEq] at h; obtain ⟨rfl, rfl⟩ := h
    exact wp_exit (hQ φ a w (Env.le_refl φ) hs)
  | .ret, hpl, s, ex, s', h, φ, a, w, hs, Q, hQ => by
    simp only [evC, Option.some.injEq, Prod.mk.injEq] at h; obtain ⟨rfl, rfl⟩ := h
    exact wp_ret (hQ φ a w (Env.le_refl φ) hs)
  | .rangeFunc .., hpl, s, ex, s', h, φ, a, w, hs, Q, hQ => by simp [evC] at h
  | .scope _, hpl, s, ex, s', h, φ, a, w, hs, Q, hQ => by simp [evC] at h
  | .label _, hpl, s, ex, s', h, φ, a, w, hs, Q, hQ => by simp [evC] at h
  | .goto _, hpl, s, ex, s', h, φ, a, w, hs, Q, hQ => by simp [evC] at h
  | .refuse _, hpl, s, ex, s', h, φ, a, w, hs, Q, hQ => by simp [evC] at h
where
  loop_go {f : St → Option (AExit × St)} {body : Code} (hf : ∀ (s : St) (ex : AExit) (s' : St), f s = some (ex, s') → ∀ (φ : Env) (a : Act) (w : World), SR C.gl w0 Pr φ s a w →
      ∀ (Q : Exit → Act → World → Prop), (∀ φ' a' w', φ.le φ' → SR C.gl w0 Pr φ' s' a' w' → Q ex.conc a' w') → body.wp P Q a w) : ∀ (m : Nat) (s : St) (ex : AExit) (s' : St), loopA f m s = some (ex, s') →
      ∀ (φ : Env) (a : Act) (w : World), SR C.gl w0 Pr φ s a w → ∀ (Q : Exit → Act → World → Prop), (∀ φ' a' w', φ.le φ' → SR C.gl w0 Pr φ' s' a' w' → Q ex.conc a' w') → Code.rounds P body Q m a w
    | 0, s, ex, s', h, φ, a, w, hs, Q, hQ => by simp [loopA] at h
    | m + 1, s, ex, s', h, φ, a, w, hs, Q, hQ => by
      simp only [loopA] at h
      rw [rounds_succ]
      split at h
      · rename_i s1 h1
        exact hf s .normal s1 h1 φ a w hs _ fun φ' a' w' hle hs' => loop_go hf m s1 ex s' h φ' a' w' hs' Q fun φ'' a'' w'' hle' hs'' => hQ φ'' a'' w'' (Env.le_trans hle hle') hs''
      · rename_i r hne
        refine hf s ex s' h φ a w hs _ fun φ' a' w' hle hs' => ?_
        have := hQ φ' a' w' hle hs'
        cases ex with
        | normal => exact absurd h (hne s')
        | exit id => exact this
        | ret => exact this

def resM (tmps : Array Value) : ResultVar → Sem Value
  | .tmp t => pure (tmps.getD t undef)
  | .cell x t => do loadVar t (← asAddr (tmps.getD x undef))

theorem results_eq (fn : Func) (tmps : Array Value) : results fn tmps = (do let vs ← fn.results.mapM (resM tmps); pure (if h : vs.size = 1 then vs[0] else .tuple vs)) := by
  rfl

theorem resultsA_spec {φ : Env} {H : AH} {w : World} {tm : List AV} {a : Act} (hW : WR w0 Pr φ H w) (ht : VRs φ tm a.tmps.toList) : ∀ (rs : List ResultVar) (vs : List AV), resultsA P tm H rs = some vs →
    ∃ us : List Value, (rs.mapM (resM a.tmps)).run P w = .ok us w ∧ VRs φ vs us
  | [], vs, h => by cases h; exact ⟨[], rfl, rfl⟩
  | .tmp t :: rs, vs, h => by
    simp only [resultsA, Option.map_eq_some_iff] at h
    obtain ⟨vs', h', rfl⟩ := h
    obtain ⟨us, hu, ru⟩ := resultsA_spec hW ht rs vs' h'
    refine ⟨a.tmps.getD t undef :: us, ?_, .cons (evalA_spec (gl := fun _ => none) (fun _ _ h => by cases h) ht (.tmp t) _ rfl) ru⟩
    simp only [List.mapM_cons, resM, Sem.run_bind, Sem.run_pure, Result.andThen_ok, hu]
  | .cell x t :: rs, vs, h => by
    simp only [resultsA] at h
    split at h
    · rename_i i k hx
      simp only [Option.bind_eq_some_iff, Option.map_eq_some_iff] at h
      obtain ⟨v, hv, vs', h', rfl⟩ := h
      obtain ⟨us, hu, ru⟩ := resultsA_spec hW ht rs vs' h'
      have := evalA_spec (gl := fun _ => none) (fun _ _ h => by cases h) ht (.tmp x) (.ptr i k) (by simp only [evalA, hx])
      obtain ⟨b, o, z, hφ, hval⟩ := this
      obtain ⟨y, hy, ry⟩ := ldA_spec (P := P) hW hφ hv
      refine ⟨y :: us, ?_, .cons ry ru⟩
      have hval' : a.tmps.getD x undef = .pointer (some ⟨b, o + k, none⟩) := hval
      simp only [List.mapM_cons, resM, Sem.run_bind, hval', asAddr, Sem.run_pure, Result.andThen_ok, hy, hu]
    · cases h

theorem retA_spec {φ : Env} {s : St} {a : Act} {w : World} {fn : Func} {v : AV} {H' : AH} (hs : SR C.gl w0 Pr φ s a w) (h : retA P fn s = some (v, H')) :
    H' = s.2 ∧ ∃ u, (results fn a.tmps).run P w = .ok u w ∧ VR φ v u := by
  simp only [retA, Option.map_eq_some_iff, Prod.mk.injEq] at h
  obtain ⟨vs, hvs, hv, rfl⟩ := h
  obtain ⟨us, hu, ru⟩ := resultsA_spec (P := P) hs.wr hs.tm fn.results.toList vs hvs
  refine ⟨rfl, ?_⟩
  have hrun : (results fn a.tmps).run P w = .ok (if h : us.toArray.size = 1 then us.toArray[0] else .tuple us.toArray) w := by
    rw [results_eq]
    simp only [Array.mapM_eq_mapM_toList, Sem.run_bind, Sem.run_map, hu, Result.andThen_ok, Sem.run_pure]
  refine ⟨_, hrun, ?_⟩
  match vs, us, ru, hv with
  | [], [], _, hv => subst hv; exact ⟨#[], rfl, rfl⟩
  | [x], [u], ⟨u', us', e, r, _⟩, hv => subst hv; cases e; exact r
  | x :: y :: vs, [], ⟨_, _, e, _⟩, _ => cases e
  | x :: y :: vs, [u], ⟨_, _, e, _, ⟨_, _, e', _⟩⟩, _ => cases e; cases e'
  | x :: y :: vs, u :: u' :: us, r, hv =>
    subst hv
    exact ⟨(u :: u' :: us).toArray, by simp, by simpa using r⟩

theorem evCall_sound (hpin : C.pin w0 Pr) (W : Ways P) : ∀ n, CallOk P C.gl w0 Pr (evCall P C W n)
  | 0 => fun f args H v H' h => by simp [evCall] at h
  | n + 1 => fun f args H v H' h φ w vs hg hW hr => by
    simp only [evCall] at h
    split at h
    · rename_i r hr0
      cases h
      exact C.orcOk w0 Pr hpin f args H v H' hr0 φ w vs hg hW hr
    rename_i hr0
    simp only [Option.bind_eq_some_iff] at h
    obtain ⟨fn, hfn, c, hc, h⟩ := h
    have hs : SR C.gl w0 Pr φ (args ++ List.replicate (fn.ntmps - args.length) undefA, H) { tmps := vs ++ Array.replicate (fn.ntmps - vs.size) undef, defers := [] } w := by
      refine ⟨hW, ?_, rfl, hg⟩
      have hl : args.length = vs.size := by simpa using hr.length
      have hrep : ∀ m, VRs φ (List.replicate m undefA) (List.replicate m undef) := fun m => by
        induction m with
        | zero => exact rfl
        | succ m ih => exact .cons ⟨#[], rfl, rfl⟩ ih
      simpa [hl] using hr.append (hrep (fn.ntmps - args.length))
    refine calls_of_wp hfn hc ?_
    split at h
    · rename_i s1 h1
      refine evC_sound (C := C) (evCall_sound hpin W n) (W.pl f) n c (W.ok f fn c hfn hc) _ .normal s1 h1 hs fun φ' a' w' hle hs' => ?_
      obtain ⟨rfl, u, hu, ru⟩ := retA_spec hs' h
      exact ⟨hs'.df, u, hu, φ', u, hle, rfl, ru, hs'.wr⟩
    · rename_i s1 h1
      refine evC_sound (C := C) (evCall_sound hpin W n) (W.pl f) n c (W.ok f fn c hfn hc) _ .ret s1 h1 hs fun φ' a' w' hle hs' => ?_
      obtain ⟨rfl, u, hu, ru⟩ := retA_spec hs' h
      exact ⟨hs'.df, u, hu, φ', u, hle, rfl, ru, hs'.wr⟩
    · cases h

end
end Go.Dv
