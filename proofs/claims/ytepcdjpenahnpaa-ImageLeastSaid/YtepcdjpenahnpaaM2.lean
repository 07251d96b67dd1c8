/- Texts of the evaluator and of the laws' walks, put together in the order of their build: Dv12, Dv13, Dv14, Dv15, Dv16, Dv17, Dv18, Dv19, Dv20, Dv21, Dv22, Dv23, Dv24, Dv25 (own work). -/
import Derived.Test.YtepcdjpenahnpaaM1
import Derived.Laws.StructEq
import Derived.Laws.BytesString
import Derived.LoopN

/- That the model's operation does what the abstract one says (own work). -/

namespace Go.Dv
set_option linter.unusedSimpArgs false
set_option linter.unusedVariables false

section
variable {P : Program} {C : Cfg P} {w0 : World} {Pr : Nat → Prop} {φ : Env} {H : AH} {w : World} {ev : Operand → Option AV} {ρ : Operand → Value}

theorem evL_spec (hρ : ∀ x a, ev x = some a → VR φ a (ρ x)) : ∀ (xs : List Operand) (as : List AV), evL ev xs = some as → VRs φ as (xs.map ρ)
  | [], as, h => by cases h; rfl
  | x :: xs, as, h => by
    simp only [evL, Option.bind_eq_some_iff, Option.map_eq_some_iff] at h
    obtain ⟨v, hv, vs, hvs, rfl⟩ := h
    exact .cons (hρ x v hv) (evL_spec hρ xs vs hvs)

theorem evP_spec (hρ : ∀ x a, ev x = some a → VR φ a (ρ x)) : ∀ (xs : List (Nat × Operand)) (as : List (Nat × AV)), evP ev xs = some as → PVR φ as (xs.map fun (i, x) => (i, ρ x))
  | [], as, h => by cases h; rfl
  | (i, x) :: xs, as, h => by
    simp only [evP, Option.bind_eq_some_iff, Option.map_eq_some_iff] at h
    obtain ⟨v, hv, vs, hvs, rfl⟩ := h
    exact ⟨ρ x, _, rfl, hρ x v hv, evP_spec hρ xs vs hvs⟩

theorem evO_spec (hρ : ∀ x a, ev x = some a → VR φ a (ρ x)) {x : Option Operand} {a : Option AV} (h : evO ev x = some a) : OVR φ a (x.map ρ) := by
  cases x with
  | none => cases h; rfl
  | some x =>
    simp only [evO, Option.map_eq_some_iff] at h
    obtain ⟨v, hv, rfl⟩ := h
    exact ⟨ρ x, rfl, hρ x v hv⟩

/-- A value that is yielded. -/
theorem fits_val {φ' : Env} {w' : World} {v : AV} {s : Sem Value} {u : Value} (hs : s.run P w = .ok u w') (r : VR φ' v u) : Fits φ' w' (.val v) ((do pure (Next.value (← s)) : Sem Next).run P w) :=
  ⟨u, by simp only [Sem.run_bind, hs, Result.andThen_ok, Sem.run_pure], r⟩
theorem fits_skip {φ' : Env} {w' : World} {s : Sem Unit} (hs : s.run P w = .ok () w') : Fits φ' w' .skip ((do s; pure Next.skip : Sem Next).run P w) := by
  simp only [Fits, Sem.run_bind, hs, Result.andThen_ok, Sem.run_pure]

theorem pureA_spec (hW : WR w0 Pr φ H w) (hρ : ∀ x a, ev x = some a → VR φ a (ρ x)) {o : Oper} {n : ANext} (h : pureA P ev o = some n) : Fits φ w n ((execOp ρ o).run P w) := by
  unfold pureA at h
  split at h
  · rename_i hc
    simp only [Bool.and_eq_true, List.all_eq_true] at hc
    have hcong : execOp ρ o = execOp (rhoOf ev) o := execOp_congr o (fun cs b e => by rw [e] at hc; exact absurd hc.1 (by simp [notSelect])) fun x hx => by
      obtain ⟨u, hu⟩ := Option.isSome_iff_exists.1 (hc.2 x (by simpa using hx))
      have : rhoOf ev x = u := by simp [rhoOf, hu]
      rw [this]
      simp only [Option.bind_eq_some_iff] at hu
      obtain ⟨a, ha, hav⟩ := hu
      exact toV_spec a u hav _ (hρ x a ha)
    rw [hcong]
    split at h
    · rename_i v hv
      simp only [Option.map_eq_some_iff] at h
      obtain ⟨a, ha, rfl⟩ := h
      exact ⟨v, pureRun_spec _ _ hv w, ofV_spec _ _ _ ha⟩
    · cases h
  · cases h

theorem pureA_fin (hW : WR w0 Pr φ H w) (hρ : ∀ x a, ev x = some a → VR φ a (ρ x)) {o : Oper} {n : ANext} {H' : AH} (h : (pureA P ev o).map (fun n => (n, H)) = some (n, H')) :
    ∃ φ' w', φ.le φ' ∧ WR w0 Pr φ' H' w' ∧ Fits φ' w' n ((execOp ρ o).run P w) := by
  simp only [Option.map_eq_some_iff] at h
  obtain ⟨n', hn, he⟩ := h
  cases he
  exact ⟨φ, w, Env.le_refl φ, hW, pureA_spec hW hρ hn⟩

theorem run_sameAddr_other {a b : Addr} {ca cb : Array Value} {ea eb : TypeId} (hne : a.block ≠ b.block) (ha : w.heap[a.block]? = some (.cells ca ea (0, 0))) (hb : w.heap[b.block]? = some (.cells cb eb (0, 0))) :
    (sameAddr a b).run P w = .ok false w := by
  have e : (a.block == b.block) = false := by simpa using hne
  simp [sameAddr, e, World.frozen?, ha, hb, noView, viewAt, World.shape?, mayBeOne, stringish]

theorem eqVG_spec {t : TypeId} {x y : AV} {ux uy : Value} {r : Bool} (rx : VR φ x ux) (ry : VR φ y uy) (h : eqVG P t x y = some r) (op : BinOp) (X Y : Operand) (w : World) :
    (Op.equal t ux uy).run P w = .ok r w ∧ (eqGuard op t X Y ux uy).run P w = .ok () w ∧ binOp .eql t ux uy = (do pure (.bool (← Op.equal t ux uy))) ∧ binOp .neq t ux uy = (do pure (.bool (!(← Op.equal t ux uy)))) := by
  unfold eqVG at h
  split at h
  · cases h
  · cases h
  · rename_i hni hns
    split at h
    · cases h
    · rename_i hg
      have hg' : P.eqGuardType P.depth t = false := by simpa using hg
      refine ⟨eqVA_spec 6 Op.maxDepth (by decide) t x y ux uy r rx ry h w, ?_⟩
      clear hg
      unfold eqVA at h
      split at h
      · split at h
        · rename_i k a k' b; exact absurd rfl (hni k a)
        · cases h
      · split at h
        · simp only [VR] at rx ry; subst rx; subst ry
          exact ⟨by cases op <;> simp [eqGuard], rfl, rfl⟩
        · cases h
      · split at h
        · rename_i a b; exact absurd rfl (hns a)
        · cases h
      · split at h
        · obtain ⟨us, rfl, _⟩ := rx
          obtain ⟨vs, rfl, _⟩ := ry
          clear h
          exact ⟨by cases op <;> simp [eqGuard, run_program, hg'], rfl, rfl⟩
        · cases h
      · cases h

theorem eqA_spec (hW : WR w0 Pr φ H w) {t : TypeId} {x y : AV} {ux uy : Value} {r : Bool} (rx : VR φ x ux) (ry : VR φ y uy) (h : eqA P t H x y = some r) (op : BinOp) (X Y : Operand) :
    (Op.equal t ux uy).run P w = .ok r w ∧ (eqGuard op t X Y ux uy).run P w = .ok () w ∧ binOp .eql t ux uy = (do pure (.bool (← Op.equal t ux uy))) ∧ binOp .neq t ux uy = (do pure (.bool (!(← Op.equal t ux uy)))) := by
  have e : Op.equal t ux uy = Op.equalIn (9999 + 1) t ux uy := rfl
  generalize hN : 9999 = N at e
  unfold eqA at h
  split at h
  · rename_i elem hu
    split at h <;> first | (cases h; done) | skip
    · cases h; simp only [VR] at rx ry; subst rx; subst ry
      refine ⟨by rw [e]; simp [Op.equalIn, run_und hu], by cases op <;> simp [eqGuard], rfl, rfl⟩
    · cases h; obtain ⟨a, c, rfl, _⟩ := ry; simp only [VR] at rx; subst rx
      refine ⟨by rw [e]; simp [Op.equalIn, run_und hu], by cases op <;> simp [eqGuard], rfl, rfl⟩
    · cases h; obtain ⟨a, c, rfl, _⟩ := rx; simp only [VR] at ry; subst ry
      refine ⟨by rw [e]; simp [Op.equalIn, run_und hu], by cases op <;> simp [eqGuard], rfl, rfl⟩
  · rename_i k elem hu
    split at h <;> first | (cases h; done) | skip
    · cases h; simp only [VR] at rx ry; subst rx; subst ry
      refine ⟨by rw [e]; simp [Op.equalIn, run_und hu], by cases op <;> simp [eqGuard], rfl, rfl⟩
    · cases h; obtain ⟨b, z, _, rfl⟩ := ry; simp only [VR] at rx; subst rx
      refine ⟨by rw [e]; simp [Op.equalIn, run_und hu], by cases op <;> simp [eqGuard], rfl, rfl⟩
    · cases h; obtain ⟨b, z, _, rfl⟩ := rx; simp only [VR] at ry; subst ry
      refine ⟨by rw [e]; simp [Op.equalIn, run_und hu], by cases op <;> simp [eqGuard], rfl, rfl⟩
  · rename_i p1 p2 p3 hu
    split at h <;> first | (cases h; done) | skip
    · cases h; simp only [VR] at rx ry; subst rx; subst ry
      refine ⟨by rw [e]; simp [Op.equalIn, run_und hu], by cases op <;> simp [eqGuard], rfl, rfl⟩
    · cases h; obtain ⟨b, z, rfl, _⟩ := ry; simp only [VR] at rx; subst rx
      refine ⟨by rw [e]; simp [Op.equalIn, run_und hu], by cases op <;> simp [eqGuard], rfl, rfl⟩
    · cases h; obtain ⟨b, z, rfl, _⟩ := rx; simp only [VR] at ry; subst ry
      refine ⟨by rw [e]; simp [Op.equalIn, run_und hu], by cases op <;> simp [eqGuard], rfl, rfl⟩
  · rename_i ms hu
    split at h <;> first | (cases h; done) | skip
    · cases h; obtain ⟨b, rfl, _⟩ := ry; simp only [VR] at rx; subst rx
      refine ⟨by rw [e]; simp [Op.equalIn, run_und hu], by cases op <;> simp [eqGuard], rfl, rfl⟩
    · cases h; obtain ⟨b, rfl, _⟩ := rx; simp only [VR] at ry; subst ry
      refine ⟨by rw [e]; simp [Op.equalIn, run_und hu], by cases op <;> simp [eqGuard], rfl, rfl⟩
    · split at h
      · cases h
      · rename_i hne
        cases h; obtain ⟨b, rfl, _⟩ := rx; obtain ⟨b, rfl, _⟩ := ry
        refine ⟨by rw [e]; simp [Op.equalIn, run_und hu, hne], by cases op <;> simp [eqGuard], rfl, rfl⟩
  · rename_i el hu
    split at h <;> first | (cases h; done) | skip
    · cases h; simp only [VR] at rx ry; subst rx; subst ry
      refine ⟨by rw [e]; simp [Op.equalIn, run_und hu], by cases op <;> simp [eqGuard], rfl, rfl⟩
    · cases h; obtain ⟨b, o, z, _, rfl⟩ := ry; simp only [VR] at rx; subst rx
      refine ⟨by rw [e]; simp [Op.equalIn, run_und hu], by cases op <;> simp [eqGuard], rfl, rfl⟩
    · cases h; obtain ⟨b, o, z, _, rfl⟩ := rx; simp only [VR] at ry; subst ry
      refine ⟨by rw [e]; simp [Op.equalIn, run_und hu], by cases op <;> simp [eqGuard], rfl, rfl⟩
    · rename_i i k j l
      split at h
      · cases h
      · rename_i hsz
        simp only [Option.bind_eq_some_iff] at h
        obtain ⟨ti, hti, h⟩ := h
        obtain ⟨b, o, z, hφ, rfl⟩ := rx
        obtain ⟨b', o', z', hφ', rfl⟩ := ry
        refine ⟨?_, by cases op <;> simp [eqGuard], rfl, rfl⟩
        rw [e]
        simp only [Op.equalIn, Sem.run_bind, run_und hu, Result.andThen_ok, run_size hti, Sem.run_ite, ne_eq, hsz, not_false_iff, if_true]
        split at h
        · rename_i hij
          subst hij
          rw [hφ] at hφ'; cases hφ'
          cases h
          have : ((⟨b, o + k, none⟩ : Addr) == ⟨b, o + l, none⟩) = (k == l) := by
            rw [Bool.eq_iff_iff]; simp
          simp [sameAddr, this]
        · rename_i hij
          split at h
          · rename_i c1 e1 c2 e2 h1 h2
            cases h
            obtain ⟨b1, o1, z1, d1, hp1, hh1, _⟩ := hW.obj _ _ h1
            obtain ⟨b2, o2, z2, d2, hp2, hh2, _⟩ := hW.obj _ _ h2
            rw [hφ] at hp1; cases hp1
            rw [hφ'] at hp2; cases hp2
            have hne : b ≠ b' := fun e => hij (hW.inj i j _ _ ⟨_, h1, rfl⟩ ⟨_, h2, rfl⟩ hφ hφ' e)
            rw [run_sameAddr_other hne hh1 hh2]
          · cases h
  · exact eqVG_spec rx ry h op X Y w

theorem lenA_spec (hW : WR w0 Pr φ H w) {t : TypeId} {x v : AV} {ux : Value} {argTypes : Array TypeId} {args : Array Value} {ty : TypeId} (h0 : argTypes[0]? = some t) (ha : args[0]? = some ux) (rx : VR φ x ux) (h : lenA P t H x = some v) :
    ∃ u, (Builtin.len_ argTypes ty args).run P w = .ok u w ∧ VR φ v u := by
  unfold lenA at h
  split at h
  · rename_i e hu
    split at h
    · cases h; obtain ⟨a, c, rfl, _⟩ := rx
      exact ⟨_, by simp only [Builtin.len_, h0, ha, Sem.run_bind, run_und hu, Result.andThen_ok, Sem.run_pure]; rfl, rfl⟩
    · cases h; simp only [VR] at rx; subst rx
      exact ⟨_, by simp only [Builtin.len_, h0, ha, Sem.run_bind, run_und hu, Result.andThen_ok, Sem.run_pure]; rfl, rfl⟩
    · cases h
  · rename_i hu
    split at h
    · cases h; simp only [VR] at rx; subst rx
      exact ⟨_, by simp only [Builtin.len_, h0, ha, Sem.run_bind, run_und hu, Result.andThen_ok, Sem.run_pure]; rfl, rfl⟩
    · cases h
  · rename_i kt et hu
    simp only [Option.map_eq_some_iff] at h
    obtain ⟨es, hes, rfl⟩ := h
    rcases entriesA_spec hW rx hes with ⟨rfl, rfl⟩ | ⟨b, es', c, rfl, hheap, hm⟩
    · exact ⟨_, by simp only [Builtin.len_, h0, ha, Sem.run_bind, run_und hu, Result.andThen_ok, Sem.run_pure]; rfl, rfl⟩
    · refine ⟨_, by simp only [Builtin.len_, h0, ha, Sem.run_bind, run_und hu, Result.andThen_ok, run_getMap hheap, Sem.run_pure]; rfl, ?_⟩
      simp only [VR, goInt]
      rw [hm.length]; simp
  · cases h

theorem run_callFunc {g : FuncId} {fn : Func} {args : Array Value} (hf : P.funcs[g]? = some fn) (hb : fn.body.isSome = true) (hn : (fn.name == "runtime.NumGoroutine") = false) :
    (callFunc g args).run P w = .ok (.enter g args) w := by
  have : fn.body.isNone = false := by cases h : fn.body <;> simp_all
  simp only [callFunc, Sem.run_bind, run_program, Result.andThen_ok, hf, hn, Bool.false_eq_true, if_false, this, Sem.run_pure]

theorem callA_spec (hW : WR w0 Pr φ H w) (hρ : ∀ x a, ev x = some a → VR φ a (ρ x)) {slot : Option Nat} {dst : Option Tmp} {ty : TypeId} {pos : String} {after : Array Edge} {guard : Option (Nat × Bool)} {c : Call} {n : ANext} {H' : AH}
    (h : callA P C slot ev ⟨dst, .call c, ty, pos, after, guard⟩ c H = some (n, H')) :
    ∃ φ' w', φ.le φ' ∧ WR w0 Pr φ' H' w' ∧ Fits φ' w' n ((execOp ρ ⟨dst, .call c, ty, pos, after, guard⟩).run P w) := by
  unfold callA at h
  split at h
  · rename_i f hcal
    simp only [Option.bind_eq_some_iff] at h
    obtain ⟨fv, hfv, as, has, h⟩ := h
    split at h
    case h_2 => cases h
    rename_i g first cap
    simp only [Option.bind_eq_some_iff] at h
    obtain ⟨fn, hfn, h⟩ := h
    split at h
    case isFalse => cases h
    rename_i hb
    cases h
    obtain ⟨f', c', hval, rf, rc⟩ := hρ f _ hfv
    have ras := evL_spec hρ _ _ has
    refine ⟨φ, w, Env.le_refl φ, hW, (f' ++ c.args.map ρ) ++ c', ?_, ?_⟩
    · simp only [execOp, resolve, hcal, hval, Deferred.ofValue, Sem.run_bind, Sem.run_pure, Result.andThen_ok, invoke, run_callFunc hfn hb (C.name g fn hfn)]
    · simpa using (rf.append ras).append rc
  · rename_i r name hcal
    simp only [Option.bind_eq_some_iff] at h
    obtain ⟨rv, hrv, as, has, h⟩ := h
    split at h
    case h_2 => cases h
    rename_i t v
    simp only [Option.bind_eq_some_iff] at h
    obtain ⟨g, hg, fn, hfn, h⟩ := h
    split at h
    case isFalse => cases h
    rename_i hb
    cases h
    obtain ⟨u, hval, ru⟩ := hρ r _ hrv
    have ras := evL_spec hρ _ _ has
    refine ⟨φ, w, Env.le_refl φ, hW, #[u] ++ c.args.map ρ, ?_, ?_⟩
    · have hx : (#[ρ r] ++ c.args.map ρ).extract 1 (#[ρ r] ++ c.args.map ρ).size = c.args.map ρ := by
        apply Array.toList_inj.1
        simp [Array.toList_extract, List.extract_eq_take_drop, List.take_of_length_le]
      have h0 : (#[ρ r] ++ c.args.map ρ)[0]? = some (ρ r) := by rw [Array.getElem?_append_left (by simp)]; rfl
      have hm := C.methOk t name g hg u w
      have hcf := run_callFunc (w := w) (args := #[u] ++ c.args.map ρ) hfn hb (C.name g fn hfn)
      rw [hval] at hx h0
      simp only [execOp, resolve, hcal, Sem.run_bind, Sem.run_pure, Result.andThen_ok, invoke, hval, h0, callMethod, run_program, hm, hx, hcf]
    · simpa using VRs.cons ru ras
  · rename_i b hcal
    simp only [Option.bind_eq_some_iff] at h
    obtain ⟨as, has, h⟩ := h
    have ras := evL_spec hρ _ _ has
    split at h
    · rename_i x
      simp only [Option.map_eq_some_iff, Option.bind_eq_some_iff] at h
      obtain ⟨v, ⟨t, ht, hl⟩, he⟩ := h
      cases he
      obtain ⟨u, us, hu, rx, _⟩ := ras
      have ha0 : (c.args.map ρ)[0]? = some u := by rw [← Array.getElem?_toList, Array.toList_map, hu]; rfl
      obtain ⟨y, hy, ry⟩ := lenA_spec (ty := ty) hW ht ha0 rx hl
      refine ⟨φ, w, Env.le_refl φ, hW, y, ?_, ry⟩
      simp only [execOp, resolve, hcal, Sem.run_bind, Sem.run_pure, Result.andThen_ok, invoke, builtin, hy]
    · rename_i s x
      simp only [Option.map_eq_some_iff, Option.bind_eq_some_iff] at h
      obtain ⟨⟨v, H1⟩, ⟨t, ht, hl⟩, he⟩ := h
      cases he
      obtain ⟨us, us', hus, rs, ux, us'', hux, rx, _⟩ := ras
      subst hux
      have ha0 : (c.args.map ρ)[0]? = some us := by rw [← Array.getElem?_toList, Array.toList_map, hus]; rfl
      have ha1 : (c.args.map ρ)[1]? = some ux := by rw [← Array.getElem?_toList, Array.toList_map, hus]; rfl
      obtain ⟨φ', w', y, hle, hW', hy, ry⟩ := appendA_spec (ty := ty) hW ht rfl ha0 ha1 rs rx hl
      refine ⟨φ', w', hle, hW', y, ?_, ry⟩
      simp only [execOp, resolve, hcal, Sem.run_bind, Sem.run_pure, Result.andThen_ok, invoke, builtin, hy]
    · rename_i x
      simp only [Option.map_eq_some_iff, Option.bind_eq_some_iff] at h
      obtain ⟨H1, ⟨t, ht, hl⟩, he⟩ := h
      cases he
      obtain ⟨u, us, hu, rx, _⟩ := ras
      have ha0 : (c.args.map ρ)[0]? = some u := by rw [← Array.getElem?_toList, Array.toList_map, hu]; rfl
      obtain ⟨w', hW', hy⟩ := clearA_spec (ty := ty) hW ht ha0 rx hl
      refine ⟨φ, w', Env.le_refl φ, hW', .tuple #[], ?_, _, rfl, rfl⟩
      simp only [execOp, resolve, hcal, Sem.run_bind, Sem.run_pure, Result.andThen_ok, invoke, builtin, hy]
    · rename_i s x
      simp only [Option.map_eq_some_iff, Option.bind_eq_some_iff] at h
      obtain ⟨⟨v, H1⟩, ⟨t, ht, hl⟩, he⟩ := h
      cases he
      obtain ⟨us, us', hus, rs, ux, us'', hux, rx, _⟩ := ras
      subst hux
      have ha0 : (c.args.map ρ)[0]? = some us := by rw [← Array.getElem?_toList, Array.toList_map, hus]; rfl
      have ha1 : (c.args.map ρ)[1]? = some ux := by rw [← Array.getElem?_toList, Array.toList_map, hus]; rfl
      obtain ⟨w', y, hW', hy, ry⟩ := copyA_spec (ty := ty) hW ht ha0 ha1 rs rx hl
      refine ⟨φ, w', Env.le_refl φ, hW', y, ?_, ry⟩
      simp only [execOp, resolve, hcal, Sem.run_bind, Sem.run_pure, Result.andThen_ok, invoke, builtin, hy]
    · exact pureA_fin hW hρ h

end
end Go.Dv

/- Every operation: the model's does what the abstract one says (own work). -/

namespace Go.Dv

section
variable {P : Program} {C : Cfg P} {w0 : World} {Pr : Nat → Prop} {φ : Env} {H : AH} {w : World} {ev : Operand → Option AV} {ρ : Operand → Value}

theorem intBinA_spec {op : BinOp} {k : IntKind} {a b : Int} {v : AV} (h : intBinA op k a b = some v) (t : TypeId) (X Y : Operand) :
    ∃ u, (do eqGuard op t X Y (.int k a) (.int k b); binOp op t (.int k a) (.int k b) : Sem Value).run P w = .ok u w ∧ VR φ v u := by
  cases op <;> simp only [intBinA] at h <;> try (cases h; done)
  case quo => split at h <;> cases h; rename_i hb; exact ⟨_, by simp [eqGuard, binOp, Op.intDiv, hb], rfl⟩
  case rem => split at h <;> cases h; rename_i hb; exact ⟨_, by simp [eqGuard, binOp, Op.intDiv, hb], rfl⟩
  all_goals (cases h; refine ⟨_, ?_, rfl⟩; simp [eqGuard, binOp, Op.intArith, Op.intCmp])

theorem nilCheckA_spec {x v : AV} {u : Value} (h : nilCheckA x = some v) (r : VR φ x u) (o : Oper) (X : Operand) (ho : o.op = .nilCheck X) (hX : ρ X = u) : (execOp ρ o).run P w = .ok (.value u) w ∧ v = x := by
  subst hX
  cases x <;> simp only [nilCheckA] at h <;> try (cases h; done)
  case func fn f c =>
    cases fn <;> simp only at h <;> try (cases h; done)
    all_goals
      cases h
      obtain ⟨f', c', e, _⟩ := r
      exact ⟨by simp [execOp, ho, e], rfl⟩
  case ptr => cases h; obtain ⟨_, _, _, _, e⟩ := r; exact ⟨by simp [execOp, ho, e], rfl⟩
  case slice => cases h; obtain ⟨_, _, e, _⟩ := r; exact ⟨by simp [execOp, ho, e], rfl⟩
  case map => cases h; obtain ⟨_, _, _, e⟩ := r; exact ⟨by simp [execOp, ho, e], rfl⟩
  case iface => cases h; obtain ⟨_, e, _⟩ := r; exact ⟨by simp [execOp, ho, e], rfl⟩
  case agg => cases h; obtain ⟨_, e, _⟩ := r; exact ⟨by simp [execOp, ho, e], rfl⟩
  case tuple => cases h; obtain ⟨_, e, _⟩ := r; exact ⟨by simp [execOp, ho, e], rfl⟩
  all_goals (cases h; simp only [VR] at r; exact ⟨by simp [execOp, ho, r], rfl⟩)

theorem bytesOfA_spec : ∀ (cs : List AV) (ns : List Int) (vs : List Value), bytesOfA cs = some ns → VRs φ cs vs → vs = ns.map (Value.int .u8)
  | [], ns, vs, h, r => by simp only [bytesOfA, Option.some.injEq] at h; subst h; exact r
  | x :: cs, ns, vs, h, r => by
    unfold bytesOfA at h
    split at h
    · rename_i e; cases e
    · rename_i e
      cases e
      simp only [Option.map_eq_some_iff] at h
      obtain ⟨ms, hm, rfl⟩ := h
      obtain ⟨u, us, rfl, ru, rus⟩ := r
      rw [bytesOfA_spec _ ms us hm rus, show u = _ from ru]; rfl
    · cases h
theorem strA_spec (hW : WR w0 Pr φ H w) {t u : TypeId} {v : AV} {uv : Value} {s : ByteArray} (r : VR φ v uv) (h : strA P H t u v = some s) : (convert t u uv).run P w = .ok (.string s) w := by
  unfold strA at h
  split at h
  · rename_i e ht hu
    split at h
    · rename_i he
      split at h
      · simp only [VR] at r
        subst r
        cases h
        rw [run_convert_bytes_string w t u e none 0 0 ht he hu]
        simp [Conv.bytesToString, Sem.run_pure]
      · rename_i i k es len cap ex
        split at h
        · rename_i hc
          obtain ⟨rfl, hlen⟩ := hc
          simp only [Option.bind_eq_some_iff, Option.map_eq_some_iff] at h
          obtain ⟨cs, hcs, ns, hns, rfl⟩ := h
          obtain ⟨a, c, rfl, hlc, hcc, ha⟩ := r
          rcases ha with h0 | ⟨b, o, z, hφ, rfl, hz⟩
          · omega
          · obtain ⟨vs, rvs, hvl, hcell⟩ := hW.read hφ hcs
            have hvs := bytesOfA_spec cs ns vs hns rvs
            rw [run_convert_bytes_string w t u e _ _ _ ht he hu]
            refine run_bytesToString w _ len c ns ?_
            rw [← hvs, ← hvl]
            exact run_loadCells_list w _ vs fun j v hj => by rw [add_none]; exact hcell j v hj
        · cases h
      · cases h
    · cases h
  · cases h
theorem aop_spec (hW : WR w0 Pr φ H w) (hρ : ∀ x a, ev x = some a → VR φ a (ρ x)) {slot : Option Nat} {o : Oper} {n : ANext} {H' : AH} (h : aop P C slot ev o H = some (n, H')) :
    ∃ φ' w', φ.le φ' ∧ WR w0 Pr φ' H' w' ∧ Fits φ' w' n ((execOp ρ o).run P w) := by
  obtain ⟨dst, op, ty, pos, after, guard⟩ := o
  cases op
  case move x =>
    simp only [aop, Option.map_eq_some_iff] at h
    obtain ⟨v, hv, he⟩ := h; cases he
    exact ⟨φ, w, Env.le_refl φ, hW, ρ x, rfl, hρ x v hv⟩
  case assign x =>
    simp only [aop, Option.map_eq_some_iff] at h
    obtain ⟨v, hv, he⟩ := h; cases he
    exact ⟨φ, w, Env.le_refl φ, hW, ρ x, rfl, hρ x v hv⟩
  case pick c a b =>
    simp only [aop, Option.bind_eq_some_iff] at h
    obtain ⟨cv, hc, h⟩ := h
    have rc := hρ c cv hc
    split at h
    · simp only [Option.map_eq_some_iff] at h
      obtain ⟨v, hv, he⟩ := h; cases he
      simp only [VR] at rc
      exact ⟨φ, w, Env.le_refl φ, hW, ρ a, by simp [execOp, rc, asBool], hρ a v hv⟩
    · simp only [Option.map_eq_some_iff] at h
      obtain ⟨v, hv, he⟩ := h; cases he
      simp only [VR] at rc
      exact ⟨φ, w, Env.le_refl φ, hW, ρ b, by simp [execOp, rc, asBool], hρ b v hv⟩
    · cases h
  case alloc elem =>
    simp only [aop, Option.bind_eq_some_iff, Option.map_eq_some_iff] at h
    obtain ⟨z, hz, ⟨i, H1⟩, hp, he⟩ := h; cases he
    obtain ⟨ti, zv, hti, hzv, rz⟩ := zeroA_spec hz φ
    obtain ⟨φ', w', hle, hW', hrun, hφ'⟩ := new_spec (P := P) hW hp rz.cells
    refine ⟨φ', w', hle, hW', fits_val (s := Instr.alloc elem true (.tuple #[])) (u := .pointer (some ⟨w.heap.size, 0, none⟩)) ?_ ⟨_, _, _, hφ', rfl⟩⟩
    simp only [Instr.alloc, Sem.run_bind, run_zero hti hzv, Result.andThen_ok, newVar, hrun, Sem.run_pure]
  case box elem x =>
    simp only [aop, Option.bind_eq_some_iff, Option.map_eq_some_iff] at h
    obtain ⟨v, hv, ⟨i, H1⟩, hp, he⟩ := h; cases he
    obtain ⟨φ', w', hle, hW', hrun, hφ'⟩ := new_spec (P := P) hW hp (hρ x v hv).cells
    refine ⟨φ', w', hle, hW', fits_val (s := Instr.box elem (ρ x)) (u := .pointer (some ⟨w.heap.size, 0, none⟩)) ?_ ⟨_, _, _, hφ', rfl⟩⟩
    simp only [Instr.box, Sem.run_bind, newVar, hrun, Result.andThen_ok, Sem.run_pure]
  case build t ps =>
    simp only [aop, Option.bind_eq_some_iff, Option.map_eq_some_iff] at h
    obtain ⟨qs, hqs, v, hv, he⟩ := h; cases he
    obtain ⟨y, hy, ry⟩ := buildA_spec (P := P) (w := w) (qs := ps.map fun (i, x) => (i, ρ x)) (by simpa using evP_spec hρ _ _ hqs) hv
    exact ⟨φ, w, Env.le_refl φ, hW, fits_val hy ry⟩
  case buildSlice t len ps =>
    simp only [aop, Option.bind_eq_some_iff, Option.map_eq_some_iff] at h
    obtain ⟨qs, hqs, ⟨v, H1⟩, hv, he⟩ := h; cases he
    obtain ⟨φ', w', y, hle, hW', hy, ry⟩ := buildSliceA_spec (P := P) hW (qs := ps.map fun (i, x) => (i, ρ x)) (by simpa using evP_spec hρ _ _ hqs) hv
    exact ⟨φ', w', hle, hW', fits_val hy ry⟩
  case load t a =>
    simp only [aop, Option.bind_eq_some_iff] at h
    obtain ⟨av, ha, h⟩ := h
    split at h
    · simp only [Option.map_eq_some_iff] at h
      obtain ⟨v, hv, he⟩ := h; cases he
      obtain ⟨b, o, z, hφ, hval⟩ := hρ a _ ha
      obtain ⟨u, hu, ru⟩ := ldA_spec (P := P) hW hφ hv
      refine ⟨φ, w, Env.le_refl φ, hW, fits_val (s := Instr.loadAt t (ρ a)) ?_ ru⟩
      simp only [Instr.loadAt, hval, Instr.sureAddr, Sem.run_bind, Sem.run_pure, Result.andThen_ok, hu]
    · cases h
  case store t a x =>
    simp only [aop, Option.bind_eq_some_iff] at h
    obtain ⟨av, ha, xv, hx, h⟩ := h
    split at h
    · simp only [Option.map_eq_some_iff] at h
      obtain ⟨H1, hs, he⟩ := h; cases he
      obtain ⟨b, o, z, hφ, hval⟩ := hρ a _ ha
      obtain ⟨w', hu, hW'⟩ := stA_spec (P := P) hW hφ hs (hρ x _ hx)
      refine ⟨φ, w', Env.le_refl φ, hW', fits_skip (s := Instr.storeAt t (ρ a) (ρ x)) ?_⟩
      simp only [Instr.storeAt, hval, Instr.sureAddr, Sem.run_bind, Sem.run_pure, Result.andThen_ok, hu]
    · cases h
  case nilCheck x =>
    simp only [aop, Option.bind_eq_some_iff, Option.map_eq_some_iff] at h
    obtain ⟨v, hv, v', hn, he⟩ := h; cases he
    obtain ⟨hrun, rfl⟩ := nilCheckA_spec (P := P) (w := w) (ρ := ρ) hn (hρ x v hv) ⟨dst, .nilCheck x, ty, pos, after, guard⟩ x rfl rfl
    exact ⟨φ, w, Env.le_refl φ, hW, ρ x, hrun, hρ x _ hv⟩
  case binOp op t x y yt =>
    simp only [aop, Option.bind_eq_some_iff] at h
    obtain ⟨xv, hx, yv, hy, h⟩ := h
    have rx := hρ x _ hx
    have ry := hρ y _ hy
    split at h
    · rename_i k a k' b
      split at h
      · rename_i v hv
        cases h
        split at hv
        · rename_i hk
          subst hk
          simp only [VR] at rx ry
          obtain ⟨u, hu, ru⟩ := intBinA_spec (P := P) (w := w) (φ := φ) hv t x y
          refine ⟨φ, w, Env.le_refl φ, hW, fits_val (s := do eqGuard op t x y (ρ x) (ρ y); binOp op t (ρ x) (ρ y)) ?_ ru⟩
          rw [rx, ry]; exact hu
        · cases hv
      · exact pureA_fin hW hρ h
    · split at h
      · rename_i r hr
        cases h
        obtain ⟨h1, h2, h3, _⟩ := eqA_spec hW rx ry hr .eql x y
        refine ⟨φ, w, Env.le_refl φ, hW, fits_val (s := do eqGuard .eql t x y (ρ x) (ρ y); binOp .eql t (ρ x) (ρ y)) (u := .bool r) ?_ rfl⟩
        simp only [Sem.run_bind, h2, Result.andThen_ok, h3, h1, Sem.run_pure]
      · rename_i r hr
        cases h
        obtain ⟨h1, h2, _, h4⟩ := eqA_spec hW rx ry hr .neq x y
        refine ⟨φ, w, Env.le_refl φ, hW, fits_val (s := do eqGuard .neq t x y (ρ x) (ρ y); binOp .neq t (ρ x) (ρ y)) (u := .bool (!r)) ?_ rfl⟩
        simp only [Sem.run_bind, h2, Result.andThen_ok, h4, h1, Sem.run_pure]
      · exact pureA_fin hW hρ h
  case makeInterface t x =>
    simp only [aop, Option.bind_eq_some_iff] at h
    obtain ⟨v, hv, h⟩ := h
    split at h
    · cases h
    · rename_i d hd hu
      cases h
      refine ⟨φ, w, Env.le_refl φ, hW, fits_val (s := Instr.makeInterface t (ρ x)) (u := .iface t (ρ x)) ?_ ⟨_, rfl, hρ x v hv⟩⟩
      cases d <;> first | exact absurd rfl (hd _) | simp [Instr.makeInterface, run_und hu]
    · cases h
  case makeFunc fn first cap =>
    simp only [aop, Option.bind_eq_some_iff, Option.map_eq_some_iff] at h
    obtain ⟨f, hf, c, hc, he⟩ := h; cases he
    refine ⟨φ, w, Env.le_refl φ, hW, fits_val (s := Instr.makeFunc fn (first.map ρ) (cap.map ρ)) (u := .func fn (first.map ρ) (cap.map ρ)) rfl ⟨_, _, rfl, ?_, ?_⟩⟩
    · simpa using evL_spec hρ _ _ hf
    · simpa using evL_spec hρ _ _ hc
  case makeMap t r =>
    cases r with
    | some r => simp only [aop] at h; exact pureA_fin hW hρ h
    | none =>
      simp only [aop, Option.map_eq_some_iff] at h
      obtain ⟨⟨i, H1⟩, hp, he⟩ := h; cases he
      obtain ⟨hle, hW'⟩ := hW.alloc hp (.map #[] 0) 0 ⟨w.heap.size, 0, #[], Env.set_self _ _ _, by simp, rfl⟩ rfl
      exact ⟨_, _, hle, hW', fits_val (s := Instr.makeMap t none) (u := .map (some w.heap.size)) (by simp [Instr.makeMap]) ⟨_, _, Env.set_self _ _ _, rfl⟩⟩
  case makeSlice t l c =>
    simp only [aop, Option.bind_eq_some_iff, Option.map_eq_some_iff] at h
    obtain ⟨lv, hl, cv, hc, ⟨v, H1⟩, hv, he⟩ := h; cases he
    obtain ⟨φ', w', y, hle, hW', hy, ry⟩ := makeSliceA_spec (P := P) hW (hρ l _ hl) (hρ c _ hc) hv
    exact ⟨φ', w', hle, hW', fits_val hy ry⟩
  case slice t x lo hi mx =>
    simp only [aop, Option.bind_eq_some_iff] at h
    obtain ⟨xv, hx, l, hl, hh', hh, m, hm, h⟩ := h
    split at h
    · rename_i v hv
      cases h
      obtain ⟨y, hy, ry⟩ := sliceA_spec (P := P) hW (hρ x _ hx) (evO_spec hρ hl) (evO_spec hρ hh) (evO_spec hρ hm) hv
      exact ⟨φ, w, Env.le_refl φ, hW, fits_val hy ry⟩
    · exact pureA_fin hW hρ h
  case fieldAddr t x f =>
    simp only [aop, Option.bind_eq_some_iff, Option.map_eq_some_iff] at h
    obtain ⟨xv, hx, v, hv, he⟩ := h; cases he
    obtain ⟨y, hy, ry⟩ := fieldAddrA_spec (P := P) (hρ x _ hx) hv
    exact ⟨φ, w, Env.le_refl φ, hW, fits_val (hy w) ry⟩
  case field t x f =>
    simp only [aop, Option.bind_eq_some_iff, Option.map_eq_some_iff] at h
    obtain ⟨xv, hx, v, hv, he⟩ := h; cases he
    obtain ⟨y, hy, ry⟩ := fieldA_spec (P := P) (hρ x _ hx) hv
    exact ⟨φ, w, Env.le_refl φ, hW, fits_val (hy w) ry⟩
  case indexAddr t x ix =>
    simp only [aop, Option.bind_eq_some_iff, Option.map_eq_some_iff] at h
    obtain ⟨xv, hx, iv, hi, v, hv, he⟩ := h; cases he
    obtain ⟨y, hy, ry⟩ := indexAddrA_spec (P := P) (hρ x _ hx) (hρ ix _ hi) hv
    exact ⟨φ, w, Env.le_refl φ, hW, fits_val (hy w) ry⟩
  case lookup t m k ok =>
    simp only [aop, Option.bind_eq_some_iff, Option.map_eq_some_iff] at h
    obtain ⟨mv, hm, kv, hk, v, hv, he⟩ := h; cases he
    obtain ⟨y, hy, ry⟩ := lookupA_spec (P := P) hW (hρ m _ hm) (hρ k _ hk) hv
    exact ⟨φ, w, Env.le_refl φ, hW, fits_val hy ry⟩
  case mapUpdate t m k x =>
    simp only [aop, Option.bind_eq_some_iff, Option.map_eq_some_iff] at h
    obtain ⟨mv, hm, kv, hk, vv, hv, H1, hp, he⟩ := h; cases he
    obtain ⟨w', hy, hW'⟩ := mapPutA_spec (P := P) hW (hρ m _ hm) (hρ k _ hk) (hρ x _ hv) hp
    exact ⟨φ, w', Env.le_refl φ, hW', fits_skip hy⟩
  case mapEntry t m k =>
    simp only [aop, Option.bind_eq_some_iff, Option.map_eq_some_iff] at h
    obtain ⟨mv, hm, kv, hk, ⟨v, H1⟩, hp, he⟩ := h; cases he
    obtain ⟨y, w', hy, ry, hW'⟩ := mapEntryA_spec (P := P) hW (hρ m _ hm) (hρ k _ hk) hp
    exact ⟨φ, w', Env.le_refl φ, hW', fits_val hy ry⟩
  case entryStore t m s x =>
    simp only [aop, Option.bind_eq_some_iff, Option.map_eq_some_iff] at h
    obtain ⟨mv, hm, sv, hs, vv, hv, H1, hp, he⟩ := h; cases he
    obtain ⟨w', hy, hW'⟩ := entryStoreA_spec (P := P) (t := t) hW (hρ m _ hm) (hρ s _ hs) (hρ x _ hv) hp
    exact ⟨φ, w', Env.le_refl φ, hW', fits_skip hy⟩
  case insert t m k x =>
    simp only [aop, Option.bind_eq_some_iff, Option.map_eq_some_iff] at h
    obtain ⟨mv, hm, kv, hk, vv, hv, H1, hp, he⟩ := h; cases he
    obtain ⟨w', hy, hW'⟩ := mapPutA_spec (P := P) hW (hρ m _ hm) (hρ k _ hk) (hρ x _ hv) hp
    exact ⟨φ, w', Env.le_refl φ, hW', fits_skip hy⟩
  case extract t ix =>
    simp only [aop, Option.bind_eq_some_iff] at h
    obtain ⟨tv, ht, h⟩ := h
    split at h
    · rename_i vs
      simp only [Option.map_eq_some_iff] at h
      obtain ⟨v, hv, he⟩ := h; cases he
      obtain ⟨us, hval, rs⟩ := hρ t _ ht
      obtain ⟨u, hu, ru⟩ := rs.get ix v hv
      have hu' : us[ix]? = some u := by simpa using hu
      exact ⟨φ, w, Env.le_refl φ, hW, fits_val (s := Instr.extract (ρ t) ix) (by simp [Instr.extract, hval, hu']) ru⟩
    · cases h
  case call c =>
    simp only [aop] at h
    exact callA_spec hW hρ h
  case convert t u x =>
    simp only [aop] at h
    split at h
    · rename_i m hm
      cases h
      exact pureA_fin hW hρ (by rw [hm]; rfl)
    · simp only [Option.bind_eq_some_iff, Option.map_eq_some_iff] at h
      obtain ⟨v, hv, s, hs, he⟩ := h
      cases he
      exact ⟨φ, w, Env.le_refl φ, hW, fits_val (s := convert t u (ρ x)) (u := .string s) (strA_spec (P := P) hW (hρ x v hv) hs) rfl⟩
  all_goals (simp only [aop] at h; exact pureA_fin hW hρ h)

end
end Go.Dv

/- The evaluator on abstract states: operations in a row, regions whose order is drawn, code, calls (own work). -/

namespace Go.Dv

/-! equality of abstract states, decided -/
mutual
def AV.beq : AV → AV → Bool
  | .int k n, .int k' n' => k == k' && n == n'
  | .bool b, .bool b' => b == b'
  | .str s, .str s' => decide (s = s')
  | .nilPtr, .nilPtr => true
  | .ptr i k, .ptr i' k' => i == i' && k == k'
  | .nilSlice, .nilSlice => true
  | .slice i k es l c x, .slice i' k' es' l' c' x' => i == i' && k == k' && es == es' && l == l' && c == c' && x == x'
  | .nilMap, .nilMap => true
  | .map i, .map i' => i == i'
  | .func fn f c, .func fn' f' c' => decide (fn = fn') && AV.beqs f f' && AV.beqs c c'
  | .nilFunc, .nilFunc => true
  | .iface t x, .iface t' x' => t == t' && AV.beq x x'
  | .nilIface, .nilIface => true
  | .agg cs, .agg cs' => AV.beqs cs cs'
  | .tuple cs, .tuple cs' => AV.beqs cs cs'
  | .junk, .junk => true
  | _, _ => false
def AV.beqs : List AV → List AV → Bool
  | [], [] => true
  | x :: xs, y :: ys => AV.beq x y && AV.beqs xs ys
  | _, _ => false
end

mutual
theorem AV.beq_eq : ∀ x y : AV, AV.beq x y = true → x = y
  | .int k n, y, h => by cases y <;> simp_all [AV.beq]
  | .bool b, y, h => by cases y <;> simp_all [AV.beq]
  | .str s, y, h => by cases y <;> simp_all [AV.beq]
  | .nilPtr, y, h => by cases y <;> simp_all [AV.beq]
  | .ptr i k, y, h => by cases y <;> simp_all [AV.beq]
  | .nilSlice, y, h => by cases y <;> simp_all [AV.beq]
  | .slice i k es l c x, y, h => by cases y <;> simp_all [AV.beq]
  | .nilMap, y, h => by cases y <;> simp_all [AV.beq]
  | .map i, y, h => by cases y <;> simp_all [AV.beq]
  | .func fn f c, y, h => by
    cases y <;> simp only [AV.beq, Bool.and_eq_true, decide_eq_true_eq, Bool.false_eq_true] at h
    rw [h.1.1, AV.beqs_eq f _ h.1.2, AV.beqs_eq c _ h.2]
  | .nilFunc, y, h => by cases y <;> simp_all [AV.beq]
  | .iface t x, y, h => by
    cases y <;> simp only [AV.beq, Bool.and_eq_true, beq_iff_eq, Bool.false_eq_true] at h
    rw [h.1, AV.beq_eq x _ h.2]
  | .nilIface, y, h => by cases y <;> simp_all [AV.beq]
  | .junk, y, h => by cases y <;> simp_all [AV.beq]
  | .agg cs, y, h => by
    cases y <;> simp only [AV.beq, Bool.false_eq_true] at h
    rw [AV.beqs_eq cs _ h]
  | .tuple cs, y, h => by
    cases y <;> simp only [AV.beq, Bool.false_eq_true] at h
    rw [AV.beqs_eq cs _ h]
theorem AV.beqs_eq : ∀ xs ys : List AV, AV.beqs xs ys = true → xs = ys
  | [], [], _ => rfl
  | [], _ :: _, h => by simp [AV.beqs] at h
  | _ :: _, [], h => by simp [AV.beqs] at h
  | x :: xs, y :: ys, h => by
    simp only [AV.beqs, Bool.and_eq_true] at h
    rw [AV.beq_eq x y h.1, AV.beqs_eq xs ys h.2]
end

mutual
theorem AV.beq_self : ∀ x : AV, AV.beq x x = true
  | .int k n | .bool b | .str s | .nilPtr | .ptr i k | .nilSlice | .slice i k es l c x | .nilMap | .map i | .nilFunc | .nilIface | .junk => by simp [AV.beq]
  | .func fn f c => by simp [AV.beq, AV.beqs_self f, AV.beqs_self c]
  | .iface t x => by simp [AV.beq, AV.beq_self x]
  | .agg cs => by simp [AV.beq, AV.beqs_self cs]
  | .tuple cs => by simp [AV.beq, AV.beqs_self cs]
theorem AV.beqs_self : ∀ xs : List AV, AV.beqs xs xs = true
  | [] => rfl
  | x :: xs => by simp [AV.beqs, AV.beq_self x, AV.beqs_self xs]
end

def entBeq : List (AV × AV × Nat) → List (AV × AV × Nat) → Bool
  | [], [] => true
  | (k, v, n) :: es, (k', v', n') :: es' => AV.beq k k' && AV.beq v v' && n == n' && entBeq es es'
  | _, _ => false
theorem entBeq_eq : ∀ es es', entBeq es es' = true → es = es'
  | [], [], _ => rfl
  | [], _ :: _, h => by simp [entBeq] at h
  | _ :: _, [], h => by simp [entBeq] at h
  | (k, v, n) :: es, (k', v', n') :: es', h => by
    simp only [entBeq, Bool.and_eq_true, beq_iff_eq] at h
    rw [AV.beq_eq _ _ h.1.1.1, AV.beq_eq _ _ h.1.1.2, h.1.2, entBeq_eq _ _ h.2]
theorem entBeq_self : ∀ es, entBeq es es = true
  | [] => rfl
  | (k, v, n) :: es => by simp [entBeq, AV.beq_self, entBeq_self es]

def AObj.beq : AObj → AObj → Bool
  | .fresh, .fresh => true
  | .dead, .dead => true
  | .cells cs e, .cells cs' e' => AV.beqs cs cs' && e == e'
  | .arg cs, .arg cs' => AV.beqs cs cs'
  | .map es c, .map es' c' => entBeq es es' && c == c'
  | .strIter s p, .strIter s' p' => decide (s = s') && p == p'
  | _, _ => false
theorem AObj.beq_eq (x y : AObj) (h : AObj.beq x y = true) : x = y := by
  cases x <;> cases y <;> simp only [AObj.beq, Bool.and_eq_true, beq_iff_eq, Bool.false_eq_true, decide_eq_true_eq] at h <;> first
    | rfl
    | (rw [AV.beqs_eq _ _ h.1, h.2])
    | (rw [AV.beqs_eq _ _ h])
    | (rw [entBeq_eq _ _ h.1, h.2])
    | (rw [h.1, h.2])
theorem AObj.beq_self (x : AObj) : AObj.beq x x = true := by
  cases x <;> simp [AObj.beq, AV.beqs_self, entBeq_self]

def heapBeq : AH → AH → Bool
  | [], [] => true
  | x :: xs, y :: ys => AObj.beq x y && heapBeq xs ys
  | _, _ => false
theorem heapBeq_eq : ∀ xs ys, heapBeq xs ys = true → xs = ys
  | [], [], _ => rfl
  | [], _ :: _, h => by simp [heapBeq] at h
  | _ :: _, [], h => by simp [heapBeq] at h
  | x :: xs, y :: ys, h => by
    simp only [heapBeq, Bool.and_eq_true] at h
    rw [AObj.beq_eq x y h.1, heapBeq_eq xs ys h.2]
theorem heapBeq_self : ∀ xs, heapBeq xs xs = true
  | [] => rfl
  | x :: xs => by simp [heapBeq, AObj.beq_self, heapBeq_self xs]

/-! one step -/
abbrev St := List AV × AH

def evalA (tm : List AV) : Operand → Option AV
  | .tmp t => some (tm.getD t undefA)
  | .const v => ofV 6 v
  | .global _ => none
  | .func f => some (.func (.func f) [] [])

def putA (dst : Option Tmp) (v : AV) (tm : List AV) : List AV :=
  match dst with
  | some d => tm.set d v
  | none => tm

def yieldedA (ops : Array Oper) (tm : List AV) (j : Nat) : Option Bool :=
  match ((ops[j]?).bind (·.dst)).bind (tm[·]?) with
  | some (.bool b) => some b
  | _ => none

def stepA (P : Program) (C : Cfg P) (call : CallF) (slot : Option Nat) (ops : Array Oper) (i : Nat) (s : St) : Option St :=
  match ops[i]? with
  | none => some s
  | some o =>
    if Region.wanted o (yieldedA ops s.1) then
      match aop P C slot (evalA s.1) o s.2 with
      | some (.val v, H') => some (putA o.dst v s.1, H')
      | some (.skip, H') => some (putA o.dst undefA s.1, H')
      | some (.enter f args, H') => (call f args H').map fun (v, H'') => (putA o.dst v s.1, H'')
      | none => none
    else some (putA o.dst undefA s.1, s.2)

def runOps (P : Program) (C : Cfg P) (call : CallF) (ops : Array Oper) : List Nat → St → Option St
  | [], s => some s
  | i :: is, s => (stepA P C call none ops i s).bind fun s' => runOps P C call ops is s'

/-- An operation that yields the same value in whatever world. -/
def quietA (P : Program) (ev : Operand → Option AV) (o : Oper) : Option AV :=
  match o.op with
  | .move x => ev x
  | .assign x => ev x
  | .pick c a b => (ev c).bind fun cv => match cv with
    | .bool true => ev a
    | .bool false => ev b
    | _ => none
  | .binOp op t x y _ => (ev x).bind fun xv => (ev y).bind fun yv =>
    match xv, yv with
    | .int k a, .int k' b => match (if k = k' then intBinA op k a b else none) with
      | some v => some v
      | none => (pureA P ev o).bind fun n => match n with | .val v => some v | _ => none
    | _, _ => match op, eqVG P t xv yv with
      | .eql, some r => some (.bool r)
      | .neq, some r => some (.bool (!r))
      | _, _ => (pureA P ev o).bind fun n => match n with | .val v => some v | _ => none
  | .unOp .. | .convert .. | .index .. | .typeAssert .. => (pureA P ev o).bind fun n => match n with | .val v => some v | _ => none
  | .makeInterface t x => (ev x).bind fun v => match P.underlying t with
    | some (.interface _) => none
    | some _ => some (.iface t v)
    | none => none
  | .makeFunc fn first cap => (evL ev first.toList).bind fun f => (evL ev cap.toList).map fun c => .func fn f c
  | .fieldAddr t x f => (ev x).bind fun xv => fieldAddrA P t xv f
  | .field t x f => (ev x).bind fun xv => fieldA P t xv f
  | .indexAddr t x ix => (ev x).bind fun xv => (ev ix).bind fun iv => indexAddrA P t xv iv
  | .extract t ix => (ev t).bind fun tv => match tv with
    | .tuple vs => vs[ix]?
    | _ => none
  | .nilCheck x => (ev x).bind nilCheckA
  | _ => none

/-- How a region whose order is drawn is gone through: first what yields whatever the order; else every order. -/
inductive Plan where
  | done
  | take (i : Nat) (p : Plan)
  | all (l : List (Nat × Plan))
  deriving Inhabited

def isTake : Op → Bool
  | .move _ | .assign _ | .pick .. | .binOp .. | .unOp .. | .convert .. | .index .. | .makeInterface .. | .makeFunc .. | .fieldAddr .. | .field .. | .indexAddr .. | .extract .. | .nilCheck _ => true
  | _ => false

def planOf (ops : Array Oper) : Nat → Array Bool → Plan
  | 0, listed => match Region.ready .any ops listed with
    | [] => .done
    | _ => .all []
  | n + 1, listed =>
    match Region.ready .any ops listed with
    | [] => .done
    | rs => match rs.find? fun i => ((ops[i]?).map fun o => isTake o.op).getD false && Region.free .any ops listed i with
      | some i => .take i (planOf ops n (listed.setIfInBounds i true))
      | none => .all (rs.map fun i => (i, planOf ops n (listed.setIfInBounds i true)))

def stBeq (a b : St) : Bool := AV.beqs a.1 b.1 && heapBeq a.2 b.2
theorem stBeq_eq {a b : St} (h : stBeq a b = true) : a = b := by
  simp only [stBeq, Bool.and_eq_true] at h
  exact Prod.ext (AV.beqs_eq _ _ h.1) (heapBeq_eq _ _ h.2)
theorem stBeq_self (a : St) : stBeq a a = true := by simp [stBeq, AV.beqs_self, heapBeq_self]

mutual
def runPlan (P : Program) (C : Cfg P) (call : CallF) (base : Nat) (ops : Array Oper) : Plan → St → Option St
  | .done, s => some s
  | .take i p, s =>
    match ops[i]? with
    | none => none
    | some o => (if Region.wanted o (yieldedA ops s.1) then quietA P (evalA s.1) o else some undefA).bind fun v =>
        runPlan P C call base ops p (putA o.dst v s.1, s.2)
  | .all l, s => runAll P C call base ops l s none
def runAll (P : Program) (C : Cfg P) (call : CallF) (base : Nat) (ops : Array Oper) : List (Nat × Plan) → St → Option St → Option St
  | [], _, r => r
  | (i, p) :: l, s, r => (stepA P C call (some (base + i)) ops i s).bind fun s' => (runPlan P C call base ops p s').bind fun t =>
    match r with
    | none => runAll P C call base ops l s (some t)
    | some t0 => if stBeq t0 t then runAll P C call base ops l s (some t0) else none
end

inductive AExit where
  | normal
  | exit (id : Nat)
  | ret
  deriving Inhabited

def loopA (f : St → Option (AExit × St)) : Nat → St → Option (AExit × St)
  | 0, _ => none
  | n + 1, s => match f s with
    | some (.normal, s') => loopA f n s'
    | r => r

def allocates : Op → Bool
  | .alloc _ | .box .. | .buildSlice .. | .makeSlice .. | .makeMap .. => true
  | .call { callee := .builtin .append, .. } => true
  | _ => false

def evC (P : Program) (C : Cfg P) (call : CallF) (n : Nat) : Code → St → Option (AExit × St)
  | .skip, s => some (.normal, s)
  | .region _ ops false, s => (runOps P C call ops (List.range ops.size) s).map fun s' => (.normal, s')
  | .region _ ops true, s =>
    let H := if ops.any (allocates ·.op) then s.2 ++ List.replicate ops.size .fresh else s.2
    if Region.noSelect ops then (runPlan P C call s.2.length ops (planOf ops ops.size (Array.replicate ops.size false)) (s.1, H)).map fun s' => (.normal, s') else none
  | .seq a b, s => match evC P C call n a s with
    | some (.normal, s') => evC P C call n b s'
    | r => r
  | .cond c x y, s => match evalA s.1 c with
    | some (.bool true) => evC P C call n x s
    | some (.bool false) => evC P C call n y s
    | _ => none
  | .block id body, s => match evC P C call n body s with
    | some (.exit id', s') => if id' = id then some (.normal, s') else some (.exit id', s')
    | r => r
  | .loop body, s => loopA (fun s => evC P C call n body s) n s
  | .exit id, s => some (.exit id, s)
  | .ret, s => some (.ret, s)
  | _, _ => none

def resultsA (P : Program) (tm : List AV) (H : AH) : List ResultVar → Option (List AV)
  | [] => some []
  | .tmp t :: rs => (resultsA P tm H rs).map (tm.getD t undefA :: ·)
  | .cell a t :: rs => match tm.getD a undefA with
    | .ptr i k => (ldA P t H i k).bind fun v => (resultsA P tm H rs).map (v :: ·)
    | _ => none

def retA (P : Program) (fn : Func) (s : St) : Option (AV × AH) :=
  (resultsA P s.1 s.2 fn.results.toList).map fun vs => (match vs with | [v] => v | vs => .tuple vs, s.2)

def evCall (P : Program) (C : Cfg P) : Nat → CallF
  | 0, _, _, _ => none
  | n + 1, f, args, H => match C.orc f args H with
    | some r => some r
    | none => (P.funcs[f]?).bind fun fn => fn.body.bind fun c =>
      match evC P C (evCall P C n) n c (args ++ List.replicate (fn.ntmps - args.length) undefA, H) with
      | some (.normal, s) => retA P fn s
      | some (.ret, s) => retA P fn s
      | _ => none

end Go.Dv

/- That the evaluator is right: what it answers the model's call answers, in every world and whatever is drawn (own work). -/

namespace Go.Dv

section
variable {P : Program} {C : Cfg P} {w0 : World} {Pr : Nat → Prop}

/-- The abstract state of an activation. -/
structure SR (w0 : World) (Pr : Nat → Prop) (φ : Env) (s : St) (a : Act) (w : World) : Prop where
  wr : WR w0 Pr φ s.2 w
  tm : VRs φ s.1 a.tmps.toList
  df : a.defers = []

theorem evalA_spec {φ : Env} {tm : List AV} {a : Act} (h : VRs φ tm a.tmps.toList) (x : Operand) (v : AV) (hx : evalA tm x = some v) : VR φ v (a.eval x) := by
  cases x with
  | tmp t =>
    simp only [evalA, Option.some.injEq] at hx
    subst hx
    simp only [Act.eval]
    rcases Nat.lt_or_ge t tm.length with hl | hl
    · obtain ⟨u, hu, r⟩ := h.get t _ (List.getElem?_eq_getElem hl)
      have hu' : a.tmps[t]? = some u := by simpa using hu
      simpa [List.getD, List.getElem?_eq_getElem hl, Array.getD_eq_getD_getElem?, hu'] using r
    · have hl' : a.tmps.size ≤ t := by have := h.length; simp at this; omega
      simp only [List.getD, List.getElem?_eq_none hl, Array.getD_eq_getD_getElem?, Array.getElem?_eq_none hl']
      exact ⟨#[], rfl, rfl⟩
  | const c => exact ofV_spec _ _ _ hx
  | global g => cases hx
  | func f => cases hx; exact ⟨#[], #[], rfl, rfl, rfl⟩

theorem putA_spec {φ : Env} {tm : List AV} {a : Act} {v : AV} {u : Value} (h : VRs φ tm a.tmps.toList) (dst : Option Tmp) (r : VR φ v u) : VRs φ (putA dst v tm) (a.put dst u).tmps.toList := by
  cases dst with
  | none => exact h
  | some d => simpa [putA, Act.put] using h.set d r

theorem put_defers (a : Act) (dst : Option Tmp) (u : Value) : (a.put dst u).defers = a.defers := by cases dst <;> rfl

theorem VR_bool {φ : Env} {x : AV} {u : Value} (r : VR φ x u) (b : Bool) : u = .bool b ↔ x = .bool b := by
  constructor
  · rintro rfl
    cases x <;> simp only [VR] at r <;> first
      | (cases r; rfl)
      | (cases r; done)
      | exact absurd rfl (r.2 b)
      | (obtain ⟨_, _, h, _⟩ := r; cases h; done)
      | (obtain ⟨_, _, _, _, h⟩ := r; cases h; done)
      | (obtain ⟨_, _, _, _, _, _, h, _⟩ := r; cases h; done)
      | (obtain ⟨_, _, _, h⟩ := r; cases h; done)
      | (obtain ⟨_, _, h, _⟩ := r; cases h; done)
      | (obtain ⟨_, h, _⟩ := r; cases h; done)
  · rintro rfl; exact r

theorem yieldedA_spec {φ : Env} {tm : List AV} {a : Act} (ops : Array Oper) (h : VRs φ tm a.tmps.toList) : yielded ops a.tmps = yieldedA ops tm := by
  funext j
  unfold yielded yieldedA
  cases hd : (ops[j]?).bind (·.dst) with
  | none => rfl
  | some d =>
    simp only [Option.bind_some]
    rcases Nat.lt_or_ge d tm.length with hl | hl
    · obtain ⟨u, hu, r⟩ := h.get d _ (List.getElem?_eq_getElem hl)
      have hu' : a.tmps[d]? = some u := by simpa using hu
      rw [hu', List.getElem?_eq_getElem hl]
      cases hx : tm[d] with
      | bool b => rw [hx] at r; simp only [VR] at r; subst r; rfl
      | _ =>
        have hne : ∀ b, u ≠ .bool b := fun b e => by have := (VR_bool r b).1 e; rw [hx] at this; cases this
        simp only
        cases u <;> first | rfl | exact absurd rfl (hne _)
    · have hl' : a.tmps.size ≤ d := by have := h.length; simp at this; omega
      rw [List.getElem?_eq_none hl, Array.getElem?_eq_none hl']

/-- What a call that is evaluated means. -/
theorem stepA_sound {call : CallF} (hcall : CallOk P w0 Pr call) {slot : Option Nat} {ops : Array Oper} {i : Nat} {s s' : St} (h : stepA P C call slot ops i s = some s') {φ : Env} {a : Act} {w : World} (hs : SR w0 Pr φ s a w)
    {Q : Exit → Act → World → Prop} {K : Act → World → Prop} (hK : ∀ φ' a' w', φ.le φ' → SR w0 Pr φ' s' a' w' → K a' w') : wpOp P ops Q i K a w := by
  unfold stepA at h
  unfold wpOp
  split at h
  · rename_i hi
    cases h
    simp only [hi]
    exact hK φ a w (Env.le_refl φ) hs
  · rename_i o hi
    simp only [hi]
    rw [yieldedA_spec ops hs.tm]
    split at h
    · rename_i hw
      rw [if_pos hw]
      left
      split at h
      · rename_i v H' ha
        cases h
        obtain ⟨φ', w', hle, hW, u, hrun, r⟩ := aop_spec (C := C) hs.wr (fun x v hx => evalA_spec hs.tm x v hx) ha
        unfold Oper.wp
        rw [hrun]
        exact hK φ' _ w' hle ⟨hW, putA_spec (hs.tm.mono hle) o.dst r, by rw [put_defers]; exact hs.df⟩
      · rename_i H' ha
        cases h
        obtain ⟨φ', w', hle, hW, hrun⟩ := aop_spec (C := C) hs.wr (fun x v hx => evalA_spec hs.tm x v hx) ha
        unfold Oper.wp
        rw [show (execOp a.eval o).run P w = _ from hrun]
        exact hK φ' _ w' hle ⟨hW, putA_spec (hs.tm.mono hle) o.dst ⟨#[], rfl, rfl⟩, by rw [put_defers]; exact hs.df⟩
      · rename_i f args H' ha
        simp only [Option.map_eq_some_iff] at h
        obtain ⟨⟨v, H''⟩, hc, he⟩ := h
        cases he
        obtain ⟨φ', w', hle, hW, us, hrun, r⟩ := aop_spec (C := C) hs.wr (fun x v hx => evalA_spec hs.tm x v hx) ha
        unfold Oper.wp
        rw [hrun]
        refine (hcall f args H' v H'' hc φ' w' us hW r).mono ?_
        rintro e w'' ⟨φ'', u, hle', rfl, ru, hW'⟩
        exact hK φ'' _ w'' (Env.le_trans hle hle') ⟨hW', putA_spec (hs.tm.mono (Env.le_trans hle hle')) o.dst ru, by rw [put_defers]; exact hs.df⟩
      · cases h
    · rename_i hw
      cases h
      rw [if_neg hw]
      exact hK φ _ w (Env.le_refl φ) ⟨hs.wr, putA_spec hs.tm o.dst ⟨#[], rfl, rfl⟩, by rw [put_defers]; exact hs.df⟩

theorem runOps_sound {call : CallF} (hcall : CallOk P w0 Pr call) {ops : Array Oper} : ∀ (is : List Nat) (s s' : St), runOps P C call ops is s = some s' → ∀ {φ : Env} {a : Act} {w : World}, SR w0 Pr φ s a w →
    ∀ {Q : Exit → Act → World → Prop}, (∀ φ' a' w', φ.le φ' → SR w0 Pr φ' s' a' w' → Q .normal a' w') → wpOps P ops Q is a w
  | [], s, s', h, φ, a, w, hs, Q, hQ => by cases h; exact hQ φ a w (Env.le_refl φ) hs
  | i :: is, s, s', h, φ, a, w, hs, Q, hQ => by
    simp only [runOps, Option.bind_eq_some_iff] at h
    obtain ⟨s1, h1, h2⟩ := h
    rw [wpOps_cons]
    exact stepA_sound hcall h1 hs fun φ' a' w' hle hs' => runOps_sound hcall is s1 s' h2 hs' fun φ'' a'' w'' hle' hs'' => hQ φ'' a'' w'' (Env.le_trans hle hle') hs''

/-- what yields the same in whatever world -/
theorem pureA_every {ev : Operand → Option AV} {ρ : Operand → Value} {φ : Env} (hρ : ∀ x a, ev x = some a → VR φ a (ρ x)) {o : Oper} {v : AV} (h : ((pureA P ev o).bind fun n => match n with | .val v => some v | _ => none) = some v) :
    ∃ u, VR φ v u ∧ ∀ w, (execOp ρ o).run P w = .ok (.value u) w := by
  simp only [Option.bind_eq_some_iff] at h
  obtain ⟨n, hn, hv⟩ := h
  unfold pureA at hn
  split at hn
  · rename_i hc
    simp only [Bool.and_eq_true, List.all_eq_true] at hc
    have hcong : execOp ρ o = execOp (rhoOf ev) o := execOp_congr o (fun cs b e => by rw [e] at hc; exact absurd hc.1 (by simp [notSelect])) fun x hx => by
      obtain ⟨u, hu⟩ := Option.isSome_iff_exists.1 (hc.2 x (by simpa using hx))
      have : rhoOf ev x = u := by simp [rhoOf, hu]
      rw [this]
      simp only [Option.bind_eq_some_iff] at hu
      obtain ⟨a, ha, hav⟩ := hu
      exact toV_spec a u hav _ (hρ x a ha)
    split at hn
    · rename_i u hu
      simp only [Option.map_eq_some_iff] at hn
      obtain ⟨a, ha, rfl⟩ := hn
      cases hv
      exact ⟨u, ofV_spec _ _ _ ha, fun w => by rw [hcong]; exact pureRun_spec _ _ hu w⟩
    · cases hn
  · cases hn

theorem quietA_spec {ev : Operand → Option AV} {ρ : Operand → Value} {φ : Env} (hρ : ∀ x a, ev x = some a → VR φ a (ρ x)) {o : Oper} {v : AV} (h : quietA P ev o = some v) :
    ∃ u, VR φ v u ∧ ∀ w, (execOp ρ o).run P w = .ok (.value u) w := by
  obtain ⟨dst, op, ty, pos, after, guard⟩ := o
  cases op <;> try (simp only [quietA] at h; cases h; done)
  case move x => simp only [quietA] at h; exact ⟨ρ x, hρ x v h, fun w => rfl⟩
  case assign x => simp only [quietA] at h; exact ⟨ρ x, hρ x v h, fun w => rfl⟩
  case pick c a b =>
    simp only [quietA, Option.bind_eq_some_iff] at h
    obtain ⟨cv, hc, h⟩ := h
    have rc := hρ c cv hc
    split at h
    · simp only [VR] at rc
      exact ⟨ρ a, hρ a v h, fun w => by simp [execOp, rc, asBool]⟩
    · simp only [VR] at rc
      exact ⟨ρ b, hρ b v h, fun w => by simp [execOp, rc, asBool]⟩
    · cases h
  case binOp op t x y yt =>
    simp only [quietA, Option.bind_eq_some_iff] at h
    obtain ⟨xv, hx, yv, hy, h⟩ := h
    have rx := hρ x _ hx
    have ry := hρ y _ hy
    split at h
    · rename_i k a k' b
      split at h
      · rename_i v' hv
        cases h
        split at hv
        · rename_i hk
          subst hk
          simp only [VR] at rx ry
          have key := fun w => intBinA_spec (P := P) (w := w) (φ := φ) hv t x y
          obtain ⟨u, hu, ru⟩ := key default
          refine ⟨u, ru, fun w => ?_⟩
          obtain ⟨u', hu', ru'⟩ := key w
          have e : u' = u := by
            cases op <;> simp only [intBinA] at hv <;> try (cases hv; done)
            case quo => split at hv <;> cases hv; exact ru'.trans ru.symm
            case rem => split at hv <;> cases hv; exact ru'.trans ru.symm
            all_goals (cases hv; exact ru'.trans ru.symm)
          subst e
          obtain ⟨u2, h2, _⟩ := fits_val (φ' := φ) (s := do eqGuard op t x y (ρ x) (ρ y); binOp op t (ρ x) (ρ y)) (u := u') (by rw [rx, ry]; exact hu') ru'
          have := (fits_val (P := P) (w := w) (φ' := φ) (s := do eqGuard op t x y (ρ x) (ρ y); binOp op t (ρ x) (ρ y)) (u := u') (by rw [rx, ry]; exact hu') ru')
          show (do pure (Next.value (← (do eqGuard op t x y (ρ x) (ρ y); binOp op t (ρ x) (ρ y)))) : Sem Next).run P w = _
          rw [rx, ry]
          rw [Sem.run_bind, hu', Result.andThen_ok, Sem.run_pure]
        · cases hv
      · exact pureA_every hρ h
    · split at h
      · rename_i r hr
        cases h
        refine ⟨.bool r, rfl, fun w => ?_⟩
        obtain ⟨h1, h2, h3, _⟩ := eqVG_spec rx ry hr .eql x y w
        show (do pure (Next.value (← (do eqGuard .eql t x y (ρ x) (ρ y); binOp .eql t (ρ x) (ρ y)))) : Sem Next).run P w = _
        simp only [Sem.run_bind, h2, Result.andThen_ok, h3, h1, Sem.run_pure]
      · rename_i r hr
        cases h
        refine ⟨.bool (!r), rfl, fun w => ?_⟩
        obtain ⟨h1, h2, _, h4⟩ := eqVG_spec rx ry hr .neq x y w
        show (do pure (Next.value (← (do eqGuard .neq t x y (ρ x) (ρ y); binOp .neq t (ρ x) (ρ y)))) : Sem Next).run P w = _
        simp only [Sem.run_bind, h2, Result.andThen_ok, h4, h1, Sem.run_pure]
      · exact pureA_every hρ h
  case unOp => exact pureA_every hρ h
  case convert => exact pureA_every hρ h
  case index => exact pureA_every hρ h
  case typeAssert => exact pureA_every hρ h
  case makeInterface t x =>
    simp only [quietA, Option.bind_eq_some_iff] at h
    obtain ⟨xv, hv, h⟩ := h
    split at h
    · cases h
    · rename_i d hd hu
      cases h
      refine ⟨.iface t (ρ x), ⟨_, rfl, hρ x xv hv⟩, fun w => ?_⟩
      cases d <;> first | exact absurd rfl (hd _) | simp [execOp, Instr.makeInterface, run_und hu]
    · cases h
  case makeFunc fn first cap =>
    simp only [quietA, Option.bind_eq_some_iff, Option.map_eq_some_iff] at h
    obtain ⟨f, hf, c, hc, rfl⟩ := h
    refine ⟨.func fn (first.map ρ) (cap.map ρ), ⟨_, _, rfl, ?_, ?_⟩, fun w => rfl⟩
    · simpa using evL_spec hρ _ _ hf
    · simpa using evL_spec hρ _ _ hc
  case fieldAddr t x f =>
    simp only [quietA, Option.bind_eq_some_iff] at h
    obtain ⟨xv, hx, hv⟩ := h
    obtain ⟨y, hy, ry⟩ := fieldAddrA_spec (P := P) (hρ x _ hx) hv
    exact ⟨y, ry, fun w => by simp only [execOp, Sem.run_bind, hy w, Result.andThen_ok, Sem.run_pure]⟩
  case field t x f =>
    simp only [quietA, Option.bind_eq_some_iff] at h
    obtain ⟨xv, hx, hv⟩ := h
    obtain ⟨y, hy, ry⟩ := fieldA_spec (P := P) (hρ x _ hx) hv
    exact ⟨y, ry, fun w => by simp only [execOp, Sem.run_bind, hy w, Result.andThen_ok, Sem.run_pure]⟩
  case indexAddr t x ix =>
    simp only [quietA, Option.bind_eq_some_iff] at h
    obtain ⟨xv, hx, iv, hi, hv⟩ := h
    obtain ⟨y, hy, ry⟩ := indexAddrA_spec (P := P) (hρ x _ hx) (hρ ix _ hi) hv
    exact ⟨y, ry, fun w => by simp only [execOp, Sem.run_bind, hy w, Result.andThen_ok, Sem.run_pure]⟩
  case extract t ix =>
    simp only [quietA, Option.bind_eq_some_iff] at h
    obtain ⟨tv, ht, h⟩ := h
    split at h
    · rename_i vs
      obtain ⟨us, hval, rs⟩ := hρ t _ ht
      obtain ⟨u, hu, ru⟩ := rs.get ix v h
      have hu' : us[ix]? = some u := by simpa using hu
      exact ⟨u, ru, fun w => by simp [execOp, Instr.extract, hval, hu']⟩
    · cases h
  case nilCheck x =>
    simp only [quietA, Option.bind_eq_some_iff] at h
    obtain ⟨xv, hx, hn⟩ := h
    have key := fun w => nilCheckA_spec (P := P) (w := w) (ρ := ρ) hn (hρ x xv hx) ⟨dst, .nilCheck x, ty, pos, after, guard⟩ x rfl rfl
    refine ⟨ρ x, ?_, fun w => (key w).1⟩
    rw [(key default).2]; exact hρ x xv hx

theorem runAll_spec {call : CallF} {base : Nat} {ops : Array Oper} : ∀ (l : List (Nat × Plan)) (s t : St) (r : Option St), runAll P C call base ops l s r = some t →
    (∀ t0, r = some t0 → t0 = t) ∧ ∀ i p, (i, p) ∈ l → ∃ s', stepA P C call (some (base + i)) ops i s = some s' ∧ runPlan P C call base ops p s' = some t
  | [], s, t, r, h => by
    simp only [runAll] at h
    exact ⟨fun t0 e => by rw [h] at e; exact (Option.some.inj e).symm, fun i p hm => by cases hm⟩
  | (i, p) :: l, s, t, r, h => by
    simp only [runAll, Option.bind_eq_some_iff] at h
    obtain ⟨s', hs', t', ht', h⟩ := h
    cases r with
    | none =>
      obtain ⟨h1, h2⟩ := runAll_spec l s t (some t') h
      have e := h1 t' rfl
      subst e
      refine ⟨fun t0 e => (by cases e), fun j q hm => ?_⟩
      cases hm with
      | head => exact ⟨s', hs', ht'⟩
      | tail _ hm => exact h2 j q hm
    | some t0 =>
      simp only at h
      split at h
      · rename_i hb
        obtain ⟨h1, h2⟩ := runAll_spec l s t (some t0) h
        have e := h1 t0 rfl
        have e2 := stBeq_eq hb
        subst e; subst e2
        refine ⟨fun t1 e => (Option.some.inj e).symm, fun j q hm => ?_⟩
        cases hm with
        | head => exact ⟨s', hs', ht'⟩
        | tail _ hm => exact h2 j q hm
      · cases h

theorem runPlan_sound {call : CallF} (hcall : CallOk P w0 Pr call) {base : Nat} {ops : Array Oper} (hns : Region.noSelect ops = true) {K : Act → World → Prop} {t : St} : ∀ (n : Nat) (listed : Array Bool) (s : St),
    runPlan P C call base ops (planOf ops n listed) s = some t → ∀ {φ : Env} {a : Act} {w : World}, SR w0 Pr φ s a w → (∀ φ' a' w', φ.le φ' → SR w0 Pr φ' t a' w' → K a' w') →
    wpAny P .any ops (fun e a w => match e with | .normal => K a w | _ => False) n listed a w
  | 0, listed, s, h, φ, a, w, hs, hK => by
    simp only [planOf] at h
    split at h
    · rename_i hr
      simp only [runPlan] at h
      cases h
      exact ⟨hr, hK φ a w (Env.le_refl φ) hs⟩
    · simp only [runPlan, runAll] at h; cases h
  | n + 1, listed, s, h, φ, a, w, hs, hK => by
    simp only [planOf] at h
    split at h
    · rename_i hr
      simp only [runPlan] at h
      cases h
      exact wpAny_done hr (hK φ a w (Env.le_refl φ) hs) (n + 1)
    · rename_i rs hr
      split at h
      · rename_i i hf
        have hmem := List.mem_of_find?_eq_some hf
        have hp := List.find?_some hf
        simp only [Bool.and_eq_true] at hp
        simp only [runPlan] at h
        split at h
        · cases h
        · rename_i o ho
          simp only [Option.bind_eq_some_iff] at h
          obtain ⟨v, hv, h⟩ := h
          have hy : ∃ u, VR φ v u ∧ Yields P ops o u a := by
            rw [← yieldedA_spec ops hs.tm] at hv
            split at hv
            · rename_i hw
              obtain ⟨u, ru, hu⟩ := quietA_spec (fun x v hx => evalA_spec hs.tm x v hx) hv
              exact ⟨u, ru, .inl ⟨hw, hu⟩⟩
            · rename_i hw
              cases hv
              exact ⟨undef, ⟨#[], rfl, rfl⟩, .inr ⟨by simpa using hw, rfl⟩⟩
          obtain ⟨u, ru, hyy⟩ := hy
          refine wpAny_take ho hns hp.2 (by simpa using hmem) (fun c a w h => h) hyy ?_
          exact runPlan_sound hcall hns n _ _ h ⟨hs.wr, putA_spec hs.tm o.dst ru, by rw [put_defers]; exact hs.df⟩ hK
      · simp only [runPlan] at h
        obtain ⟨_, h2⟩ := runAll_spec _ _ _ _ h
        refine wpAny_all rfl (by assumption) fun i hi => ?_
        obtain ⟨s', hs', hr'⟩ := h2 i _ (List.mem_map.2 ⟨i, hi, rfl⟩)
        exact stepA_sound hcall hs' hs fun φ' a' w' hle hs'' => runPlan_sound hcall hns n _ s' hr' hs'' fun φ'' a'' w'' hle' h'' => hK φ'' a'' w'' (Env.le_trans hle hle') h''

theorem WR.reserve {φ : Env} {H : AH} {w : World} (h : WR w0 Pr φ H w) (n : Nat) : WR w0 Pr φ (H ++ List.replicate n .fresh) w := by
  have hg : ∀ {j : Nat} {o : AObj}, (H ++ List.replicate n .fresh)[j]? = some o → o = .fresh ∧ H.length ≤ j ∨ H[j]? = some o := fun {j o} hj => by
    rcases Nat.lt_or_ge j H.length with hl | hl
    · rw [List.getElem?_append_left hl] at hj; exact .inr hj
    · rw [List.getElem?_append_right hl, List.getElem?_replicate] at hj
      split at hj
      · cases hj; exact .inl ⟨rfl, hl⟩
      · cases hj
  have hO : ∀ {j : Nat}, Owned (H ++ List.replicate n .fresh) j → Owned H j := fun {j} ⟨o, ho, hw⟩ => by
    rcases hg ho with ⟨rfl, _⟩ | ho
    · cases hw
    · exact ⟨o, ho, hw⟩
  refine ⟨fun j hj => h.dom j (by simp at hj; omega), fun j hj => ?_, h.lt, fun i j x y hi hj => h.inj i j x y (hO hi) (hO hj), fun i x hi => h.own i x (hO hi), fun i x cs hi hx => ?_, fun i o hi => ?_, h.prLt, h.size, h.os, h.tape, h.output, h.old⟩
  · rcases hg hj with ⟨_, hl⟩ | hj
    · exact h.dom j hl
    · exact h.fresh j hj
  · rcases hg hi with ⟨e, _⟩ | hi
    · cases e
    · exact h.argP i x cs hi hx
  · rcases hg hi with ⟨rfl, _⟩ | hi
    · trivial
    · exact h.obj i o hi

def AExit.conc : AExit → Exit
  | .normal => .normal
  | .exit id => .exit id
  | .ret => .ret

theorem evC_sound {call : CallF} (hcall : CallOk P w0 Pr call) (n : Nat) : ∀ (c : Code) (s : St) (ex : AExit) (s' : St), evC P C call n c s = some (ex, s') → ∀ {φ : Env} {a : Act} {w : World}, SR w0 Pr φ s a w →
    ∀ {Q : Exit → Act → World → Prop}, (∀ φ' a' w', φ.le φ' → SR w0 Pr φ' s' a' w' → Q ex.conc a' w') → c.wp P Q a w
  | .skip, s, ex, s', h, φ, a, w, hs, Q, hQ => by
    simp only [evC, Option.some.injEq, Prod.mk.injEq] at h; obtain ⟨rfl, rfl⟩ := h
    exact wp_skip (hQ φ a w (Env.le_refl φ) hs)
  | .region id ops false, s, ex, s', h, φ, a, w, hs, Q, hQ => by
    simp only [evC, Option.map_eq_some_iff, Prod.mk.injEq] at h; obtain ⟨s1, h1, rfl, rfl⟩ := h
    exact wp_region (runOps_sound hcall _ s s1 h1 hs hQ)
  | .region id ops true, s, ex, s', h, φ, a, w, hs, Q, hQ => by
    simp only [evC] at h
    split at h
    case isFalse => cases h
    rename_i hns
    simp only [Option.map_eq_some_iff, Prod.mk.injEq] at h; obtain ⟨s1, h1, rfl, rfl⟩ := h
    have hs1 : SR w0 Pr φ (s.1, if ops.any (allocates ·.op) then s.2 ++ List.replicate ops.size .fresh else s.2) a { w with drawn := w.drawn + 1 } := by
      refine ⟨?_, hs.tm, hs.df⟩
      simp only
      split
      · exact (hs.wr.drew _).reserve _
      · exact hs.wr.drew _
    refine wp_mono (wp_region_any C.mixed (runPlan_sound (C := C) (K := fun a w => Q .normal a w) hcall hns ops.size _ _ h1 hs1 hQ)) fun e a w he => ?_
    cases e <;> first | exact he | exact he.elim
  | .seq x y, s, ex, s', h, φ, a, w, hs, Q, hQ => by
    simp only [evC] at h
    refine wp_seq ?_
    split at h
    · rename_i s1 h1
      exact evC_sound hcall n x s .normal s1 h1 hs fun φ' a' w' hle hs' => evC_sound hcall n y s1 ex s' h hs' fun φ'' a'' w'' hle' hs'' => hQ φ'' a'' w'' (Env.le_trans hle hle') hs''
    · rename_i r hne
      refine evC_sound hcall n x s ex s' h hs fun φ' a' w' hle hs' => ?_
      have := hQ φ' a' w' hle hs'
      cases ex with
      | normal => exact absurd h (hne s')
      | exit id => exact this
      | ret => exact this
  | .cond c x y, s, ex, s', h, φ, a, w, hs, Q, hQ => by
    simp only [evC] at h
    split at h
    · rename_i hc
      exact wp_cond_true (evalA_spec hs.tm c _ hc) (evC_sound hcall n x s ex s' h hs hQ)
    · rename_i hc
      exact wp_cond_false (evalA_spec hs.tm c _ hc) (evC_sound hcall n y s ex s' h hs hQ)
    · cases h
  | .block id body, s, ex, s', h, φ, a, w, hs, Q, hQ => by
    simp only [evC] at h
    refine wp_block ?_
    split at h
    · rename_i id' s1 h1
      refine evC_sound hcall n body s (.exit id') s1 h1 hs fun φ' a' w' hle hs' => ?_
      simp only [AExit.conc, Exit.inBlock]
      split at h
      · rename_i he
        cases h; rw [if_pos he]; exact hQ φ' a' w' hle hs'
      · rename_i he
        cases h; rw [if_neg he]; exact hQ φ' a' w' hle hs'
    · rename_i r hne
      refine evC_sound hcall n body s ex s' h hs fun φ' a' w' hle hs' => ?_
      have := hQ φ' a' w' hle hs'
      cases ex with
      | normal => exact this
      | exit id' => exact absurd h (hne id' s')
      | ret => exact this
  | .loop body, s, ex, s', h, φ, a, w, hs, Q, hQ => by
    simp only [evC] at h
    refine wp_loop_rounds n ?_
    exact loop_go (fun s ex s' h φ a w hs Q hQ => evC_sound hcall n body s ex s' h hs hQ) n s ex s' h φ a w hs Q hQ
  | .exit id, s, ex, s', h, φ, a, w, hs, Q, hQ => by
    simp only [evC, Option.some.injEq, Prod.mk.injEq] at h; obtain ⟨rfl, rfl⟩ := h
    exact wp_exit (hQ φ a w (Env.le_refl φ) hs)
  | .ret, s, ex, s', h, φ, a, w, hs, Q, hQ => by
    simp only [evC, Option.some.injEq, Prod.mk.injEq] at h; obtain ⟨rfl, rfl⟩ := h
    exact wp_ret (hQ φ a w (Env.le_refl φ) hs)
  | .rangeFunc .., s, ex, s', h, φ, a, w, hs, Q, hQ => by simp [evC] at h
  | .scope _, s, ex, s', h, φ, a, w, hs, Q, hQ => by simp [evC] at h
  | .label _, s, ex, s', h, φ, a, w, hs, Q, hQ => by simp [evC] at h
  | .goto _, s, ex, s', h, φ, a, w, hs, Q, hQ => by simp [evC] at h
  | .refuse _, s, ex, s', h, φ, a, w, hs, Q, hQ => by simp [evC] at h
where
  loop_go {f : St → Option (AExit × St)} {body : Code} (hf : ∀ (s : St) (ex : AExit) (s' : St), f s = some (ex, s') → ∀ (φ : Env) (a : Act) (w : World), SR w0 Pr φ s a w →
      ∀ (Q : Exit → Act → World → Prop), (∀ φ' a' w', φ.le φ' → SR w0 Pr φ' s' a' w' → Q ex.conc a' w') → body.wp P Q a w) : ∀ (m : Nat) (s : St) (ex : AExit) (s' : St), loopA f m s = some (ex, s') →
      ∀ (φ : Env) (a : Act) (w : World), SR w0 Pr φ s a w → ∀ (Q : Exit → Act → World → Prop), (∀ φ' a' w', φ.le φ' → SR w0 Pr φ' s' a' w' → Q ex.conc a' w') → Code.rounds P body Q m a w
    | 0, s, ex, s', h, φ, a, w, hs, Q, hQ => by simp [loopA] at h
    | m + 1, s, ex, s', h, φ, a, w, hs, Q, hQ => by
      simp only [loopA] at h
      rw [rounds_succ]
      split at h
      · rename_i s1 h1
        exact hf s .normal s1 h1 φ a w hs _ fun φ' a' w' hle hs' => loop_go hf m s1 ex s' h φ' a' w' hs' Q fun φ'' a'' w'' hle' hs'' => hQ φ'' a'' w'' (Env.le_trans hle hle') hs''
      · rename_i r hne
        refine hf s ex s' h φ a w hs _ fun φ' a' w' hle hs' => ?_
        have := hQ φ' a' w' hle hs'
        cases ex with
        | normal => exact absurd h (hne s')
        | exit id => exact this
        | ret => exact this

def resM (tmps : Array Value) : ResultVar → Sem Value
  | .tmp t => pure (tmps.getD t undef)
  | .cell x t => do loadVar t (← asAddr (tmps.getD x undef))

theorem results_eq (fn : Func) (tmps : Array Value) : results fn tmps = (do let vs ← fn.results.mapM (resM tmps); pure (if h : vs.size = 1 then vs[0] else .tuple vs)) := by
  rfl

theorem resultsA_spec {φ : Env} {H : AH} {w : World} {tm : List AV} {a : Act} (hW : WR w0 Pr φ H w) (ht : VRs φ tm a.tmps.toList) : ∀ (rs : List ResultVar) (vs : List AV), resultsA P tm H rs = some vs →
    ∃ us : List Value, (rs.mapM (resM a.tmps)).run P w = .ok us w ∧ VRs φ vs us
  | [], vs, h => by cases h; exact ⟨[], rfl, rfl⟩
  | .tmp t :: rs, vs, h => by
    simp only [resultsA, Option.map_eq_some_iff] at h
    obtain ⟨vs', h', rfl⟩ := h
    obtain ⟨us, hu, ru⟩ := resultsA_spec hW ht rs vs' h'
    refine ⟨a.tmps.getD t undef :: us, ?_, .cons (evalA_spec ht (.tmp t) _ rfl) ru⟩
    simp only [List.mapM_cons, resM, Sem.run_bind, Sem.run_pure, Result.andThen_ok, hu]
  | .cell x t :: rs, vs, h => by
    simp only [resultsA] at h
    split at h
    · rename_i i k hx
      simp only [Option.bind_eq_some_iff, Option.map_eq_some_iff] at h
      obtain ⟨v, hv, vs', h', rfl⟩ := h
      obtain ⟨us, hu, ru⟩ := resultsA_spec hW ht rs vs' h'
      have := evalA_spec ht (.tmp x) (.ptr i k) (by simp only [evalA, hx])
      obtain ⟨b, o, z, hφ, hval⟩ := this
      obtain ⟨y, hy, ry⟩ := ldA_spec (P := P) hW hφ hv
      refine ⟨y :: us, ?_, .cons ry ru⟩
      have hval' : a.tmps.getD x undef = .pointer (some ⟨b, o + k, none⟩) := hval
      simp only [List.mapM_cons, resM, Sem.run_bind, hval', asAddr, Sem.run_pure, Result.andThen_ok, hy, hu]
    · cases h

theorem retA_spec {φ : Env} {s : St} {a : Act} {w : World} {fn : Func} {v : AV} {H' : AH} (hs : SR w0 Pr φ s a w) (h : retA P fn s = some (v, H')) :
    H' = s.2 ∧ ∃ u, (results fn a.tmps).run P w = .ok u w ∧ VR φ v u := by
  simp only [retA, Option.map_eq_some_iff, Prod.mk.injEq] at h
  obtain ⟨vs, hvs, hv, rfl⟩ := h
  obtain ⟨us, hu, ru⟩ := resultsA_spec (P := P) hs.wr hs.tm fn.results.toList vs hvs
  refine ⟨rfl, ?_⟩
  have hrun : (results fn a.tmps).run P w = .ok (if h : us.toArray.size = 1 then us.toArray[0] else .tuple us.toArray) w := by
    rw [results_eq]
    simp only [Array.mapM_eq_mapM_toList, Sem.run_bind, Sem.run_map, hu, Result.andThen_ok, Sem.run_pure]
  refine ⟨_, hrun, ?_⟩
  match vs, us, ru, hv with
  | [], [], _, hv => subst hv; exact ⟨#[], rfl, rfl⟩
  | [x], [u], ⟨u', us', e, r, _⟩, hv => subst hv; cases e; exact r
  | x :: y :: vs, [], ⟨_, _, e, _⟩, _ => cases e
  | x :: y :: vs, [u], ⟨_, _, e, _, ⟨_, _, e', _⟩⟩, _ => cases e; cases e'
  | x :: y :: vs, u :: u' :: us, r, hv =>
    subst hv
    exact ⟨(u :: u' :: us).toArray, by simp, by simpa using r⟩

theorem evCall_sound : ∀ n, CallOk P w0 Pr (evCall P C n)
  | 0 => fun f args H v H' h => by simp [evCall] at h
  | n + 1 => fun f args H v H' h φ w vs hW hr => by
    simp only [evCall] at h
    split at h
    · rename_i r hr0
      cases h
      exact C.orcOk w0 Pr f args H v H' hr0 φ w vs hW hr
    rename_i hr0
    simp only [Option.bind_eq_some_iff] at h
    obtain ⟨fn, hfn, c, hc, h⟩ := h
    have hs : SR w0 Pr φ (args ++ List.replicate (fn.ntmps - args.length) undefA, H) { tmps := vs ++ Array.replicate (fn.ntmps - vs.size) undef, defers := [] } w := by
      refine ⟨hW, ?_, rfl⟩
      have hl : args.length = vs.size := by simpa using hr.length
      have hrep : ∀ m, VRs φ (List.replicate m undefA) (List.replicate m undef) := fun m => by
        induction m with
        | zero => exact rfl
        | succ m ih => exact .cons ⟨#[], rfl, rfl⟩ ih
      simpa [hl] using hr.append (hrep (fn.ntmps - args.length))
    refine calls_of_wp hfn hc ?_
    split at h
    · rename_i s1 h1
      refine evC_sound (C := C) (evCall_sound n) n c _ .normal s1 h1 hs fun φ' a' w' hle hs' => ?_
      obtain ⟨rfl, u, hu, ru⟩ := retA_spec hs' h
      exact ⟨hs'.df, u, hu, φ', u, hle, rfl, ru, hs'.wr⟩
    · rename_i s1 h1
      refine evC_sound (C := C) (evCall_sound n) n c _ .ret s1 h1 hs fun φ' a' w' hle hs' => ?_
      obtain ⟨rfl, u, hu, ru⟩ := retA_spec hs' h
      exact ⟨hs'.df, u, hu, φ', u, hle, rfl, ru, hs'.wr⟩
    · cases h

end
end Go.Dv

/- The evaluator without a bound on rounds and depth: equations to reckon with (own work). -/

namespace Go.Dv

def Mono {α : Type} (g : Nat → Option α) : Prop := ∀ n r, g n = some r → g (n + 1) = some r
theorem Mono.le {α : Type} {g : Nat → Option α} (h : Mono g) {n m : Nat} (hnm : n ≤ m) {r : α} (hr : g n = some r) : g m = some r := by
  induction hnm with
  | refl => exact hr
  | step _ ih => exact h _ _ ih

open Classical in
noncomputable def lim {α : Type} (g : Nat → Option α) : Option α := if h : ∃ n r, g n = some r then some (Classical.choose (Classical.choose_spec h)) else none

theorem lim_some {α : Type} {g : Nat → Option α} {r : α} (h : lim g = some r) : ∃ n, g n = some r := by
  unfold lim at h
  split at h
  · rename_i he
    cases h
    exact ⟨_, Classical.choose_spec (Classical.choose_spec he)⟩
  · cases h

theorem lim_of {α : Type} {g : Nat → Option α} (hg : Mono g) {n : Nat} {r : α} (h : g n = some r) : lim g = some r := by
  have he : ∃ n r, g n = some r := ⟨n, r, h⟩
  cases hl : lim g with
  | none => unfold lim at hl; rw [dif_pos he] at hl; cases hl
  | some r' =>
    obtain ⟨m, hm⟩ := lim_some hl
    have h1 := hg.le (Nat.le_max_left n m) h
    have h2 := hg.le (Nat.le_max_right n m) hm
    rw [h1] at h2; cases h2; rfl

theorem lim_none {α : Type} {g : Nat → Option α} (h : lim g = none) (n : Nat) : g n = none := by
  cases hn : g n with
  | none => rfl
  | some r => unfold lim at h; rw [dif_pos ⟨n, r, hn⟩] at h; cases h

theorem lim_eq_none {α : Type} {g : Nat → Option α} (h : ∀ n, g n = none) : lim g = none := by
  cases hl : lim g with
  | none => rfl
  | some r => obtain ⟨n, hn⟩ := lim_some hl; rw [h n] at hn; cases hn

theorem lim_const {α : Type} (x : Option α) : lim (fun _ => x) = x := by
  cases x with
  | none => exact lim_eq_none fun _ => rfl
  | some r => exact lim_of (g := fun _ => some r) (fun _ _ h => h) (n := 0) rfl

theorem mono_bind {α β : Type} {g : Nat → Option α} {k : Nat → α → Option β} (hg : Mono g) (hk : ∀ x, Mono fun n => k n x) : Mono fun n => (g n).bind (k n) := fun n r h => by
  simp only [Option.bind_eq_some_iff] at h ⊢
  obtain ⟨x, hx, hr⟩ := h
  exact ⟨x, hg n x hx, hk x n r hr⟩

theorem lim_bind {α β : Type} {g : Nat → Option α} {k : Nat → α → Option β} (hg : Mono g) (hk : ∀ x, Mono fun n => k n x) :
    lim (fun n => (g n).bind (k n)) = (lim g).bind fun x => lim fun n => k n x := by
  cases h1 : lim g with
  | none => exact lim_eq_none fun n => by rw [lim_none h1 n]; rfl
  | some x =>
    obtain ⟨n1, hn1⟩ := lim_some h1
    simp only [Option.bind_some]
    cases h2 : lim (fun n => k n x) with
    | none =>
      refine lim_eq_none fun n => ?_
      cases hb : (g n).bind (k n) with
      | none => rfl
      | some r =>
        simp only [Option.bind_eq_some_iff] at hb
        obtain ⟨y, hy, hr⟩ := hb
        have e1 := hg.le (Nat.le_max_left n n1) hy
        have e2 := hg.le (Nat.le_max_right n n1) hn1
        rw [e1] at e2; cases e2
        have := lim_none h2 n; rw [hr] at this; cases this
    | some r =>
      obtain ⟨n2, hn2⟩ := lim_some h2
      refine lim_of (mono_bind hg hk) (n := max n1 n2) ?_
      rw [hg.le (Nat.le_max_left n1 n2) hn1]
      exact (hk x).le (Nat.le_max_right n1 n2) hn2

theorem lim_shift {α : Type} {g : Nat → Option α} (hg : Mono g) : lim (fun n => g (n + 1)) = lim g := by
  cases h : lim g with
  | none => exact lim_eq_none fun n => lim_none h _
  | some r =>
    obtain ⟨n, hn⟩ := lim_some h
    exact lim_of (fun n r h => hg (n + 1) r h) (n := n) (hg n r hn)

theorem mono_const {α : Type} (x : Option α) : Mono fun _ => x := fun _ _ h => h

section
variable {P : Program} {C : Cfg P}

/-- a call's answers, one bound after the other -/
def MonoF (c : Nat → CallF) : Prop := ∀ f a H, Mono fun n => c n f a H

noncomputable def limF (c : Nat → CallF) : CallF := fun f a H => lim fun n => c n f a H

theorem stepA_eq (call : CallF) (slot : Option Nat) (ops : Array Oper) (i : Nat) (s : St) : stepA P C call slot ops i s =
    match ops[i]? with
    | none => some s
    | some o => if Region.wanted o (yieldedA ops s.1) then (aop P C slot (evalA s.1) o s.2).bind fun r => match r with
        | (.val v, H') => some (putA o.dst v s.1, H')
        | (.skip, H') => some (putA o.dst undefA s.1, H')
        | (.enter f args, H') => (call f args H').bind fun r => some (putA o.dst r.1 s.1, r.2)
      else some (putA o.dst undefA s.1, s.2) := by
  unfold stepA
  cases ops[i]? with
  | none => rfl
  | some o =>
    simp only
    by_cases hw : Region.wanted o (yieldedA ops s.1) = true
    · rw [if_pos hw, if_pos hw]
      cases aop P C slot (evalA s.1) o s.2 with
      | none => rfl
      | some r =>
        obtain ⟨r, H'⟩ := r
        cases r with
        | val v => rfl
        | skip => rfl
        | enter f args => simp only [Option.bind_some]; cases call f args H' <;> rfl
    · rw [if_neg hw, if_neg hw]

theorem mono_stepA {c : Nat → CallF} (hc : MonoF c) (slot : Option Nat) (ops : Array Oper) (i : Nat) (s : St) : Mono fun n => stepA P C (c n) slot ops i s := by
  simp only [stepA_eq]
  split
  · exact mono_const _
  · split
    · refine mono_bind (mono_const _) fun r => ?_
      obtain ⟨r, H'⟩ := r
      cases r with
      | val v => exact mono_const _
      | skip => exact mono_const _
      | enter f args => exact mono_bind (hc f args H') fun x => mono_const _
    · exact mono_const _

theorem lim_stepA {c : Nat → CallF} (hc : MonoF c) (slot : Option Nat) (ops : Array Oper) (i : Nat) (s : St) : lim (fun n => stepA P C (c n) slot ops i s) = stepA P C (limF c) slot ops i s := by
  simp only [stepA_eq]
  split
  · exact lim_const _
  · split
    · rename_i o ho hw
      cases ha : aop P C slot (evalA s.1) o s.2 with
      | none => exact lim_const _
      | some r =>
        obtain ⟨r, H'⟩ := r
        simp only [Option.bind_some]
        cases r with
        | val v => exact lim_const _
        | skip => exact lim_const _
        | enter f args =>
          show lim (fun n => (c n f args H').bind fun r => some (putA o.dst r.1 s.1, r.2)) = _
          refine (lim_bind (k := fun _ r => some (putA o.dst r.1 s.1, r.2)) (hc f args H') (fun x => mono_const _)).trans ?_
          simp only [lim_const]; rfl
    · exact lim_const _

theorem mono_runOps {c : Nat → CallF} (hc : MonoF c) (ops : Array Oper) : ∀ (is : List Nat) (s : St), Mono fun n => runOps P C (c n) ops is s
  | [], s => mono_const _
  | i :: is, s => by simp only [runOps]; exact mono_bind (mono_stepA hc none ops i s) fun x => mono_runOps hc ops is x

theorem lim_runOps {c : Nat → CallF} (hc : MonoF c) (ops : Array Oper) : ∀ (is : List Nat) (s : St), lim (fun n => runOps P C (c n) ops is s) = runOps P C (limF c) ops is s
  | [], s => lim_const _
  | i :: is, s => by
    simp only [runOps]
    rw [lim_bind (mono_stepA hc none ops i s) fun x => mono_runOps hc ops is x, lim_stepA hc]
    congr 1; funext x; exact lim_runOps hc ops is x

mutual
theorem mono_runPlan {c : Nat → CallF} (hc : MonoF c) (base : Nat) (ops : Array Oper) : ∀ (p : Plan) (s : St), Mono fun n => runPlan P C (c n) base ops p s
  | .done, s => by simp only [runPlan]; exact mono_const _
  | .take i p, s => by
    simp only [runPlan]
    split
    · exact mono_const _
    · exact mono_bind (mono_const _) fun x => mono_runPlan hc base ops p _
  | .all l, s => by simp only [runPlan]; exact mono_runAll hc base ops l s none
theorem mono_runAll {c : Nat → CallF} (hc : MonoF c) (base : Nat) (ops : Array Oper) : ∀ (l : List (Nat × Plan)) (s : St) (r : Option St), Mono fun n => runAll P C (c n) base ops l s r
  | [], s, r => by simp only [runAll]; exact mono_const _
  | (i, p) :: l, s, r => by
    simp only [runAll]
    refine mono_bind (mono_stepA hc _ ops i s) fun s' => mono_bind (mono_runPlan hc base ops p s') fun t => ?_
    split
    · exact mono_runAll hc base ops l s _
    · split
      · exact mono_runAll hc base ops l s _
      · exact mono_const _
end

mutual
theorem lim_runPlan {c : Nat → CallF} (hc : MonoF c) (base : Nat) (ops : Array Oper) : ∀ (p : Plan) (s : St), lim (fun n => runPlan P C (c n) base ops p s) = runPlan P C (limF c) base ops p s
  | .done, s => by simp only [runPlan]; exact lim_const _
  | .take i p, s => by
    simp only [runPlan]
    split
    · exact lim_const _
    · rw [lim_bind (mono_const _) fun x => mono_runPlan hc base ops p _, lim_const]
      congr 1; funext x; exact lim_runPlan hc base ops p _
  | .all l, s => by simp only [runPlan]; exact lim_runAll hc base ops l s none
theorem lim_runAll {c : Nat → CallF} (hc : MonoF c) (base : Nat) (ops : Array Oper) : ∀ (l : List (Nat × Plan)) (s : St) (r : Option St), lim (fun n => runAll P C (c n) base ops l s r) = runAll P C (limF c) base ops l s r
  | [], s, r => by simp only [runAll]; exact lim_const _
  | (i, p) :: l, s, r => by
    simp only [runAll]
    have hm : ∀ (t : St), Mono fun n => (match r with
      | none => runAll P C (c n) base ops l s (some t)
      | some t0 => if stBeq t0 t = true then runAll P C (c n) base ops l s (some t0) else none) := fun t => by
      split
      · exact mono_runAll hc base ops l s _
      · split
        · exact mono_runAll hc base ops l s _
        · exact mono_const _
    refine (lim_bind (k := fun n s' => (runPlan P C (c n) base ops p s').bind fun t => match r with
      | none => runAll P C (c n) base ops l s (some t)
      | some t0 => if stBeq t0 t = true then runAll P C (c n) base ops l s (some t0) else none) (mono_stepA hc _ ops i s) fun s' => mono_bind (mono_runPlan hc base ops p s') hm).trans ?_
    rw [lim_stepA hc]
    congr 1; funext s'
    refine (lim_bind (k := fun n t => match r with
      | none => runAll P C (c n) base ops l s (some t)
      | some t0 => if stBeq t0 t = true then runAll P C (c n) base ops l s (some t0) else none) (mono_runPlan hc base ops p s') hm).trans ?_
    rw [lim_runPlan hc base ops p s']
    congr 1; funext t
    cases r with
    | none => exact lim_runAll hc base ops l s _
    | some t0 =>
      simp only
      by_cases hb : stBeq t0 t = true
      · simp only [if_pos hb]; exact lim_runAll hc base ops l s _
      · simp only [if_neg hb]; exact lim_const _
end

theorem loopA_succ (f : St → Option (AExit × St)) (n : Nat) (s : St) : loopA f (n + 1) s = (f s).bind fun r => match r with
    | (.normal, s') => loopA f n s'
    | r => some r := by
  simp only [loopA]
  split
  · rename_i h; rw [h]; rfl
  · rename_i h
    cases hf : f s with
    | none => rfl
    | some r =>
      obtain ⟨e, s'⟩ := r
      cases e with
      | normal => exact absurd hf (h s')
      | _ => rfl

theorem mono_loopA {f : Nat → St → Option (AExit × St)} (hf : ∀ s, Mono fun n => f n s) : ∀ (n m : Nat) (s : St) (r : AExit × St), loopA (f n) m s = some r → ∀ n' m', n ≤ n' → m ≤ m' → loopA (f n') m' s = some r
  | n, 0, s, r, h, _, _, _, _ => by simp [loopA] at h
  | n, m + 1, s, r, h, n', m', hn, hm => by
    obtain ⟨m', rfl⟩ : ∃ q, m' = q + 1 := ⟨m' - 1, by omega⟩
    rw [loopA_succ] at h ⊢
    simp only [Option.bind_eq_some_iff] at h ⊢
    obtain ⟨x, hx, hr⟩ := h
    refine ⟨x, (hf s).le hn hx, ?_⟩
    split at hr
    · exact mono_loopA hf n m _ r hr n' m' hn (by omega)
    · exact hr

theorem evC_seq (call : CallF) (n : Nat) (a b : Code) (s : St) : evC P C call n (.seq a b) s = (evC P C call n a s).bind fun r => match r with
    | (.normal, s') => evC P C call n b s'
    | r => some r := by
  simp only [evC]
  split
  · rename_i h; rw [h]; rfl
  · rename_i h
    cases hf : evC P C call n a s with
    | none => rfl
    | some r =>
      obtain ⟨e, s'⟩ := r
      cases e with
      | normal => exact absurd hf (h s')
      | _ => rfl

theorem evC_block (call : CallF) (n : Nat) (id : Nat) (b : Code) (s : St) : evC P C call n (.block id b) s = (evC P C call n b s).bind fun r => match r with
    | (.exit id', s') => if id' = id then some (.normal, s') else some (.exit id', s')
    | r => some r := by
  simp only [evC]
  split
  · rename_i h; rw [h]; rfl
  · rename_i h
    cases hf : evC P C call n b s with
    | none => rfl
    | some r =>
      obtain ⟨e, s'⟩ := r
      cases e with
      | exit id' => exact absurd hf (h id' s')
      | _ => rfl

theorem mono_evC {c : Nat → CallF} (hc : MonoF c) : ∀ (x : Code) (s : St), Mono fun n => evC P C (c n) n x s
  | .skip, s => by simp only [evC]; exact mono_const _
  | .region id ops false, s => by
    simp only [evC]; intro n r h
    simp only [Option.map_eq_some_iff] at h ⊢
    obtain ⟨x, hx, hr⟩ := h
    exact ⟨x, mono_runOps hc ops _ _ n x hx, hr⟩
  | .region id ops true, s => by
    simp only [evC]; intro n r h
    simp only at h ⊢
    split at h
    · rename_i hn
      rw [if_pos hn]
      simp only [Option.map_eq_some_iff] at h ⊢
      obtain ⟨x, hx, hr⟩ := h
      exact ⟨x, mono_runPlan hc _ ops _ _ n x hx, hr⟩
    · cases h
  | .seq a b, s => by
    simp only [evC_seq]
    refine mono_bind (mono_evC hc a s) fun r => ?_
    obtain ⟨e, s'⟩ := r
    cases e with
    | normal => exact mono_evC hc b s'
    | _ => exact mono_const _
  | .cond q x y, s => by
    simp only [evC]
    split
    · exact mono_evC hc x s
    · exact mono_evC hc y s
    · exact mono_const _
  | .block id b, s => by
    simp only [evC_block]
    exact mono_bind (mono_evC hc b s) fun r => mono_const _
  | .loop b, s => by
    simp only [evC]; intro n r h
    exact mono_loopA (f := fun n s => evC P C (c n) n b s) (fun s => mono_evC hc b s) n n s r h (n + 1) (n + 1) (by omega) (by omega)
  | .exit id, s => by simp only [evC]; exact mono_const _
  | .ret, s => by simp only [evC]; exact mono_const _
  | .rangeFunc .., s => by simp only [evC]; exact mono_const _
  | .scope _, s => by simp only [evC]; exact mono_const _
  | .label _, s => by simp only [evC]; exact mono_const _
  | .goto _, s => by simp only [evC]; exact mono_const _
  | .refuse _, s => by simp only [evC]; exact mono_const _

theorem evCall_succ (n : Nat) (f : FuncId) (args : List AV) (H : AH) (ho : C.orc f args H = none) : evCall P C (n + 1) f args H =
    (P.funcs[f]?).bind fun fn => fn.body.bind fun c =>
      (evC P C (evCall P C n) n c (args ++ List.replicate (fn.ntmps - args.length) undefA, H)).bind fun r => match r with
        | (.normal, s) => retA P fn s
        | (.ret, s) => retA P fn s
        | _ => none := by
  simp only [evCall, ho]
  congr 1; funext fn; congr 1; funext c
  cases evC P C (evCall P C n) n c (args ++ List.replicate (fn.ntmps - args.length) undefA, H) with
  | none => rfl
  | some r => obtain ⟨e, s⟩ := r; cases e <;> rfl

theorem mono_evCall : MonoF (evCall P C) := by
  have key : ∀ n f a H r, evCall P C n f a H = some r → evCall P C (n + 1) f a H = some r := by
    intro n
    induction n with
    | zero => intro f a H r h; simp [evCall] at h
    | succ n ih =>
      intro f a H r h
      cases ho : C.orc f a H with
      | some r' => simp only [evCall, ho] at h ⊢; exact h
      | none =>
      rw [evCall_succ _ _ _ _ ho] at h ⊢
      simp only [Option.bind_eq_some_iff] at h ⊢
      obtain ⟨fn, hfn, c, hc, x, hx, hr⟩ := h
      refine ⟨fn, hfn, c, hc, x, ?_, hr⟩
      -- the two bounds as one sequence
      have hm : MonoF (fun k => if k = 0 then evCall P C n else evCall P C (n + 1)) := fun f a H k r hk => by
        simp only at hk ⊢
        split at hk
        · rw [if_neg (by omega)]; exact ih f a H r hk
        · rw [if_neg (by omega)]; exact hk
      have hm' : MonoF (fun k => if k ≤ n then evCall P C n else evCall P C (n + 1)) := fun f a H k r hk => by
        simp only at hk ⊢
        split at hk
        · split
          · exact hk
          · exact ih f a H r hk
        · rw [if_neg (by omega)]; exact hk
      have := (mono_evC (P := P) (C := C) hm' c (a ++ List.replicate (fn.ntmps - a.length) undefA, H)) n x (by simpa using hx)
      simpa [show ¬ (n + 1 ≤ n) by omega] using this
  exact fun f a H n r h => key n f a H r h

/-- A call's answer, without a bound. -/
noncomputable def Ev (P : Program) (C : Cfg P) : CallF := limF (evCall P C)
/-- What a piece of code comes to, without a bound. -/
noncomputable def EvC (P : Program) (C : Cfg P) (c : Code) (s : St) : Option (AExit × St) := lim fun n => evC P C (evCall P C n) n c s

theorem Ev_of {n : Nat} {f : FuncId} {a : List AV} {H : AH} {r : AV × AH} (h : evCall P C n f a H = some r) : Ev P C f a H = some r := lim_of (mono_evCall f a H) h
theorem Ev_orc {f : FuncId} {a : List AV} {H : AH} {r : AV × AH} (h : C.orc f a H = some r) : Ev P C f a H = some r := Ev_of (n := 1) (by simp only [evCall, h])
theorem Ev_sound {w0 : World} {Pr : Nat → Prop} : CallOk P w0 Pr (Ev P C) := fun f args H v H' h => by
  obtain ⟨n, hn⟩ := lim_some h
  exact evCall_sound n f args H v H' hn

theorem Ev_eq {f : FuncId} {fn : Func} {c : Code} (hf : P.funcs[f]? = some fn) (hb : fn.body = some c) (args : List AV) (H : AH) (ho : C.orc f args H = none) : Ev P C f args H =
    (EvC P C c (args ++ List.replicate (fn.ntmps - args.length) undefA, H)).bind fun r => match r with
      | (.normal, s) => retA P fn s
      | (.ret, s) => retA P fn s
      | _ => none := by
  have h1 : Ev P C f args H = lim fun n => evCall P C (n + 1) f args H := (lim_shift (mono_evCall f args H)).symm
  rw [h1]
  simp only [evCall_succ _ _ _ _ ho, hf, hb, Option.bind_some]
  refine (lim_bind (k := fun _ (r : AExit × St) => match r with
      | (.normal, s) => retA P fn s
      | (.ret, s) => retA P fn s
      | _ => none) (mono_evC mono_evCall c _) (fun r => mono_const _)).trans ?_
  simp only [lim_const]
  rfl

/-! the equations of code -/
theorem EvC_skip (s : St) : EvC P C .skip s = some (.normal, s) := by unfold EvC; simp only [evC]; exact lim_const _
theorem EvC_exit (id : Nat) (s : St) : EvC P C (.exit id) s = some (.exit id, s) := by unfold EvC; simp only [evC]; exact lim_const _
theorem EvC_ret (s : St) : EvC P C .ret s = some (.ret, s) := by unfold EvC; simp only [evC]; exact lim_const _
theorem EvC_seq (a b : Code) (s : St) : EvC P C (.seq a b) s = (EvC P C a s).bind fun r => match r with
    | (.normal, s') => EvC P C b s'
    | r => some r := by
  unfold EvC
  simp only [evC_seq]
  refine (lim_bind (k := fun n (r : AExit × St) => match r with
    | (.normal, s') => evC P C (evCall P C n) n b s'
    | r => some r) (mono_evC mono_evCall a s) (fun r => ?_)).trans ?_
  · obtain ⟨e, s'⟩ := r
    cases e with
    | normal => exact mono_evC mono_evCall b s'
    | _ => exact mono_const _
  · congr 1; funext r
    obtain ⟨e, s'⟩ := r
    cases e with
    | normal => rfl
    | _ => exact lim_const _
theorem EvC_block (id : Nat) (b : Code) (s : St) : EvC P C (.block id b) s = (EvC P C b s).bind fun r => match r with
    | (.exit id', s') => if id' = id then some (.normal, s') else some (.exit id', s')
    | r => some r := by
  unfold EvC
  simp only [evC_block]
  refine (lim_bind (k := fun _ (r : AExit × St) => match r with
    | (.exit id', s') => if id' = id then some (.normal, s') else some (.exit id', s')
    | r => some r) (mono_evC mono_evCall b s) (fun r => mono_const _)).trans ?_
  simp only [lim_const]
theorem EvC_cond (q : Operand) (x y : Code) (s : St) : EvC P C (.cond q x y) s = match evalA s.1 q with
    | some (.bool true) => EvC P C x s
    | some (.bool false) => EvC P C y s
    | _ => none := by
  unfold EvC
  cases h : evalA s.1 q with
  | none => simp only [evC, h]; exact lim_const _
  | some v => cases v with
    | bool b => cases b <;> simp only [evC, h]
    | _ => simp only [evC, h]; exact lim_const _
theorem map_bind {α β : Type} (f : α → β) (o : Option α) : o.map f = o.bind fun x => some (f x) := by cases o <;> rfl
theorem EvC_region (id : Nat) (ops : Array Oper) (s : St) : EvC P C (.region id ops false) s = (runOps P C (Ev P C) ops (List.range ops.size) s).bind fun s' => some (.normal, s') := by
  unfold EvC
  simp only [evC, map_bind]
  refine (lim_bind (k := fun _ s' => some (AExit.normal, s')) (mono_runOps mono_evCall ops _ s) (fun r => mono_const _)).trans ?_
  rw [lim_runOps mono_evCall]
  simp only [lim_const]
  rfl
theorem EvC_draw (id : Nat) (ops : Array Oper) (s : St) : EvC P C (.region id ops true) s = if Region.noSelect ops then
    (runPlan P C (Ev P C) s.2.length ops (planOf ops ops.size (Array.replicate ops.size false)) (s.1, if ops.any (allocates ·.op) then s.2 ++ List.replicate ops.size .fresh else s.2)).bind fun s' => some (.normal, s') else none := by
  unfold EvC
  simp only [evC, map_bind]
  split
  · refine (lim_bind (k := fun _ s' => some (AExit.normal, s')) (mono_runPlan mono_evCall _ ops _ _) (fun r => mono_const _)).trans ?_
    rw [lim_runPlan mono_evCall]
    simp only [lim_const]
    rfl
  · exact lim_const _
theorem EvC_loop (b : Code) (s : St) : EvC P C (.loop b) s = (EvC P C b s).bind fun r => match r with
    | (.normal, s') => EvC P C (.loop b) s'
    | r => some r := by
  have hm : ∀ s : St, Mono fun n => loopA (fun s => evC P C (evCall P C n) n b s) n s := fun s n r h =>
    mono_loopA (f := fun n s => evC P C (evCall P C n) n b s) (fun s => mono_evC mono_evCall b s) n n s r h (n + 1) (n + 1) (by omega) (by omega)
  have hm' : ∀ s : St, Mono fun n => loopA (fun s => evC P C (evCall P C (n + 1)) (n + 1) b s) n s := fun s n r h =>
    mono_loopA (f := fun n s => evC P C (evCall P C n) n b s) (fun s => mono_evC mono_evCall b s) (n + 1) n s r h (n + 2) (n + 1) (by omega) (by omega)
  have hl : ∀ s : St, lim (fun n => loopA (fun s => evC P C (evCall P C (n + 1)) (n + 1) b s) n s) = lim fun n => loopA (fun s => evC P C (evCall P C n) n b s) n s := fun s => by
    cases h : lim (fun n => loopA (fun s => evC P C (evCall P C n) n b s) n s) with
    | some r =>
      obtain ⟨n, hn⟩ := lim_some h
      exact lim_of (hm' s) (n := n) (mono_loopA (f := fun n s => evC P C (evCall P C n) n b s) (fun s => mono_evC mono_evCall b s) n n s r hn (n + 1) n (by omega) (by omega))
    | none =>
      refine lim_eq_none fun n => ?_
      cases hn : loopA (fun s => evC P C (evCall P C (n + 1)) (n + 1) b s) n s with
      | none => rfl
      | some r =>
        have := lim_none h (n + 1)
        rw [mono_loopA (f := fun n s => evC P C (evCall P C n) n b s) (fun s => mono_evC mono_evCall b s) (n + 1) n s r hn (n + 1) (n + 1) (by omega) (by omega)] at this
        cases this
  have h0 : EvC P C (.loop b) s = lim fun n => loopA (fun s => evC P C (evCall P C n) n b s) n s := by unfold EvC; simp only [evC]
  rw [h0, ← lim_shift (hm s)]
  simp only [loopA_succ]
  refine (lim_bind (g := fun n => evC P C (evCall P C (n + 1)) (n + 1) b s) (k := fun n (r : AExit × St) => match r with
    | (.normal, s') => loopA (fun s => evC P C (evCall P C (n + 1)) (n + 1) b s) n s'
    | r => some r) (fun n r h => (mono_evC mono_evCall b s) (n + 1) r h) (fun r => ?_)).trans ?_
  · obtain ⟨e, s'⟩ := r
    cases e with
    | normal => exact hm' s'
    | _ => exact mono_const _
  · rw [lim_shift (g := fun n => evC P C (evCall P C n) n b s) (mono_evC mono_evCall b s)]
    show (EvC P C b s).bind _ = _
    congr 1; funext r
    obtain ⟨e, s'⟩ := r
    cases e with
    | normal => simp only []; rw [hl s']; unfold EvC; simp only [evC]
    | _ => exact lim_const _

end
end Go.Dv

/- Small equations to reckon a function's answer with (own work). -/

namespace Go.Dv

section
variable {P : Program} {C : Cfg P}

def stepO (P : Program) (C : Cfg P) (call : CallF) (slot : Option Nat) (ops : Array Oper) (o : Oper) (s : St) : Option St :=
  if Region.wanted o (yieldedA ops s.1) then (aop P C slot (evalA s.1) o s.2).bind fun r => match r with
      | (.val v, H') => some (putA o.dst v s.1, H')
      | (.skip, H') => some (putA o.dst undefA s.1, H')
      | (.enter f args, H') => (call f args H').bind fun r => some (putA o.dst r.1 s.1, r.2)
    else some (putA o.dst undefA s.1, s.2)

def runL (P : Program) (C : Cfg P) (call : CallF) (ops : Array Oper) : List Oper → St → Option St
  | [], s => some s
  | o :: os, s => (stepO P C call none ops o s).bind fun s' => runL P C call ops os s'

theorem runL_eq (call : CallF) (ops : Array Oper) : ∀ (os : List Oper) (k : Nat) (s : St), (∀ i o, os[i]? = some o → ops[k + i]? = some o) → runOps P C call ops ((List.range os.length).map (k + ·)) s = runL P C call ops os s
  | [], k, s, h => rfl
  | o :: os, k, s, h => by
    have h0 : ops[k]? = some o := by simpa using h 0 o rfl
    have e : (List.range (o :: os).length).map (k + ·) = k :: (List.range os.length).map (k + 1 + ·) := by
      rw [List.length_cons, List.range_succ_eq_map]
      simp only [List.map_cons, List.map_map, Nat.add_zero]
      congr 1
      apply List.map_congr_left
      intro j _
      simp only [Function.comp]; omega
    rw [e]
    simp only [runOps, runL]
    have hs : stepA P C call none ops k s = stepO P C call none ops o s := by rw [stepA_eq]; simp only [h0]; rfl
    rw [hs]
    congr 1; funext s'
    exact runL_eq call ops os (k + 1) s' fun i o' hi => by
      have := h (i + 1) o' (by simpa using hi)
      rwa [show k + 1 + i = k + (i + 1) by omega]

theorem ev_region (id : Nat) (ops : Array Oper) (s : St) : EvC P C (.region id ops false) s = (runL P C (Ev P C) ops ops.toList s).bind fun s' => some (.normal, s') := by
  rw [EvC_region]
  congr 1
  have := runL_eq (P := P) (C := C) (Ev P C) ops ops.toList 0 s (fun i o h => by simpa using h)
  rw [← this]
  congr 1
  simp

theorem runL_nil (call : CallF) (ops : Array Oper) (s : St) : runL P C call ops [] s = some s := rfl
theorem runL_cons (call : CallF) (ops : Array Oper) (o : Oper) (os : List Oper) (s : St) : runL P C call ops (o :: os) s = (stepO P C call none ops o s).bind fun s' => runL P C call ops os s' := rfl

/-- an operation without a guard -/
theorem stepO_none (call : CallF) (slot : Option Nat) (ops : Array Oper) (dst : Option Tmp) (op : Op) (ty : TypeId) (pos : String) (after : Array Edge) (tm : List AV) (H : AH) :
    stepO P C call slot ops ⟨dst, op, ty, pos, after, none⟩ (tm, H) = (aop P C slot (evalA tm) ⟨dst, op, ty, pos, after, none⟩ H).bind fun r => match r with
      | (.val v, H') => some (putA dst v tm, H')
      | (.skip, H') => some (putA dst undefA tm, H')
      | (.enter f args, H') => (call f args H').bind fun r => some (putA dst r.1 tm, r.2) := rfl

theorem stepO_guard (call : CallF) (slot : Option Nat) (ops : Array Oper) (dst : Option Tmp) (op : Op) (ty : TypeId) (pos : String) (after : Array Edge) (j : Nat) (b : Bool) (tm : List AV) (H : AH) :
    stepO P C call slot ops ⟨dst, op, ty, pos, after, some (j, b)⟩ (tm, H) = if yieldedA ops tm j == some b then (aop P C slot (evalA tm) ⟨dst, op, ty, pos, after, some (j, b)⟩ H).bind fun r => match r with
      | (.val v, H') => some (putA dst v tm, H')
      | (.skip, H') => some (putA dst undefA tm, H')
      | (.enter f args, H') => (call f args H').bind fun r => some (putA dst r.1 tm, r.2)
      else some (putA dst undefA tm, H) := rfl

/-! operations -/
section
variable (slot : Option Nat) (ev : Operand → Option AV) (dst : Option Tmp) (ty : TypeId) (pos : String) (after : Array Edge) (g : Option (Nat × Bool)) (H : AH)
theorem aop_move (x : Operand) : aop P C slot ev ⟨dst, .move x, ty, pos, after, g⟩ H = (ev x).map fun v => (.val v, H) := rfl
theorem aop_assign (x : Operand) : aop P C slot ev ⟨dst, .assign x, ty, pos, after, g⟩ H = (ev x).map fun v => (.val v, H) := rfl
theorem aop_load (t : TypeId) (a : Operand) : aop P C slot ev ⟨dst, .load t a, ty, pos, after, g⟩ H = (ev a).bind fun av => match av with
    | .ptr i k => (ldA P t H i k).map fun v => (.val v, H)
    | _ => none := rfl
theorem aop_store (t : TypeId) (a x : Operand) : aop P C slot ev ⟨dst, .store t a x, ty, pos, after, g⟩ H = (ev a).bind fun av => (ev x).bind fun xv => match av with
    | .ptr i k => (stA P t H i k xv).map fun H' => (.skip, H')
    | _ => none := rfl
theorem aop_alloc (e : TypeId) : aop P C slot ev ⟨dst, .alloc e, ty, pos, after, g⟩ H = (zeroA P e).bind fun z => (put slot H (.cells z.cells e)).map fun (i, H') => (.val (.ptr i 0), H') := rfl
theorem aop_box (e : TypeId) (x : Operand) : aop P C slot ev ⟨dst, .box e x, ty, pos, after, g⟩ H = (ev x).bind fun v => (put slot H (.cells v.cells e)).map fun (i, H') => (.val (.ptr i 0), H') := rfl
theorem aop_build (t : TypeId) (ps : Array (Nat × Operand)) : aop P C slot ev ⟨dst, .build t ps, ty, pos, after, g⟩ H = (evP ev ps.toList).bind fun qs => (buildA P t qs).map fun v => (.val v, H) := rfl
theorem aop_buildSlice (t : TypeId) (len : Nat) (ps : Array (Nat × Operand)) : aop P C slot ev ⟨dst, .buildSlice t len ps, ty, pos, after, g⟩ H = (evP ev ps.toList).bind fun qs => (buildSliceA P slot t len qs H).map fun (v, H') => (.val v, H') := rfl
theorem aop_nilCheck (x : Operand) : aop P C slot ev ⟨dst, .nilCheck x, ty, pos, after, g⟩ H = (ev x).bind fun v => (nilCheckA v).map fun v => (.val v, H) := rfl
theorem aop_makeSlice (t : TypeId) (l c : Operand) : aop P C slot ev ⟨dst, .makeSlice t l c, ty, pos, after, g⟩ H = (ev l).bind fun lv => (ev c).bind fun cv => (makeSliceA P slot t lv cv H).map fun (v, H') => (.val v, H') := rfl
theorem aop_fieldAddr (t : TypeId) (x : Operand) (f : Nat) : aop P C slot ev ⟨dst, .fieldAddr t x f, ty, pos, after, g⟩ H = (ev x).bind fun xv => (fieldAddrA P t xv f).map fun v => (.val v, H) := rfl
theorem aop_field (t : TypeId) (x : Operand) (f : Nat) : aop P C slot ev ⟨dst, .field t x f, ty, pos, after, g⟩ H = (ev x).bind fun xv => (fieldA P t xv f).map fun v => (.val v, H) := rfl
theorem aop_indexAddr (t : TypeId) (x i : Operand) : aop P C slot ev ⟨dst, .indexAddr t x i, ty, pos, after, g⟩ H = (ev x).bind fun xv => (ev i).bind fun iv => (indexAddrA P t xv iv).map fun v => (.val v, H) := rfl
theorem aop_lookup (t : TypeId) (m k : Operand) (ok : Bool) : aop P C slot ev ⟨dst, .lookup t m k ok, ty, pos, after, g⟩ H = (ev m).bind fun mv => (ev k).bind fun kv => (lookupA P t mv kv ok H).map fun v => (.val v, H) := rfl
theorem aop_mapUpdate (t : TypeId) (m k v : Operand) : aop P C slot ev ⟨dst, .mapUpdate t m k v, ty, pos, after, g⟩ H = (ev m).bind fun mv => (ev k).bind fun kv => (ev v).bind fun vv => (mapPutA P t mv kv vv H).map fun H' => (.skip, H') := rfl
theorem aop_makeMap (t : TypeId) : aop P C slot ev ⟨dst, .makeMap t none, ty, pos, after, g⟩ H = (put slot H (.map [] 0)).map fun (i, H') => (.val (.map i), H') := rfl
theorem aop_makeFunc (fn : Fn) (f c : Array Operand) : aop P C slot ev ⟨dst, .makeFunc fn f c, ty, pos, after, g⟩ H = (evL ev f.toList).bind fun f => (evL ev c.toList).map fun c => (.val (.func fn f c), H) := rfl
theorem aop_extract (t : Operand) (ix : Nat) : aop P C slot ev ⟨dst, .extract t ix, ty, pos, after, g⟩ H = (ev t).bind fun tv => match tv with
    | .tuple vs => (vs[ix]?).map fun v => (.val v, H)
    | _ => none := rfl
theorem aop_pick (c a b : Operand) : aop P C slot ev ⟨dst, .pick c a b, ty, pos, after, g⟩ H = (ev c).bind fun cv => match cv with
    | .bool true => (ev a).map fun v => (.val v, H)
    | .bool false => (ev b).map fun v => (.val v, H)
    | _ => none := rfl
theorem aop_slice (t : TypeId) (x : Operand) (lo hi mx : Option Operand) : aop P C slot ev ⟨dst, .slice t x lo hi mx, ty, pos, after, g⟩ H = (ev x).bind fun xv => (evO ev lo).bind fun l => (evO ev hi).bind fun h => (evO ev mx).bind fun m =>
    match sliceA P t H xv l h m with
    | some v => some (.val v, H)
    | none => (pureA P ev ⟨dst, .slice t x lo hi mx, ty, pos, after, g⟩).map fun n => (n, H) := rfl
theorem aop_binOp (op : BinOp) (t yt : TypeId) (x y : Operand) : aop P C slot ev ⟨dst, .binOp op t x y yt, ty, pos, after, g⟩ H = (ev x).bind fun xv => (ev y).bind fun yv =>
    match xv, yv with
    | .int k a, .int k' b => match (if k = k' then intBinA op k a b else none) with
      | some v => some (.val v, H)
      | none => (pureA P ev ⟨dst, .binOp op t x y yt, ty, pos, after, g⟩).map fun n => (n, H)
    | _, _ => match op, eqA P t H xv yv with
      | .eql, some r => some (.val (.bool r), H)
      | .neq, some r => some (.val (.bool (!r)), H)
      | _, _ => (pureA P ev ⟨dst, .binOp op t x y yt, ty, pos, after, g⟩).map fun n => (n, H) := rfl
theorem aop_call (c : Call) : aop P C slot ev ⟨dst, .call c, ty, pos, after, g⟩ H = callA P C slot ev ⟨dst, .call c, ty, pos, after, g⟩ c H := rfl
theorem callA_func (tm : List AV) (o : Oper) (f : Nat) (xs : Array Operand) (ats : Array TypeId) : callA P C slot (evalA tm) o ⟨.value (.func f), xs, ats⟩ H = (evL (evalA tm) xs.toList).bind fun as => (P.funcs[f]?).bind fun fn => if fn.body.isSome then some (.enter f ([] ++ as ++ []), H) else none := rfl
theorem callA_value (o : Oper) (f : Nat) (xs : Array Operand) (ats : Array TypeId) : callA P C slot ev o ⟨.value (.tmp f), xs, ats⟩ H = (ev (.tmp f)).bind fun fv => (evL ev xs.toList).bind fun as =>
    match fv with
    | .func (.func g) first cap => (P.funcs[g]?).bind fun fn => if fn.body.isSome then some (.enter g (first ++ as ++ cap), H) else none
    | _ => none := rfl
theorem callA_len (o : Oper) (x : Operand) (t : TypeId) : callA P C slot ev o ⟨.builtin .len, #[x], #[t]⟩ H = (ev x).bind fun v => (lenA P t H v).map fun v => (.val v, H) := by
  unfold callA; simp only [evL]; cases ev x <;> rfl
theorem callA_append (o : Oper) (x y : Operand) (t u : TypeId) : callA P C slot ev o ⟨.builtin .append, #[x, y], #[t, u]⟩ H = (ev x).bind fun s => (ev y).bind fun v => (appendA P slot t (some u) s v H).map fun (v, H') => (.val v, H') := by
  unfold callA; simp only [evL]; cases ev x with
  | none => rfl
  | some v => cases ev y <;> rfl
end

theorem ev_tmp (tm : List AV) (t : Tmp) : evalA tm (.tmp t) = some (tm.getD t undefA) := rfl
theorem ev_const (tm : List AV) (v : Value) : evalA tm (.const v) = ofV 6 v := rfl
theorem ofV_int (k : IntKind) (n : Int) : ofV 6 (.int k n) = some (.int k n) := rfl
theorem ofV_bool (b : Bool) : ofV 6 (.bool b) = some (.bool b) := rfl
theorem ofV_str (s : ByteArray) : ofV 6 (.string s) = some (.str s) := rfl
theorem ofV_nilSlice : ofV 6 (.slice none 0 0) = some .nilSlice := rfl
theorem ofV_nilPtr : ofV 6 (.pointer none) = some .nilPtr := rfl
theorem putA_some (d : Tmp) (v : AV) (tm : List AV) : putA (some d) v tm = tm.set d v := rfl
theorem putA_none (v : AV) (tm : List AV) : putA none v tm = tm := rfl
theorem put_none (H : AH) (o : AObj) : put none H o = some (H.length, H ++ [o]) := rfl

end
end Go.Dv

/- Lemmas for reckoning: slots, rows of numbers, operations on numbers and strings (own work). -/

namespace Go.Dv
set_option linter.unusedSimpArgs false
set_option linter.unusedVariables false

theorem gs_self (tm : List AV) (i : Nat) (v d : AV) (h : i < tm.length) : (tm.set i v).getD i d = v := by simp [List.getD, h]
theorem gs_ne (tm : List AV) (i j : Nat) (v d : AV) (h : i ≠ j) : (tm.set i v).getD j d = tm.getD j d := by simp [List.getD, List.getElem?_set_ne h]

abbrev I (n : Int) : AV := .int .i64 n

theorem rd_len {H : AH} {i k n : Nat} {xs : List AV} (h : rdCells H i k n = some xs) : xs.length = n := by
  unfold rdCells at h
  split at h
  · split at h
    · cases h; simp; omega
    · cases h
  · split at h
    · cases h; simp; omega
    · cases h
  · cases h

theorem rd_sub {H : AH} {i k n : Nat} {xs : List AV} (h : rdCells H i k n = some xs) (j m : Nat) (hj : j + m ≤ n) : rdCells H i (k + j) m = some ((xs.drop j).take m) := by
  have key : ∀ cs : List AV, k + n ≤ cs.length → (if k + j + m ≤ cs.length then some ((cs.drop (k + j)).take m) else none) = some ((((cs.drop k).take n).drop j).take m) := fun cs hc => by
    rw [if_pos (by omega)]
    congr 1
    rw [List.drop_take, List.take_take, List.drop_drop, Nat.min_eq_left (by omega)]
  unfold rdCells at h ⊢
  split at h
  · rename_i cs e hi
    split at h
    · rename_i hc; cases h; exact key cs hc
    · cases h
  · rename_i cs hi
    split at h
    · rename_i hc; cases h; exact key cs hc
    · cases h
  · cases h

/-- What lay there lies there. -/
def Keeps (H H' : AH) : Prop := H.length ≤ H'.length ∧ ∀ i, i < H.length → H'[i]? = H[i]?
theorem Keeps.refl (H : AH) : Keeps H H := ⟨Nat.le_refl _, fun _ _ => rfl⟩
theorem Keeps.trans {H H' H'' : AH} (h : Keeps H H') (k : Keeps H' H'') : Keeps H H'' := ⟨Nat.le_trans h.1 k.1, fun i hi => (k.2 i (Nat.lt_of_lt_of_le hi h.1)).trans (h.2 i hi)⟩
theorem Keeps.append (H G : AH) : Keeps H (H ++ G) := ⟨by simp, fun i hi => List.getElem?_append_left hi⟩
theorem Keeps.set {H H' : AH} (h : Keeps H H') {i : Nat} (hi : H.length ≤ i) (o : AObj) : Keeps H (H'.set i o) := ⟨by simpa using h.1, fun j hj => by rw [List.getElem?_set_ne (by omega)]; exact h.2 j hj⟩
theorem rd_lt {H : AH} {i k n : Nat} {xs : List AV} (h : rdCells H i k n = some xs) : i < H.length := by
  unfold rdCells at h
  split at h
  · exact lt_of_get ‹_›
  · exact lt_of_get ‹_›
  · cases h
theorem Keeps.rd {H H' : AH} (h : Keeps H H') {i k n : Nat} {xs : List AV} (hr : rdCells H i k n = some xs) : rdCells H' i k n = some xs := by
  have hi := rd_lt hr
  unfold rdCells at hr ⊢
  rw [h.2 i hi]; exact hr

/-- A slice that reads as a list of cells, es an element. -/
inductive Row (H : AH) (es : Nat) : AV → List AV → Prop where
  | nil : Row H es .nilSlice []
  | at (i k len cap : Nat) (ex : Bool) (xs : List AV) (h : rdCells H i k (len * es) = some xs) : Row H es (.slice i k es len cap ex) xs

theorem Row.keeps {H H' : AH} {es : Nat} {v : AV} {xs : List AV} (h : Row H es v xs) (k : Keeps H H') : Row H' es v xs := by
  cases h with
  | nil => exact .nil
  | «at» i k' len cap ex xs h => exact .at i k' len cap ex xs (k.rd h)

section
variable {P : Program}
theorem pureA_index {t : TypeId} (ht : P.underlying t = some .string) {ev : Operand → Option AV} {x i : Operand} {s : ByteArray} {k : IntKind} {j : Nat} (hx : ev x = some (.str s)) (hi : ev i = some (.int k j)) (hj : j < s.size)
    (dst : Option Tmp) (ty : TypeId) (pos : String) (after : Array Edge) (g : Option (Nat × Bool)) : pureA P ev ⟨dst, .index t x i, ty, pos, after, g⟩ = some (.val (.int .u8 (s[j]'hj).toNat)) := by
  have hg : s[j]? = some (s[j]'hj) := getElem?_pos s j hj
  simp [pureA, notSelect, Op.operands, hx, hi, toV, execOp, rhoOf, pureRun, Instr.index, asIntOf, underlying, program, ht, ofV_int, bind, Sem.bind, pure, hg]
theorem pureA_convert {t u : TypeId} {k' : IntKind} {dt : TypeDesc} (ht : P.underlying t = some dt) (hu : P.underlying u = some (.int k')) {ev : Operand → Option AV} {x : Operand} {k : IntKind} {n : Int} (hx : ev x = some (.int k n))
    (dst : Option Tmp) (ty : TypeId) (pos : String) (after : Array Edge) (g : Option (Nat × Bool)) : pureA P ev ⟨dst, .convert t u x, ty, pos, after, g⟩ = some (.val (.int k' (k'.wrap n))) := by
  simp [pureA, notSelect, Op.operands, hx, toV, execOp, rhoOf, pureRun, convert, underlying, program, ht, hu, ofV_int, bind, Sem.bind, pure, Conv.intToInt]
theorem pureA_not {ev : Operand → Option AV} {t : TypeId} {x : Operand} {b : Bool} (hx : ev x = some (.bool b))
    (dst : Option Tmp) (ty : TypeId) (pos : String) (after : Array Edge) (g : Option (Nat × Bool)) : pureA P ev ⟨dst, .unOp .not t x, ty, pos, after, g⟩ = some (.val (.bool !b)) := by
  simp [pureA, notSelect, Op.operands, hx, toV, execOp, rhoOf, pureRun, Op.unary, ofV_bool, bind, Sem.bind, pure]
end

theorem aop_index {P : Program} {C : Cfg P} (slot : Option Nat) (ev : Operand → Option AV) (dst : Option Tmp) (ty : TypeId) (pos : String) (after : Array Edge) (g : Option (Nat × Bool)) (H : AH) (t : TypeId) (x i : Operand) :
    aop P C slot ev ⟨dst, .index t x i, ty, pos, after, g⟩ H = (pureA P ev ⟨dst, .index t x i, ty, pos, after, g⟩).map fun n => (n, H) := rfl
theorem aop_convert {P : Program} {C : Cfg P} (slot : Option Nat) (ev : Operand → Option AV) (dst : Option Tmp) (ty : TypeId) (pos : String) (after : Array Edge) (g : Option (Nat × Bool)) (H : AH) (t u : TypeId) (x : Operand) :
    aop P C slot ev ⟨dst, .convert t u x, ty, pos, after, g⟩ H = match pureA P ev ⟨dst, .convert t u x, ty, pos, after, g⟩ with
      | some n => some (n, H)
      | none => (ev x).bind fun v => (strA P H t u v).map fun s => (.val (.str s), H) := rfl
theorem aop_unOp {P : Program} {C : Cfg P} (slot : Option Nat) (ev : Operand → Option AV) (dst : Option Tmp) (ty : TypeId) (pos : String) (after : Array Edge) (g : Option (Nat × Bool)) (H : AH) (op : UnOp) (t : TypeId) (x : Operand) :
    aop P C slot ev ⟨dst, .unOp op t x, ty, pos, after, g⟩ H = (pureA P ev ⟨dst, .unOp op t x, ty, pos, after, g⟩).map fun n => (n, H) := rfl

def byteAt (s : ByteArray) (j : Int) : Int := ((s.data.toList.getD j.toNat 0).toNat : Int)

theorem pureA_none1 {P : Program} {ev : Operand → Option AV} {o : Oper} {x : Operand} (hx : x ∈ o.op.operands) (hn : ev x = none) : pureA P ev o = none := by
  unfold pureA
  rw [if_neg]
  simp only [Bool.and_eq_true, List.all_eq_true, not_and]
  intro _ h
  have := h x (by simpa using hx)
  rw [hn] at this; cases this

theorem aop_index_str {P : Program} {C : Cfg P} {t : TypeId} (ht : P.underlying t = some .string) (slot : Option Nat) (ev : Operand → Option AV) (dst : Option Tmp) (ty : TypeId) (pos : String) (after : Array Edge) (g : Option (Nat × Bool)) (H : AH) (x i : Operand) :
    aop P C slot ev ⟨dst, .index t x i, ty, pos, after, g⟩ H = (ev x).bind fun xv => (ev i).bind fun iv => match xv, iv with
      | .str s, .int k j => if 0 ≤ j ∧ j < s.size then some (.val (.int .u8 (byteAt s j)), H) else (pureA P ev ⟨dst, .index t x i, ty, pos, after, g⟩).map fun n => (n, H)
      | _, _ => (pureA P ev ⟨dst, .index t x i, ty, pos, after, g⟩).map fun n => (n, H) := by
  rw [aop_index]
  cases hx : ev x with
  | none => rw [pureA_none1 (x := x) (by simp [Op.operands]) hx]; rfl
  | some xv => cases hi : ev i with
    | none => rw [pureA_none1 (x := i) (by simp [Op.operands]) hi]; rfl
    | some iv =>
      simp only [Option.bind_some]
      split
      · rename_i s k j
        split
        · rename_i hj
          have hj' : j.toNat < s.size := by omega
          have e : j = (j.toNat : Int) := by omega
          rw [e] at hi
          rw [pureA_index ht hx hi hj']
          have hb : byteAt s j = (s[j.toNat]'hj').toNat := by
            unfold byteAt
            congr 2
            have : s.data.toList[j.toNat]? = some (s[j.toNat]'hj') := by
              rw [Array.getElem?_toList]; exact Array.getElem?_eq_getElem hj'
            simp [List.getD, this]
          rw [hb]; rfl
        · rfl
      · rfl

theorem aop_conv {P : Program} {C : Cfg P} {t u : TypeId} {dt : TypeDesc} {k' : IntKind} (ht : P.underlying t = some dt) (hu : P.underlying u = some (.int k')) (slot : Option Nat) (ev : Operand → Option AV) (dst : Option Tmp) (ty : TypeId) (pos : String) (after : Array Edge) (g : Option (Nat × Bool)) (H : AH) (x : Operand) :
    aop P C slot ev ⟨dst, .convert t u x, ty, pos, after, g⟩ H = (ev x).bind fun xv => match xv with
      | .int _ n => some (.val (.int k' (k'.wrap n)), H)
      | _ => (pureA P ev ⟨dst, .convert t u x, ty, pos, after, g⟩).map fun n => (n, H) := by
  rw [aop_convert]
  cases hx : ev x with
  | none => rw [pureA_none1 (x := x) (by simp [Op.operands]) hx]; rfl
  | some xv =>
    simp only [Option.bind_some]
    have hn : strA P H t u xv = none := by
      unfold strA
      rw [hu]
      split
      · rename_i h; cases h
      · rfl
    rw [hn]
    cases xv
    case int k n => rw [pureA_convert ht hu hx]
    all_goals (cases pureA P ev ⟨dst, .convert t u x, ty, pos, after, g⟩ <;> rfl)

theorem aop_not {P : Program} {C : Cfg P} (slot : Option Nat) (ev : Operand → Option AV) (dst : Option Tmp) (ty : TypeId) (pos : String) (after : Array Edge) (g : Option (Nat × Bool)) (H : AH) (t : TypeId) (x : Operand) :
    aop P C slot ev ⟨dst, .unOp .not t x, ty, pos, after, g⟩ H = (ev x).bind fun xv => match xv with
      | .bool b => some (.val (.bool !b), H)
      | _ => (pureA P ev ⟨dst, .unOp .not t x, ty, pos, after, g⟩).map fun n => (n, H) := by
  rw [aop_unOp]
  cases hx : ev x with
  | none => rw [pureA_none1 (x := x) (by simp [Op.operands]) hx]; rfl
  | some xv =>
    simp only [Option.bind_some]
    split
    · rw [pureA_not hx]; rfl
    · rfl

/-- of a chain of steps only the first is looked into -/
theorem bind_congr_first {α β : Type} {x y : Option α} (f : α → Option β) (h : x = y) : x.bind f = y.bind f := by rw [h]

end Go.Dv

/- Rows of the call's own that grow; the start: a world as an abstract heap (own work). -/

namespace Go.Dv

section
variable {P : Program} {C : Cfg P}

theorem callF {f : Nat} (h : (P.funcs[f]?).map (fun fn => fn.body.isSome) = some true) (slot : Option Nat) (ev : Operand → Option AV) (H : AH) (o : Oper) (xs : Array Operand) (ats : Array TypeId)
    (he : ev (.func f) = some (.func (.func f) [] [])) : callA P C slot ev o ⟨.value (.func f), xs, ats⟩ H = (evL ev xs.toList).map fun as => (.enter f as, H) := by
  simp only [callA, he, Option.bind_some]
  cases hf : P.funcs[f]? with
  | none => rw [hf] at h; cases h
  | some fn =>
    rw [hf] at h
    simp only [Option.map_some, Option.some.injEq] at h
    cases evL ev xs.toList with
    | none => rfl
    | some as => simp [h]

/-- A slice of the call's own: its block is numbered b or more. -/
inductive Own (b : Nat) (H : AH) (es : Nat) (elem : TypeId) : AV → List AV → Prop where
  | nil : Own b H es elem .nilSlice []
  | at (i k len cap : Nat) (ex : Bool) (cs xs : List AV) (hb : b ≤ i) (hi : H[i]? = some (.cells cs elem)) (hl : len ≤ cap) (hc : k + cap * es ≤ cs.length) (h : rdCells H i k (len * es) = some xs) :
      Own b H es elem (.slice i k es len cap ex) xs

theorem Own.row {b : Nat} {H : AH} {es : Nat} {elem : TypeId} {v : AV} {xs : List AV} (h : Own b H es elem v xs) : Row H es v xs := by
  cases h with
  | nil => exact .nil
  | «at» i k len cap ex cs xs hb hi hl hc h => exact .at i k len cap ex xs h

def lenOfA : AV → Nat
  | .slice _ _ _ len _ _ => len
  | _ => 0

theorem lenOfA_slice (i k es len cap : Nat) (ex : Bool) : lenOfA (.slice i k es len cap ex) = len := rfl
theorem lenOfA_nil : lenOfA .nilSlice = 0 := rfl

theorem Own.length {b : Nat} {H : AH} {es : Nat} {elem : TypeId} {v : AV} {xs : List AV} (h : Own b H es elem v xs) : xs.length = lenOfA v * es := by
  cases h with
  | nil => simp [lenOfA]
  | «at» i k len cap ex cs xs hb hi hl hc h => exact rd_len h

/-- other rows stand -/
theorem Own.other {b : Nat} {H H' : AH} {es : Nat} {elem : TypeId} {v : AV} {xs : List AV} (h : Own b H es elem v xs) (hk : ∀ i k es len cap ex, v = .slice i k es len cap ex → H'[i]? = H[i]?) : Own b H' es elem v xs := by
  cases h with
  | nil => exact .nil
  | «at» i k len cap ex cs xs hb hi hl hc h =>
    have e := hk i k es len cap ex rfl
    exact .at i k len cap ex cs xs hb (e.trans hi) hl hc (by unfold rdCells at h ⊢; rw [e]; exact h)

theorem spl_append (cs : List AV) : ∀ (vs : List AV) (k : Nat), k + vs.length ≤ cs.length → spl cs k vs = cs.take k ++ vs ++ cs.drop (k + vs.length) := by
  intro vs
  induction vs generalizing cs with
  | nil => intro k h; simp [spl]
  | cons v vs ih =>
    intro k h
    simp only [List.length_cons] at h
    rw [spl, ih (cs.set k v) (k + 1) (by simp; omega)]
    have hk : k < cs.length := by omega
    have e1 : (cs.set k v).take (k + 1) = cs.take k ++ [v] := by
      rw [List.set_eq_take_append_cons_drop, if_pos hk, List.take_append, List.length_take, Nat.min_eq_left (Nat.le_of_lt hk), List.take_of_length_le (by simp; omega), show k + 1 - k = 1 by omega]
      rfl
    have e2 : (cs.set k v).drop (k + 1 + vs.length) = cs.drop (k + 1 + vs.length) := List.drop_set_of_lt (by omega)
    rw [e1, e2, List.length_cons, show k + (vs.length + 1) = k + 1 + vs.length by omega]
    simp

/-- What an append asks of the types. -/
structure AppT (P : Program) (sT : TypeId) (xT : Option TypeId) (elem : TypeId) (es : Nat) : Prop where
  el : sliceElem P sT = some elem
  z : ∃ z, zeroA P elem = some z ∧ z.cells.length = P.cellsOf elem ∧ z.cells ≠ []
  sz : P.cellsOf elem = es
  x : zerosA P xT = false

theorem append_own {sT elem : TypeId} {xT : Option TypeId} {es : Nat} (T : AppT P sT xT elem es) {b : Nat} {H : AH} {s : AV} {xs : List AV} (hs : Own b H es elem s xs) (hb : b ≤ H.length) {x : AV} {new : List AV} (hx : Row H es x new)
    (hone : new.all AV.one = true) (hg : growOk (P.bytesOf elem) (lenOfA s + lenOfA x) = true) :
    ∃ v H', appendA P none sT xT s x H = some (v, H') ∧ Own b H' es elem v (xs ++ new) ∧ lenOfA v = lenOfA s + lenOfA x ∧ H.length ≤ H'.length ∧ (∀ j, j < H.length → (∀ i k len cap ex, s = .slice i k es len cap ex → j ≠ i) → H'[j]? = H[j]?) := by
  obtain ⟨z, hz, hzl, hzn⟩ := T.z
  have hsrc : ∃ f, srcA H es x = some (lenOfA x, f) ∧ f (lenOfA x) = some new := by
    cases hx with
    | nil => exact ⟨_, rfl, rfl⟩
    | «at» i k len cap ex xs h => exact ⟨fun n => if n ≤ len then rdCells H i k (n * es) else none, by simp [srcA, lenOfA], by simpa [lenOfA] using h⟩
  obtain ⟨f, hf, hfn⟩ := hsrc
  have hnl : new.length = lenOfA x * es := by
    cases hx with
    | nil => simp [lenOfA]
    | «at» i k len cap ex xs h => exact rd_len h
  generalize lenOfA x = n at *
  unfold appendA
  rw [if_neg (by rw [T.x]; simp), T.el, Option.bind_some, hz, Option.bind_some, T.sz, hf, Option.bind_some]
  simp only [hfn, Option.bind_some]
  rw [if_pos ⟨by rw [hzl, T.sz], hzn⟩]
  cases hs with
  | nil =>
    simp only
    split
    · rename_i h0
      have hn : new = [] := List.length_eq_zero_iff.1 (by rw [hnl, h0, Nat.zero_mul])
      subst hn
      exact ⟨_, _, rfl, .nil, by simp [lenOfA_nil, h0], Nat.le_refl _, fun _ _ _ => rfl⟩
    · simp only [lenOfA_nil, Nat.zero_add] at hg
      rw [if_pos hg]
      refine ⟨_, _, rfl, .at H.length 0 (n) (n) false new ([] ++ new) hb (by simp) (Nat.le_refl _) (by rw [hnl]; omega) ?_, by simp [lenOfA], by simp, fun j hj _ => List.getElem?_append_left hj⟩
      simp only [rdCells]
      rw [show (H ++ [AObj.cells new elem])[H.length]? = some (.cells new elem) by simp]
      simp only [List.nil_append]
      rw [if_pos (by omega), List.drop_zero, List.take_of_length_le (by omega)]
  | «at» i k len cap ex cs xs hbi hi hl hc h =>
    simp only [lenOfA_slice] at hg ⊢
    rw [if_pos trivial]
    split
    · rename_i h0
      have hn : new = [] := List.length_eq_zero_iff.1 (by rw [hnl, h0, Nat.zero_mul])
      subst hn
      exact ⟨_, _, rfl, by simpa using Own.at i k len cap ex cs xs hbi hi hl hc h, (by simp only [lenOfA_slice]; omega), Nat.le_refl _, fun _ _ _ => rfl⟩
    · rename_i hn0
      have hold : xs = (cs.drop k).take (len * es) ∧ k + len * es ≤ cs.length := by
        simp only [rdCells, hi] at h
        split at h
        · rename_i hle; cases h; exact ⟨rfl, hle⟩
        · cases h
      split
      · rename_i hroom
        try rw [if_pos hone]
        have hmul : (len + n) * es ≤ cap * es := Nat.mul_le_mul_right _ hroom
        have hadd : (len + n) * es = len * es + n * es := Nat.add_mul _ _ _
        have hfit : k + len * es + new.length ≤ cs.length := by rw [hnl]; omega
        have hwr : wrCells H i (k + len * es) new = some (H.set i (.cells (spl cs (k + len * es) new) elem)) := by
          simp only [wrCells, hi]; rw [if_pos ⟨hfit, hone⟩]
        rw [hwr]
        have hil := lt_of_get hi
        refine ⟨_, _, rfl, .at i k (len + n) cap ex (spl cs (k + len * es) new) (xs ++ new) hbi (by simp [hil]) hroom (by rw [spl_length]; exact hc) ?_, rfl, by simp, fun j hj hne => ?_⟩
        · simp only [rdCells]
          rw [show (H.set i (.cells (spl cs (k + len * es) new) elem))[i]? = some (.cells (spl cs (k + len * es) new) elem) by simp [hil]]
          simp only
          rw [if_pos (by rw [spl_length]; omega), spl_append cs new _ hfit, hold.1]
          congr 1
          rw [List.append_assoc, List.drop_append_of_le_length (by simp; omega), List.drop_take]
          have e : k + len * es - k = len * es := by omega
          rw [e, ← List.append_assoc, List.take_append_of_le_length (by simp [hnl]; omega)]
          apply List.take_of_length_le
          simp [hnl]; omega
        · rw [List.getElem?_set_ne (fun e => hne i k len cap ex rfl e.symm)]
      · rename_i hroom
        have hgrown : ∀ H1 : AH, H1.length = H.length → ∃ v H', ((rdCells H i k (len * es)).bind fun old => (put none H1 (.cells (old ++ new) elem)).map fun (j, H') => (AV.slice j 0 es (len + n) (len + n) false, H')) = some (v, H') ∧
            Own b H' es elem v (xs ++ new) ∧ lenOfA v = len + n ∧ H' = H1 ++ [.cells (xs ++ new) elem] := by
          intro H1 hl1
          rw [h]
          refine ⟨_, _, rfl, .at H1.length 0 (len + n) (len + n) false (xs ++ new) (xs ++ new) (by omega) (by simp) (Nat.le_refl _) ?_ ?_, rfl, rfl⟩
          · rw [List.length_append, rd_len h, hnl, Nat.add_mul]; omega
          · have hlen : (xs ++ new).length = (len + n) * es := by rw [List.length_append, rd_len h, hnl, Nat.add_mul]
            simp only [rdCells]
            rw [show (H1 ++ [AObj.cells (xs ++ new) elem])[H1.length]? = some (.cells (xs ++ new) elem) by simp]
            simp only
            rw [if_pos (by omega), List.drop_zero, List.take_of_length_le (by omega)]
        split
        · try rw [if_pos hg]
          obtain ⟨v, H', e, ho, hlv, rfl⟩ := hgrown H rfl
          exact ⟨v, _, e, ho, hlv, by simp, fun j hj _ => List.getElem?_append_left hj⟩
        · rw [hi]
          simp only
          rw [if_pos ⟨trivial, hone, hg⟩]
          obtain ⟨v, H', e, ho, hlv, rfl⟩ := hgrown (H.set i .dead) (by simp)
          refine ⟨v, _, e, ho, hlv, by simp, fun j hj hne => ?_⟩
          rw [List.getElem?_append_left (by simpa using hj), List.getElem?_set_ne (fun e => hne i k len cap ex rfl e.symm)]

/-! the heap as what stood there and what was made since -/
theorem put_app (H L : AH) (o : AObj) : put none (H ++ L) o = some (H.length + L.length, H ++ (L ++ [o])) := by simp [put]
theorem rd_app (H L : AH) (n k m : Nat) : rdCells (H ++ L) (H.length + n) k m = rdCells L n k m := by
  unfold rdCells
  rw [List.getElem?_append_right (by omega), Nat.add_sub_cancel_left]
theorem rd_app0 (H L : AH) (k m : Nat) : rdCells (H ++ L) H.length k m = rdCells L 0 k m := rd_app H L 0 k m
theorem wr_app (H L : AH) (n k : Nat) (xs : List AV) : wrCells (H ++ L) (H.length + n) k xs = (wrCells L n k xs).map (H ++ ·) := by
  unfold wrCells
  rw [List.getElem?_append_right (by omega), Nat.add_sub_cancel_left]
  cases L[n]? with
  | none => rfl
  | some o => cases o with
    | cells cs e =>
      simp only
      split
      · rw [List.set_append_right _ _ (by omega), Nat.add_sub_cancel_left]; rfl
      · rfl
    | _ => rfl
theorem wr_app0 (H L : AH) (k : Nat) (xs : List AV) : wrCells (H ++ L) H.length k xs = (wrCells L 0 k xs).map (H ++ ·) := wr_app H L 0 k xs
theorem b_ft : (false == true) = false := rfl
theorem b_tf : (true == false) = false := rfl
def boolOf : AV → Option Bool
  | .bool b => some b
  | _ => none
theorem boolOf_bool (b : Bool) : boolOf (.bool b) = some b := rfl
def yv (d : Option Tmp) (tm : List AV) : Option Bool := (d.bind (tm[·]?)).bind boolOf
theorem yielded_eq (ops : Array Oper) (tm : List AV) (j : Nat) : yieldedA ops tm j = yv ((ops[j]?).bind (·.dst)) tm := by
  unfold yieldedA yv
  cases ((ops[j]?).bind (·.dst)).bind (tm[·]?) with
  | none => rfl
  | some v => cases v <;> rfl
theorem yv_some (d : Tmp) (tm : List AV) (h : d < tm.length) : yv (some d) tm = boolOf (tm.getD d undefA) := by
  simp [yv, List.getD, h]
theorem rdL_here (cs : List AV) (e : TypeId) (L : AH) (k m : Nat) : rdCells (.cells cs e :: L) 0 k m = if k + m ≤ cs.length then some ((cs.drop k).take m) else none := rfl
theorem rdL_next (o : AObj) (L : AH) (n k m : Nat) : rdCells (o :: L) (n + 1) k m = rdCells L n k m := rfl
theorem wrL_here (cs : List AV) (e : TypeId) (L : AH) (k : Nat) (xs : List AV) : wrCells (.cells cs e :: L) 0 k xs = if k + xs.length ≤ cs.length ∧ xs.all AV.one = true then some (.cells (spl cs k xs) e :: L) else none := rfl
theorem wrL_next (o : AObj) (L : AH) (n k : Nat) (xs : List AV) : wrCells (o :: L) (n + 1) k xs = (wrCells L n k xs).map (o :: ·) := by
  unfold wrCells
  rw [List.getElem?_cons_succ]
  cases L[n]? with
  | none => rfl
  | some q => cases q with
    | cells cs e => simp only; split <;> rfl
    | _ => rfl
theorem rd_old {H : AH} {i k n : Nat} {xs : List AV} (h : rdCells H i k n = some xs) (L : AH) : rdCells (H ++ L) i k n = some xs := (Keeps.append H L).rd h

end
end Go.Dv

/- Calls that need nothing of the world, run once by the kernel, stand in every world (own work). -/

namespace Go.Dv

theorem WR.start (w : World) : WR w (fun b => b < w.heap.size) (fun _ => none) [] w where
  dom := fun _ _ => rfl
  fresh := fun _ _ => rfl
  lt := fun i x h => by cases h
  inj := fun i j x y hi hj hx => by cases hx
  own := fun i x hi hx => by cases hx
  argP := fun i x cs hi hx => by cases hx
  obj := fun i o h => by simp at h
  prLt := fun b h => h
  size := Nat.le_refl _
  os := rfl
  tape := rfl
  output := rfl
  old := fun _ _ => rfl

/-- A world that has grown and keeps what stood. -/
theorem WR.later {w0 : World} {Pr : Nat → Prop} {φ : Env} {H : AH} {w w' : World} (h : WR w0 Pr φ H w) (hs : w.heap.size ≤ w'.heap.size)
    (hb : ∀ b, b < w.heap.size → w'.heap[b]? = w.heap[b]?) (hos : w'.os = w.os) (htp : w'.tape = w.tape) (hout : w'.output = w.output) : WR w0 Pr φ H w' where
  dom := h.dom
  fresh := h.fresh
  lt := fun i x hx => Nat.lt_of_lt_of_le (h.lt i x hx) hs
  inj := h.inj
  own := h.own
  argP := h.argP
  obj := fun i o ho => (h.obj i o ho).keep (Env.le_refl φ) fun x hx => hb _ (h.lt i x hx)
  prLt := h.prLt
  size := Nat.le_trans h.size hs
  os := hos.trans h.os
  tape := htp.trans h.tape
  output := hout.trans h.output
  old := fun b hp => (hb b (Nat.lt_of_lt_of_le (h.prLt b hp) h.size)).trans (h.old b hp)

/-- The calls without arguments that answer true. -/
def trueOrc (l : List FuncId) : CallF := fun f args H => match args with
  | [] => if f ∈ l then some (.bool true, H) else none
  | _ => none

def saysTrue (P : Program) (C : Cfg P) (n : Nat) (f : FuncId) : Bool := match evCall P C n f [] [] with
  | some (.bool b, _) => b
  | _ => false

theorem trueOrc_ok {P : Program} {C : Cfg P} {n : Nat} {l : List FuncId} (hl : l.all (saysTrue P C n) = true) (w0 : World) (Pr : Nat → Prop) : CallOk P w0 Pr (trueOrc l) := by
  intro f args H v H' h φ w vs hW hr
  unfold trueOrc at h
  split at h
  · split at h
    · rename_i hf
      cases h
      have hs := List.all_eq_true.1 hl f hf
      unfold saysTrue at hs
      split at hs
      · rename_i b H0 he
        subst hs
        have hv : vs = #[] := by
          have := hr.length
          simp at this; exact Array.eq_empty_of_size_eq_zero this.symm
        subst hv
        have := evCall_sound (C := C) (w0 := w) (Pr := fun b => b < w.heap.size) n f [] [] (.bool true) H0 he (fun _ => none) w #[] (WR.start w) (.nil _)
        refine this.mono fun e w' hw => ?_
        obtain ⟨φ', u, _, he, hu, hW'⟩ := hw
        exact ⟨φ, u, Env.le_refl φ, he, hu, hW.later hW'.size hW'.old hW'.os hW'.tape hW'.output⟩
      · cases hs
    · cases h
  · cases h

end Go.Dv

/- Small equations for regions whose order is drawn (own work). -/

namespace Go.Dv

/-- the part of a piece of code at a place: first parts and second parts -/
def atPath : List Bool → Code → Code
  | [], c => c
  | false :: p, .seq a _ => atPath p a
  | true :: p, .seq _ b => atPath p b
  | false :: p, .cond _ a _ => atPath p a
  | true :: p, .cond _ _ b => atPath p b
  | _ :: p, .block _ a => atPath p a
  | _ :: p, .loop a => atPath p a
  | _, c => c

/-- the operations of a region -/
def opsAt : Code → Array Oper
  | .region _ ops _ => ops
  | _ => #[]
def isDraw : Code → Bool
  | .region _ ops true => Region.noSelect ops && !(ops.any (allocates ·.op))
  | _ => false
def isDrawA : Code → Bool
  | .region _ ops true => Region.noSelect ops && ops.any (allocates ·.op)
  | _ => false

section
variable {P : Program} {C : Cfg P}

theorem ev_draw {c : Code} (h : isDraw c = true) {p : Plan} (hp : planOf (opsAt c) (opsAt c).size (Array.replicate (opsAt c).size false) = p) (tm : List AV) (H : AH) :
    EvC P C c (tm, H) = (runPlan P C (Ev P C) H.length (opsAt c) p (tm, H)).bind fun s' => some (.normal, s') := by
  unfold isDraw at h
  split at h
  · rename_i id ops
    simp only [Bool.and_eq_true, Bool.not_eq_true'] at h
    subst hp
    rw [EvC_draw, if_pos h.1]
    simp only [h.2]
    rfl
  · cases h

theorem ev_drawA {c : Code} (h : isDrawA c = true) {p : Plan} (hp : planOf (opsAt c) (opsAt c).size (Array.replicate (opsAt c).size false) = p) (tm : List AV) (H : AH) :
    EvC P C c (tm, H) = (runPlan P C (Ev P C) H.length (opsAt c) p (tm, H ++ List.replicate (opsAt c).size .fresh)).bind fun s' => some (.normal, s') := by
  unfold isDrawA at h
  split at h
  · rename_i id ops
    simp only [Bool.and_eq_true] at h
    subst hp
    rw [EvC_draw, if_pos h.1]
    simp only [h.2, if_true]
    rfl
  · cases h

theorem rp_done (call : CallF) (base : Nat) (ops : Array Oper) (s : St) : runPlan P C call base ops .done s = some s := by simp only [runPlan]
def quietO (P : Program) (ops : Array Oper) (o : Oper) (tm : List AV) : Option AV := if Region.wanted o (yieldedA ops tm) then quietA P (evalA tm) o else some undefA
theorem rp_take (call : CallF) (base : Nat) (ops : Array Oper) (i : Nat) (p : Plan) (tm : List AV) (H : AH) : runPlan P C call base ops (.take i p) (tm, H) = (ops[i]?).bind fun o => (quietO P ops o tm).bind fun v => runPlan P C call base ops p (putA o.dst v tm, H) := by
  simp only [runPlan]
  cases ops[i]? <;> rfl
theorem rp_all (call : CallF) (base : Nat) (ops : Array Oper) (l : List (Nat × Plan)) (s : St) : runPlan P C call base ops (.all l) s = runAll P C call base ops l s none := by simp only [runPlan]
theorem stepA_O (call : CallF) (slot : Option Nat) (ops : Array Oper) (i : Nat) (s : St) : stepA P C call slot ops i s = match ops[i]? with
    | none => some s
    | some o => stepO P C call slot ops o s := by
  rw [stepA_eq]
  cases ops[i]? <;> rfl
theorem ra_nil (call : CallF) (base : Nat) (ops : Array Oper) (s : St) (r : Option St) : runAll P C call base ops [] s r = r := by simp only [runAll]
theorem ra_first (call : CallF) (base : Nat) (ops : Array Oper) (i : Nat) (p : Plan) (l : List (Nat × Plan)) (s : St) : runAll P C call base ops ((i, p) :: l) s none = (match ops[i]? with
    | none => some s
    | some o => stepO P C call (some (base + i)) ops o s).bind fun s' => (runPlan P C call base ops p s').bind fun t => runAll P C call base ops l s (some t) := by
  simp only [runAll, stepA_O]
theorem ra_next (call : CallF) (base : Nat) (ops : Array Oper) (i : Nat) (p : Plan) (l : List (Nat × Plan)) (s t0 : St) : runAll P C call base ops ((i, p) :: l) s (some t0) = (match ops[i]? with
    | none => some s
    | some o => stepO P C call (some (base + i)) ops o s).bind fun s' => (runPlan P C call base ops p s').bind fun t => if stBeq t0 t = true then runAll P C call base ops l s (some t0) else none := by
  simp only [runAll, stepA_O]

theorem quietO_none (ops : Array Oper) (dst : Option Tmp) (op : Op) (ty : TypeId) (pos : String) (after : Array Edge) (tm : List AV) : quietO P ops ⟨dst, op, ty, pos, after, none⟩ tm = quietA P (evalA tm) ⟨dst, op, ty, pos, after, none⟩ := rfl
theorem quietO_guard (ops : Array Oper) (dst : Option Tmp) (op : Op) (ty : TypeId) (pos : String) (after : Array Edge) (j : Nat) (b : Bool) (tm : List AV) : quietO P ops ⟨dst, op, ty, pos, after, some (j, b)⟩ tm = if yieldedA ops tm j == some b then quietA P (evalA tm) ⟨dst, op, ty, pos, after, some (j, b)⟩ else some undefA := rfl

section
variable (ev : Operand → Option AV) (dst : Option Tmp) (ty : TypeId) (pos : String) (after : Array Edge) (g : Option (Nat × Bool))
theorem q_move (x : Operand) : quietA P ev ⟨dst, .move x, ty, pos, after, g⟩ = ev x := rfl
theorem q_assign (x : Operand) : quietA P ev ⟨dst, .assign x, ty, pos, after, g⟩ = ev x := rfl
theorem q_pick (c a b : Operand) : quietA P ev ⟨dst, .pick c a b, ty, pos, after, g⟩ = (ev c).bind fun cv => match cv with
    | .bool true => ev a
    | .bool false => ev b
    | _ => none := rfl
theorem q_binOp (op : BinOp) (t yt : TypeId) (x y : Operand) : quietA P ev ⟨dst, .binOp op t x y yt, ty, pos, after, g⟩ = (ev x).bind fun xv => (ev y).bind fun yv =>
    match xv, yv with
    | .int k a, .int k' b => match (if k = k' then intBinA op k a b else none) with
      | some v => some v
      | none => (pureA P ev ⟨dst, .binOp op t x y yt, ty, pos, after, g⟩).bind fun n => match n with | .val v => some v | _ => none
    | _, _ => match op, eqVG P t xv yv with
      | .eql, some r => some (.bool r)
      | .neq, some r => some (.bool (!r))
      | _, _ => (pureA P ev ⟨dst, .binOp op t x y yt, ty, pos, after, g⟩).bind fun n => match n with | .val v => some v | _ => none := rfl
theorem q_field (t : TypeId) (x : Operand) (f : Nat) : quietA P ev ⟨dst, .field t x f, ty, pos, after, g⟩ = (ev x).bind fun xv => fieldA P t xv f := rfl
theorem q_fieldAddr (t : TypeId) (x : Operand) (f : Nat) : quietA P ev ⟨dst, .fieldAddr t x f, ty, pos, after, g⟩ = (ev x).bind fun xv => fieldAddrA P t xv f := rfl
theorem q_indexAddr (t : TypeId) (x i : Operand) : quietA P ev ⟨dst, .indexAddr t x i, ty, pos, after, g⟩ = (ev x).bind fun xv => (ev i).bind fun iv => indexAddrA P t xv iv := rfl
theorem q_nilCheck (x : Operand) : quietA P ev ⟨dst, .nilCheck x, ty, pos, after, g⟩ = (ev x).bind nilCheckA := rfl
end

/-- slots in order -/
theorem set_sort {l : List AV} {i j : Nat} {a b : AV} (h : j < i) : (l.set i a).set j b = (l.set j b).set i a := List.set_comm _ _ (by omega)

end
end Go.Dv

/- Calls whose arguments lead to no block, or to one block of known cells, run once by the kernel, stand in every world (own work). -/

namespace Go.Dv
set_option linter.unusedSimpArgs false
set_option linter.unusedVariables false

mutual
theorem toV_VR {φ : Env} : ∀ (x : AV) (v : Value), toV x = some v → VR φ x v
  | .int .., v, h => by simp only [toV, Option.some.injEq] at h; exact h.symm
  | .bool .., v, h => by simp only [toV, Option.some.injEq] at h; exact h.symm
  | .str .., v, h => by simp only [toV, Option.some.injEq] at h; exact h.symm
  | .nilPtr, v, h => by simp only [toV, Option.some.injEq] at h; exact h.symm
  | .nilSlice, v, h => by simp only [toV, Option.some.injEq] at h; exact h.symm
  | .nilMap, v, h => by simp only [toV, Option.some.injEq] at h; exact h.symm
  | .nilFunc, v, h => by simp only [toV, Option.some.injEq] at h; exact h.symm
  | .nilIface, v, h => by simp only [toV, Option.some.injEq] at h; exact h.symm
  | .ptr .., v, h => by simp [toV] at h
  | .slice .., v, h => by simp [toV] at h
  | .map .., v, h => by simp [toV] at h
  | .junk, v, h => by simp [toV] at h
  | .iface t x, v, h => by
    simp only [toV, Option.map_eq_some_iff] at h
    obtain ⟨y, hy, rfl⟩ := h
    exact ⟨y, rfl, toV_VR x y hy⟩
  | .agg cs, v, h => by
    simp only [toV, Option.map_eq_some_iff] at h
    obtain ⟨y, hy, rfl⟩ := h
    exact ⟨_, rfl, toVs_VR cs y hy⟩
  | .tuple cs, v, h => by
    simp only [toV, Option.map_eq_some_iff] at h
    obtain ⟨y, hy, rfl⟩ := h
    exact ⟨_, rfl, toVs_VR cs y hy⟩
  | .func fn f c, v, h => by
    simp only [toV, Option.bind_eq_some_iff, Option.map_eq_some_iff] at h
    obtain ⟨y, hy, z, hz, rfl⟩ := h
    exact ⟨_, _, rfl, toVs_VR f y hy, toVs_VR c z hz⟩
theorem toVs_VR {φ : Env} : ∀ (xs : List AV) (l : List Value), toVs xs = some l → VRs φ xs l
  | [], l, h => by simp only [toVs, Option.some.injEq] at h; exact h.symm
  | x :: xs, l, h => by
    simp only [toVs, Option.bind_eq_some_iff, Option.map_eq_some_iff] at h
    obtain ⟨y, hy, z, hz, rfl⟩ := h
    exact ⟨_, _, rfl, toV_VR x y hy, toVs_VR xs z hz⟩
end

/-- what leads to no block means the same everywhere -/
theorem toV_env {φ ψ : Env} {x : AV} {u : Value} (h : (toV x).isSome = true) (r : VR φ x u) : VR ψ x u := by
  obtain ⟨v, hv⟩ := Option.isSome_iff_exists.1 h
  rw [toV_spec x v hv u r]
  exact toV_VR x v hv
theorem toVs_env {φ ψ : Env} {xs : List AV} {us : List Value} (h : (toVs xs).isSome = true) (r : VRs φ xs us) : VRs ψ xs us := by
  obtain ⟨v, hv⟩ := Option.isSome_iff_exists.1 h
  rw [toVs_spec xs v hv us r]
  exact toVs_VR xs v hv
theorem toVs_get : ∀ {xs : List AV} (_ : (toVs xs).isSome = true) {j : Nat} {x : AV}, xs[j]? = some x → (toV x).isSome = true
  | [], _, _, _, h => by simp at h
  | y :: ys, hs, j, x, h => by
    obtain ⟨l, hl⟩ := Option.isSome_iff_exists.1 hs
    simp only [toVs, Option.bind_eq_some_iff, Option.map_eq_some_iff] at hl
    obtain ⟨a, ha, b, hb, _⟩ := hl
    cases j with
    | zero => simp at h; subst h; rw [ha]; rfl
    | succ j => exact toVs_get (xs := ys) (by rw [hb]; rfl) (by simpa using h)

/-! calls whose arguments lead to no block -/
abbrev Closed := FuncId × List AV × AV

def closedOrc (l : List Closed) : CallF := fun f args H => (l.find? fun e => f == e.1 && AV.beqs e.2.1 args).map fun e => (e.2.2, H)

def closedRuns (P : Program) (C : Cfg P) (n : Nat) (e : Closed) : Bool := (toVs e.2.1).isSome && (toV e.2.2).isSome && match evCall P C n e.1 e.2.1 [] with
  | some (v, _) => AV.beq v e.2.2
  | none => false

theorem closedOrc_ok {P : Program} {C : Cfg P} {n : Nat} {l : List Closed} (hl : l.all (closedRuns P C n) = true) (w0 : World) (Pr : Nat → Prop) : CallOk P w0 Pr (closedOrc l) := by
  intro f args H v H' h φ w vs hW hr
  unfold closedOrc at h
  simp only [Option.map_eq_some_iff, Prod.mk.injEq] at h
  obtain ⟨⟨g, as', v'⟩, he, rfl, rfl⟩ := h
  have hm := List.mem_of_find?_eq_some he
  have hp := List.find?_some he
  simp only [Bool.and_eq_true, beq_iff_eq] at hp
  obtain ⟨rfl, hp⟩ := hp
  have ha := AV.beqs_eq _ _ hp
  subst ha
  have hs := List.all_eq_true.1 hl _ hm
  simp only [closedRuns, Bool.and_eq_true] at hs
  obtain ⟨⟨h1, h2⟩, h3⟩ := hs
  split at h3
  · rename_i v0 H0 he0
    have hv := AV.beq_eq _ _ h3
    subst hv
    have := evCall_sound (C := C) (w0 := w) (Pr := fun b => b < w.heap.size) n f as' [] v0 H0 he0 (fun _ => none) w vs (WR.start w) (toVs_env h1 hr)
    refine this.mono fun e w' hw => ?_
    obtain ⟨φ', u, _, he, hu, hW'⟩ := hw
    exact ⟨φ, u, Env.le_refl φ, he, toV_env h2 hu, hW.later hW'.size hW'.old hW'.os hW'.tape hW'.output⟩
  · cases h3

/-! calls on a pointer to one block of known cells -/
structure AtPtr where
  f : FuncId
  cs : List AV
  elem : TypeId
  more : List AV
  val : AV

def ptrOrc (l : List AtPtr) : CallF := fun f args H => match args with
  | .ptr i 0 :: more => match H[i]? with
    | some (.cells cs e) => (l.find? fun p => f == p.f && AV.beqs p.cs cs && e == p.elem && AV.beqs p.more more).map fun p => (p.val, H)
    | _ => none
  | _ => none

def ptrRuns (P : Program) (C : Cfg P) (n : Nat) (p : AtPtr) : Bool := (toVs p.cs).isSome && (toV p.val).isSome && (toVs p.more).isSome && match evCall P C n p.f (.ptr 0 0 :: p.more) [.cells p.cs p.elem] with
  | some (v, .cells cs e :: _) => AV.beq v p.val && AV.beqs cs p.cs && e == p.elem
  | _ => false

theorem ptrOrc_ok {P : Program} {C : Cfg P} {n : Nat} {l : List AtPtr} (hl : l.all (ptrRuns P C n) = true) (w0 : World) (Pr : Nat → Prop) : CallOk P w0 Pr (ptrOrc l) := by
  intro f args H v H' h φ w vs hW hr
  unfold ptrOrc at h
  split at h
  · rename_i i more
    split at h
    · rename_i cs el hi
      simp only [Option.map_eq_some_iff, Prod.mk.injEq] at h
      obtain ⟨p, he, rfl, rfl⟩ := h
      have hm := List.mem_of_find?_eq_some he
      have hp := List.find?_some he
      simp only [Bool.and_eq_true, beq_iff_eq] at hp
      obtain ⟨⟨⟨rfl, hcs⟩, rfl⟩, hmo⟩ := hp
      have ha := AV.beqs_eq _ _ hcs
      have hb := AV.beqs_eq _ _ hmo
      subst ha hb
      have hs := List.all_eq_true.1 hl _ hm
      simp only [ptrRuns, Bool.and_eq_true] at hs
      obtain ⟨⟨⟨h1, h2⟩, h4⟩, h3⟩ := hs
      split at h3
      · rename_i v0 cs0 e0 H0 he0
        simp only [Bool.and_eq_true, beq_iff_eq] at h3
        obtain ⟨⟨hv, hc0⟩, rfl⟩ := h3
        have hv := AV.beq_eq _ _ hv
        have hc0 := AV.beqs_eq _ _ hc0
        subst hv hc0
        obtain ⟨b, o, z, c, hφ, hblk, hz, hlen, hcell⟩ := hW.obj i _ hi
        have hOi : Owned H i := ⟨_, hi, rfl⟩
        have hnp := hW.own i _ hOi hφ
        have hblt := hW.lt i _ hφ
        obtain ⟨us, uss, hvs, hu1, hus⟩ := hr
        let ψ : Env := fun j => if j = 0 then some (b, o, z) else none
        have hψ : WR w (fun b' => b' < w.heap.size ∧ b' ≠ b) ψ [.cells p.cs p.elem] w := by
          refine ⟨fun j hj => ?_, fun j hj => ?_, fun j x hx => ?_, fun j k x y ⟨q, hq, _⟩ ⟨q', hq', _⟩ _ _ _ => ?_, fun j x _ hx => ?_, fun j x q hq _ => ?_, fun j q hq => ?_, fun b' hb' => hb'.1, Nat.le_refl _, rfl, rfl, rfl, fun _ _ => rfl⟩
          · simp at hj; simp only [ψ]; rw [if_neg (by omega)]
          · cases j <;> simp at hj
          · simp only [ψ] at hx; split at hx <;> simp at hx; subst hx; exact hblt
          · cases j <;> simp at hq; cases k <;> simp at hq'; rfl
          · simp only [ψ] at hx; split at hx <;> simp at hx; subst hx; exact fun h => h.2 rfl
          · cases j <;> simp at hq
          · cases j with
            | zero =>
              simp at hq; subst hq
              refine ⟨b, o, z, c, rfl, hblk, hz, hlen, fun j v hj => ?_⟩
              obtain ⟨u, hu, r⟩ := hcell j v hj
              exact ⟨u, hu, toV_env (toVs_get h1 hj) r⟩
            | succ j => simp at hq
        have hr' : VRs ψ (.ptr 0 0 :: p.more) vs.toList := by
          refine ⟨us, uss, hvs, ?_, toVs_env h4 hus⟩
          obtain ⟨b', o', z', hb', rfl⟩ := hu1
          rw [hφ] at hb'; cases hb'
          exact ⟨b, o, z, rfl, rfl⟩
        have := evCall_sound (C := C) n p.f _ _ p.val _ he0 ψ w vs hψ hr'
        refine this.mono fun e w' hw => ?_
        obtain ⟨φ', u, hle, he, hu, hW'⟩ := hw
        refine ⟨φ, u, Env.le_refl φ, he, toV_env h2 hu, ?_⟩
        have hst : ∀ b', b' < w.heap.size → b' ≠ b → w'.heap[b']? = w.heap[b']? := fun b' h1 h2 => hW'.old b' ⟨h1, h2⟩
        refine ⟨hW.dom, hW.fresh, fun j x hx => Nat.lt_of_lt_of_le (hW.lt j x hx) hW'.size, hW.inj, hW.own, hW.argP, fun j q hq => ?_, hW.prLt, Nat.le_trans hW.size hW'.size, hW'.os.trans hW.os, hW'.tape.trans hW.tape, hW'.output.trans hW.output, fun b' hb' => ?_⟩
        · have hk := hW.obj j q hq
          have go : (∀ x, φ j = some x → x.1 ≠ b) → OR φ w' j q := fun g => hk.keep (Env.le_refl φ) fun x hx => hst _ (hW.lt j x hx) (g x hx)
          cases q with
          | fresh => trivial
          | dead => trivial
          | arg cs => exact go fun x hx hxb => hnp (by have := hW.argP j x cs hq hx; rw [hxb] at this; exact this)
          | map es cl =>
            refine go fun x hx hxb => ?_
            have := hW.inj j i x _ ⟨_, hq, rfl⟩ hOi hx hφ hxb
            subst this; rw [hi] at hq; cases hq
          | strIter s q =>
            refine go fun x hx hxb => ?_
            have := hW.inj j i x _ ⟨_, hq, rfl⟩ hOi hx hφ hxb
            subst this; rw [hi] at hq; cases hq
          | cells cs' e' =>
            by_cases hji : j = i
            · subst hji
              rw [hi] at hq; cases hq
              obtain ⟨b1, o1, z1, c1, hφ1, hblk1, hz1, hlen1, hcell1⟩ := hW'.obj 0 _ rfl
              rw [hle 0 (b, o, z) rfl] at hφ1
              cases hφ1
              refine ⟨b, o, z, c1, hφ, hblk1, hz1, hlen1, fun j v hj => ?_⟩
              obtain ⟨u, hu, r⟩ := hcell1 j v hj
              exact ⟨u, hu, toV_env (toVs_get h1 hj) r⟩
            · exact go fun x hx hxb => hji (hW.inj j i x _ ⟨_, hq, rfl⟩ hOi hx hφ hxb)
        · have hbl : b' < w.heap.size := Nat.lt_of_lt_of_le (hW.prLt b' hb') hW.size
          rw [hst b' hbl (fun e => hnp (by subst e; exact hb'))]
          exact hW.old b' hb'
      · cases h3
    · cases h
  · cases h

def orElse (a b : CallF) : CallF := fun f args H => (a f args H).or (b f args H)
theorem orElse_ok {P : Program} {w0 : World} {Pr : Nat → Prop} {a b : CallF} (ha : CallOk P w0 Pr a) (hb : CallOk P w0 Pr b) : CallOk P w0 Pr (orElse a b) := by
  intro f args H v H' h
  unfold orElse at h
  cases h1 : a f args H with
  | some r => rw [h1] at h; simp at h; subst h; exact ha f args H v H' h1
  | none => rw [h1] at h; simp at h; exact hb f args H v H' h

end Go.Dv

/- Orders that come together again: a plan in parts (own work). -/

namespace Go.Dv

mutual
/-- a plan, and another one behind each of its ends -/
def graft : Plan → Plan → Plan
  | .done, q => q
  | .take i p, q => .take i (graft p q)
  | .all l, q => .all (graftL l q)
def graftL : List (Nat × Plan) → Plan → List (Nat × Plan)
  | [], _ => []
  | (i, p) :: l, q => (i, graft p q) :: graftL l q
end

section
variable {P : Program} {C : Cfg P}

mutual
theorem graft_run (call : CallF) (base : Nat) (ops : Array Oper) (q : Plan) : ∀ (p : Plan) (s t : St), runPlan P C call base ops p s = some t → runPlan P C call base ops (graft p q) s = runPlan P C call base ops q t
  | .done, s, t, h => by
    simp only [runPlan, Option.some.injEq] at h
    subst h
    simp only [graft]
  | .take i p, s, t, h => by
    simp only [graft, runPlan] at h ⊢
    split at h
    · cases h
    · simp only [Option.bind_eq_some_iff] at h
      obtain ⟨v, hv, h⟩ := h
      rw [hv]
      exact graft_run call base ops q p _ t h
  | .all l, s, t, h => by
    simp only [graft, runPlan] at h ⊢
    cases l with
    | nil => simp only [runAll] at h; cases h
    | cons x l =>
      cases hq : runPlan P C call base ops q t with
      | none => exact graft_none call base ops q (x :: l) s t h (by simp) hq
      | some u => exact graft_some call base ops q (x :: l) s t u h (by simp) hq
theorem graft_some (call : CallF) (base : Nat) (ops : Array Oper) (q : Plan) : ∀ (l : List (Nat × Plan)) (s t u : St), runAll P C call base ops l s none = some t → l ≠ [] → runPlan P C call base ops q t = some u → runAll P C call base ops (graftL l q) s none = some u
  | [], _, _, _, _, hn, _ => absurd rfl hn
  | (i, p) :: l, s, t, u, h, _, hq => by
    simp only [graftL, runAll] at h ⊢
    simp only [Option.bind_eq_some_iff] at h
    obtain ⟨s', hs, t0, ht, h⟩ := h
    have e := runAll_same call base ops l s t0 t h
    subst e
    rw [hs]
    simp only [Option.bind_some]
    rw [graft_run call base ops q p s' t0 ht, hq]
    exact graft_rest call base ops q l s t0 u h hq
theorem graft_rest (call : CallF) (base : Nat) (ops : Array Oper) (q : Plan) : ∀ (l : List (Nat × Plan)) (s t u : St), runAll P C call base ops l s (some t) = some t → runPlan P C call base ops q t = some u → runAll P C call base ops (graftL l q) s (some u) = some u
  | [], _, _, _, _, _ => by simp only [graftL, runAll]
  | (i, p) :: l, s, t, u, h, hq => by
    simp only [graftL, runAll] at h ⊢
    simp only [Option.bind_eq_some_iff] at h
    obtain ⟨s', hs, t0, ht, h⟩ := h
    split at h
    · rename_i he
      have e := stBeq_eq he
      subst e
      rw [hs]
      simp only [Option.bind_some]
      rw [graft_run call base ops q p s' t ht, hq]
      simp only [Option.bind_some, stBeq_self, if_true]
      exact graft_rest call base ops q l s t u h hq
    · cases h
theorem graft_none (call : CallF) (base : Nat) (ops : Array Oper) (q : Plan) : ∀ (l : List (Nat × Plan)) (s t : St), runAll P C call base ops l s none = some t → l ≠ [] → runPlan P C call base ops q t = none → runAll P C call base ops (graftL l q) s none = none
  | [], _, _, _, hn, _ => absurd rfl hn
  | (i, p) :: l, s, t, h, _, hq => by
    simp only [graftL, runAll] at h ⊢
    simp only [Option.bind_eq_some_iff] at h
    obtain ⟨s', hs, t0, ht, h⟩ := h
    have e := runAll_same call base ops l s t0 t h
    subst e
    rw [hs]
    simp only [Option.bind_some]
    rw [graft_run call base ops q p s' t0 ht, hq]
    rfl
theorem runAll_same (call : CallF) (base : Nat) (ops : Array Oper) : ∀ (l : List (Nat × Plan)) (s t0 t : St), runAll P C call base ops l s (some t0) = some t → t0 = t
  | [], _, _, _, h => by simp only [runAll, Option.some.injEq] at h; exact h
  | (i, p) :: l, s, t0, t, h => by
    simp only [runAll] at h
    simp only [Option.bind_eq_some_iff] at h
    obtain ⟨s', hs, t1, ht, h⟩ := h
    split at h
    · exact runAll_same call base ops l s t0 t h
    · cases h
end

/-- a plan in parts -/
def runG (P : Program) (C : Cfg P) (call : CallF) (base : Nat) (ops : Array Oper) (p q : Plan) (s : St) : Option St := runPlan P C call base ops (graft p q) s

theorem rp_graft (call : CallF) (base : Nat) (ops : Array Oper) (p q : Plan) (s : St) : runPlan P C call base ops (graft p q) s =
    match runPlan P C call base ops p s with
    | some t => runPlan P C call base ops q t
    | none => runG P C call base ops p q s := by
  split
  · rename_i t h; exact graft_run call base ops q p s t h
  · rfl

end
end Go.Dv

/- Functions of values that lead to no block become known calls; a result that lies in a cell (own work). -/

namespace Go.Dv

section
variable {P : Program} {C : Cfg P}

/-- Known calls of functions of plain values: what lies in the heap stands, and what the call made is forgotten. -/
def pureOrc (l : List (FuncId × (List AV → Option AV))) : CallF := fun f args H => (l.find? fun e => f == e.1).bind fun e => (e.2 args).map fun v => (v, H)

theorem pureOrc_ok {l : List (FuncId × (List AV → Option AV))} (hl : ∀ e ∈ l, ∀ args v, e.2 args = some v → (toVs args).isSome = true ∧ (toV v).isSome = true ∧ ∃ H', Ev P C e.1 args [] = some (v, H'))
    (w0 : World) (Pr : Nat → Prop) : CallOk P w0 Pr (pureOrc l) := by
  intro f args H v H' h φ w vs hW hr
  unfold pureOrc at h
  simp only [Option.bind_eq_some_iff, Option.map_eq_some_iff, Prod.mk.injEq] at h
  obtain ⟨e, he, v', hv, rfl, rfl⟩ := h
  have hm := List.mem_of_find?_eq_some he
  have hp := List.find?_some he
  simp only [beq_iff_eq] at hp
  subst hp
  obtain ⟨h1, h2, H0, h3⟩ := hl e hm args v' hv
  have := Ev_sound (C := C) (w0 := w) (Pr := fun b => b < w.heap.size) e.1 args [] v' H0 h3 (fun _ => none) w vs (WR.start w) (toVs_env h1 hr)
  refine this.mono fun e w' hw => ?_
  obtain ⟨φ', u, _, he, hu, hW'⟩ := hw
  exact ⟨φ, u, Env.le_refl φ, he, toV_env h2 hu, hW.later hW'.size hW'.old hW'.os hW'.tape hW'.output⟩

theorem retA_cell1 {fn : Func} {a : Tmp} {t : TypeId} (h : fn.results.toList = [.cell a t]) (tm : List AV) (H : AH) : retA P fn (tm, H) = match tm.getD a undefA with
    | .ptr i k => (ldA P t H i k).map fun v => (v, H)
    | _ => none := by
  unfold retA
  rw [h]
  cases hg : tm.getD a undefA with
  | ptr i k =>
    simp only [resultsA, hg]
    cases ldA P t H i k <;> rfl
  | _ => simp only [resultsA, hg] <;> rfl

/-- slots in order; the word keepV tells simp that this is no mere exchange -/
def keepV (x : AV) : AV := x
theorem keepV_eq (x : AV) : keepV x = x := rfl
theorem set_order {l : List AV} {i j : Nat} {a b : AV} (h : j < i) : (l.set i a).set j b = (l.set j (keepV b)).set i a := List.set_comm _ _ (by omega)
theorem put_slot (n : Nat) (x : AObj) (L : AH) (o : AObj) : put (some n) (x :: L) o = match (x :: L)[n]? with
    | some .fresh => some (n, (x :: L).set n o)
    | _ => none := rfl
theorem put_slot_app (H L : AH) (n : Nat) (o : AObj) : put (some (H.length + n)) (H ++ L) o = (put (some n) L o).map fun r => (H.length + r.1, H ++ r.2) := by
  unfold put
  simp only
  rw [List.getElem?_append_right (by omega), Nat.add_sub_cancel_left]
  cases L[n]? with
  | none => rfl
  | some o' => cases o' with
    | fresh =>
      simp only [Option.map_some]
      rw [List.set_append_right _ _ (by omega), Nat.add_sub_cancel_left]
    | _ => rfl
end
end Go.Dv

/- A call that only reads becomes a known call: it is reckoned on the heap as it is only read, and what it made is forgotten (own work). -/

namespace Go.Dv

section
variable {P : Program} {C : Cfg P}

def roO : AObj → AObj
  | .cells cs _ => .arg cs
  | .arg cs => .arg cs
  | _ => .dead

/-- The heap as it is only read. -/
def ro (H : AH) : AH := H.map roO

theorem ro_get {H : AH} {i : Nat} {o : AObj} (h : (ro H)[i]? = some o) : ∃ o', H[i]? = some o' ∧ o = roO o' := by
  simp only [ro, List.getElem?_map, Option.map_eq_some_iff] at h
  obtain ⟨o', h1, h2⟩ := h
  exact ⟨o', h1, h2.symm⟩

theorem ro_rd {H : AH} {i k n : Nat} {xs : List AV} (h : rdCells H i k n = some xs) : rdCells (ro H) i k n = some xs := by
  unfold rdCells at h ⊢
  simp only [ro, List.getElem?_map]
  cases hi : H[i]? with
  | none => rw [hi] at h; exact h
  | some o =>
    rw [hi] at h
    cases o <;> simp only [Option.map_some, roO] at h ⊢ <;> first
      | exact h
      | (cases h; done)

theorem WR.reads {w0 : World} {Pr : Nat → Prop} {φ : Env} {H : AH} {w : World} (h : WR w0 Pr φ H w) : WR w (fun b => b < w.heap.size) φ (ro H) w where
  dom := fun i hi => h.dom i (by simpa [ro] using hi)
  fresh := fun i hi => by
    obtain ⟨o, _, ho⟩ := ro_get hi
    cases o <;> cases ho
  lt := h.lt
  inj := fun i j x y ⟨o, hi, hw⟩ => by
    obtain ⟨o', _, rfl⟩ := ro_get hi
    cases o' <;> cases hw
  own := fun i x ⟨o, hi, hw⟩ => by
    obtain ⟨o', _, rfl⟩ := ro_get hi
    cases o' <;> cases hw
  argP := fun i x cs _ hx => h.lt i x hx
  obj := fun i o hi => by
    obtain ⟨o', hi', rfl⟩ := ro_get hi
    have ho := h.obj i o' hi'
    cases o' with
    | fresh => trivial
    | dead => trivial
    | map => trivial
    | strIter => trivial
    | arg cs => exact ho
    | cells cs e =>
      obtain ⟨b, o, z, c, hφ, hb, hz, hl, hv⟩ := ho
      refine ⟨b, o, z, hφ, fun j v hj => ?_⟩
      obtain ⟨u, hu, r⟩ := hv j v hj
      refine ⟨u, ?_, r⟩
      unfold World.cell?
      simp [hb, hu]
  prLt := fun b h => h
  size := Nat.le_refl _
  os := rfl
  tape := rfl
  output := rfl
  old := fun _ _ => rfl

open Classical in
/-- Calls that only read: what they answer on the heap as it is only read. -/
noncomputable def readOrc (P : Program) (C : Cfg P) (fs : List FuncId) : CallF := fun f args H =>
  if f ∈ fs then (Ev P C f args (ro H)).bind fun r => if (toV r.1).isSome = true then some (r.1, H) else none else none

theorem readOrc_ok (fs : List FuncId) (w0 : World) (Pr : Nat → Prop) : CallOk P w0 Pr (readOrc P C fs) := by
  intro f args H v H' h φ w vs hW hr
  unfold readOrc at h
  split at h
  · simp only [Option.bind_eq_some_iff] at h
    obtain ⟨⟨v0, H0⟩, he, h⟩ := h
    split at h
    · rename_i hp
      cases h
      have := Ev_sound (C := C) (w0 := w) (Pr := fun b => b < w.heap.size) f args (ro H) v0 H0 he φ w vs hW.reads hr
      refine this.mono fun e w' hw => ?_
      obtain ⟨φ', u, _, he, hu, hW'⟩ := hw
      exact ⟨φ, u, Env.le_refl φ, he, toV_env hp hu, hW.later hW'.size hW'.old hW'.os hW'.tape hW'.output⟩
    · cases h
  · cases h

theorem readOrc_eq {fs : List FuncId} {f : FuncId} {args : List AV} {H H' : AH} {v : AV} (hf : f ∈ fs) (h : Ev P C f args (ro H) = some (v, H')) (hv : (toV v).isSome = true) : readOrc P C fs f args H = some (v, H) := by
  unfold readOrc
  rw [if_pos hf, h]
  simp only [Option.bind_some]
  rw [if_pos hv]

theorem readOrc_none {fs : List FuncId} {f : FuncId} (hf : f ∉ fs) (args : List AV) (H : AH) : readOrc P C fs f args H = none := by
  unfold readOrc
  rw [if_neg hf]
end
end Go.Dv
