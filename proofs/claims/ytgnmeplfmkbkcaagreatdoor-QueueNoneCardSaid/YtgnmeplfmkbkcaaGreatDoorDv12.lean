/- That the model's operation does what the abstract one says (own work). -/
import Derived.Test.YtgnmeplfmkbkcaaGreatDoorDv11
import Derived.Laws.StructEq

namespace Go.Dv
set_option linter.unusedSimpArgs false
set_option linter.unusedVariables false

section
variable {P : Program} {C : Cfg P} {w0 : World} {Pr : Nat → Prop} {φ : Env} {H : AH} {w : World} {ev : Operand → Option AV} {ρ : Operand → Value}

theorem evL_spec (hρ : ∀ x a, ev x = some a → VR φ a (ρ x)) : ∀ (xs : List Operand) (as : List AV), evL ev xs = some as → VRs φ as (xs.map ρ)
  | [], as, h => by cases h; rfl
  | x :: xs, as, h => by
    simp only [evL, Option.bind_eq_some_iff, Option.map_eq_some_iff] at h
    obtain ⟨v, hv, vs, hvs, rfl⟩ := h
    exact .cons (hρ x v hv) (evL_spec hρ xs vs hvs)

theorem evP_spec (hρ : ∀ x a, ev x = some a → VR φ a (ρ x)) : ∀ (xs : List (Nat × Operand)) (as : List (Nat × AV)), evP ev xs = some as → PVR φ as (xs.map fun (i, x) => (i, ρ x))
  | [], as, h => by cases h; rfl
  | (i, x) :: xs, as, h => by
    simp only [evP, Option.bind_eq_some_iff, Option.map_eq_some_iff] at h
    obtain ⟨v, hv, vs, hvs, rfl⟩ := h
    exact ⟨ρ x, _, rfl, hρ x v hv, evP_spec hρ xs vs hvs⟩

theorem evO_spec (hρ : ∀ x a, ev x = some a → VR φ a (ρ x)) {x : Option Operand} {a : Option AV} (h : evO ev x = some a) : OVR φ a (x.map ρ) := by
  cases x with
  | none => cases h; rfl
  | some x =>
    simp only [evO, Option.map_eq_some_iff] at h
    obtain ⟨v, hv, rfl⟩ := h
    exact ⟨ρ x, rfl, hρ x v hv⟩

/-- A value that is yielded. -/
theorem fits_val {φ' : Env} {w' : World} {v : AV} {s : Sem Value} {u : Value} (hs : s.run P w = .ok u w') (r : VR φ' v u) : Fits φ' w' (.val v) ((do pure (Next.value (← s)) : Sem Next).run P w) :=
  ⟨u, by simp only [Sem.run_bind, hs, Result.andThen_ok, Sem.run_pure], r⟩
theorem fits_skip {φ' : Env} {w' : World} {s : Sem Unit} (hs : s.run P w = .ok () w') : Fits φ' w' .skip ((do s; pure Next.skip : Sem Next).run P w) := by
  simp only [Fits, Sem.run_bind, hs, Result.andThen_ok, Sem.run_pure]

theorem pureA_spec (hW : WR w0 Pr φ H w) (hρ : ∀ x a, ev x = some a → VR φ a (ρ x)) {o : Oper} {n : ANext} (h : pureA P ev o = some n) : Fits φ w n ((execOp ρ o).run P w) := by
  unfold pureA at h
  split at h
  · rename_i hc
    simp only [Bool.and_eq_true, List.all_eq_true] at hc
    have hcong : execOp ρ o = execOp (rhoOf ev) o := execOp_congr o (fun cs b e => by rw [e] at hc; exact absurd hc.1 (by simp [notSelect])) fun x hx => by
      obtain ⟨u, hu⟩ := Option.isSome_iff_exists.1 (hc.2 x (by simpa using hx))
      have : rhoOf ev x = u := by simp [rhoOf, hu]
      rw [this]
      simp only [Option.bind_eq_some_iff] at hu
      obtain ⟨a, ha, hav⟩ := hu
      exact toV_spec a u hav _ (hρ x a ha)
    rw [hcong]
    split at h
    · rename_i v hv
      simp only [Option.map_eq_some_iff] at h
      obtain ⟨a, ha, rfl⟩ := h
      exact ⟨v, pureRun_spec _ _ hv w, ofV_spec _ _ _ ha⟩
    · cases h
  · cases h

theorem pureA_fin (hW : WR w0 Pr φ H w) (hρ : ∀ x a, ev x = some a → VR φ a (ρ x)) {o : Oper} {n : ANext} {H' : AH} (h : (pureA P ev o).map (fun n => (n, H)) = some (n, H')) :
    ∃ φ' w', φ.le φ' ∧ WR w0 Pr φ' H' w' ∧ Fits φ' w' n ((execOp ρ o).run P w) := by
  simp only [Option.map_eq_some_iff] at h
  obtain ⟨n', hn, he⟩ := h
  cases he
  exact ⟨φ, w, Env.le_refl φ, hW, pureA_spec hW hρ hn⟩

theorem run_sameAddr_other {a b : Addr} {ca cb : Array Value} {ea eb : TypeId} (hne : a.block ≠ b.block) (ha : w.heap[a.block]? = some (.cells ca ea (0, 0))) (hb : w.heap[b.block]? = some (.cells cb eb (0, 0))) :
    (sameAddr a b).run P w = .ok false w := by
  have e : (a.block == b.block) = false := by simpa using hne
  simp [sameAddr, e, World.frozen?, ha, hb, noView, viewAt, World.shape?, mayBeOne, stringish]

theorem eqVG_spec {t : TypeId} {x y : AV} {ux uy : Value} {r : Bool} (rx : VR φ x ux) (ry : VR φ y uy) (h : eqVG P t x y = some r) (op : BinOp) (X Y : Operand) (w : World) :
    (Op.equal t ux uy).run P w = .ok r w ∧ (eqGuard op t X Y ux uy).run P w = .ok () w ∧ binOp .eql t ux uy = (do pure (.bool (← Op.equal t ux uy))) ∧ binOp .neq t ux uy = (do pure (.bool (!(← Op.equal t ux uy)))) := by
  unfold eqVG at h
  split at h
  · cases h
  · cases h
  · rename_i hni hns
    split at h
    · cases h
    · rename_i hg
      have hg' : P.eqGuardType P.depth t = false := by simpa using hg
      refine ⟨eqVA_spec 6 Op.maxDepth (by decide) t x y ux uy r rx ry h w, ?_⟩
      clear hg
      unfold eqVA at h
      split at h
      · split at h
        · rename_i k a k' b; exact absurd rfl (hni k a)
        · cases h
      · split at h
        · simp only [VR] at rx ry; subst rx; subst ry
          exact ⟨by cases op <;> simp [eqGuard], rfl, rfl⟩
        · cases h
      · split at h
        · rename_i a b; exact absurd rfl (hns a)
        · cases h
      · split at h
        · obtain ⟨us, rfl, _⟩ := rx
          obtain ⟨vs, rfl, _⟩ := ry
          clear h
          exact ⟨by cases op <;> simp [eqGuard, run_program, hg'], rfl, rfl⟩
        · cases h
      · cases h

theorem eqA_spec (hW : WR w0 Pr φ H w) {t : TypeId} {x y : AV} {ux uy : Value} {r : Bool} (rx : VR φ x ux) (ry : VR φ y uy) (h : eqA P t H x y = some r) (op : BinOp) (X Y : Operand) :
    (Op.equal t ux uy).run P w = .ok r w ∧ (eqGuard op t X Y ux uy).run P w = .ok () w ∧ binOp .eql t ux uy = (do pure (.bool (← Op.equal t ux uy))) ∧ binOp .neq t ux uy = (do pure (.bool (!(← Op.equal t ux uy)))) := by
  have e : Op.equal t ux uy = Op.equalIn (9999 + 1) t ux uy := rfl
  generalize hN : 9999 = N at e
  unfold eqA at h
  split at h
  · rename_i elem hu
    split at h <;> first | (cases h; done) | skip
    · cases h; simp only [VR] at rx ry; subst rx; subst ry
      refine ⟨by rw [e]; simp [Op.equalIn, run_und hu], by cases op <;> simp [eqGuard], rfl, rfl⟩
    · cases h; obtain ⟨a, c, rfl, _⟩ := ry; simp only [VR] at rx; subst rx
      refine ⟨by rw [e]; simp [Op.equalIn, run_und hu], by cases op <;> simp [eqGuard], rfl, rfl⟩
    · cases h; obtain ⟨a, c, rfl, _⟩ := rx; simp only [VR] at ry; subst ry
      refine ⟨by rw [e]; simp [Op.equalIn, run_und hu], by cases op <;> simp [eqGuard], rfl, rfl⟩
  · rename_i k elem hu
    split at h <;> first | (cases h; done) | skip
    · cases h; simp only [VR] at rx ry; subst rx; subst ry
      refine ⟨by rw [e]; simp [Op.equalIn, run_und hu], by cases op <;> simp [eqGuard], rfl, rfl⟩
    · cases h; obtain ⟨b, z, _, rfl⟩ := ry; simp only [VR] at rx; subst rx
      refine ⟨by rw [e]; simp [Op.equalIn, run_und hu], by cases op <;> simp [eqGuard], rfl, rfl⟩
    · cases h; obtain ⟨b, z, _, rfl⟩ := rx; simp only [VR] at ry; subst ry
      refine ⟨by rw [e]; simp [Op.equalIn, run_und hu], by cases op <;> simp [eqGuard], rfl, rfl⟩
  · rename_i p1 p2 p3 hu
    split at h <;> first | (cases h; done) | skip
    · cases h; simp only [VR] at rx ry; subst rx; subst ry
      refine ⟨by rw [e]; simp [Op.equalIn, run_und hu], by cases op <;> simp [eqGuard], rfl, rfl⟩
    · cases h; obtain ⟨b, z, rfl, _⟩ := ry; simp only [VR] at rx; subst rx
      refine ⟨by rw [e]; simp [Op.equalIn, run_und hu], by cases op <;> simp [eqGuard], rfl, rfl⟩
    · cases h; obtain ⟨b, z, rfl, _⟩ := rx; simp only [VR] at ry; subst ry
      refine ⟨by rw [e]; simp [Op.equalIn, run_und hu], by cases op <;> simp [eqGuard], rfl, rfl⟩
  · rename_i ms hu
    split at h <;> first | (cases h; done) | skip
    · cases h; obtain ⟨b, rfl, _⟩ := ry; simp only [VR] at rx; subst rx
      refine ⟨by rw [e]; simp [Op.equalIn, run_und hu], by cases op <;> simp [eqGuard], rfl, rfl⟩
    · cases h; obtain ⟨b, rfl, _⟩ := rx; simp only [VR] at ry; subst ry
      refine ⟨by rw [e]; simp [Op.equalIn, run_und hu], by cases op <;> simp [eqGuard], rfl, rfl⟩
    · split at h
      · cases h
      · rename_i hne
        cases h; obtain ⟨b, rfl, _⟩ := rx; obtain ⟨b, rfl, _⟩ := ry
        refine ⟨by rw [e]; simp [Op.equalIn, run_und hu, hne], by cases op <;> simp [eqGuard], rfl, rfl⟩
  · rename_i el hu
    split at h <;> first | (cases h; done) | skip
    · cases h; simp only [VR] at rx ry; subst rx; subst ry
      refine ⟨by rw [e]; simp [Op.equalIn, run_und hu], by cases op <;> simp [eqGuard], rfl, rfl⟩
    · cases h; obtain ⟨b, o, z, _, rfl⟩ := ry; simp only [VR] at rx; subst rx
      refine ⟨by rw [e]; simp [Op.equalIn, run_und hu], by cases op <;> simp [eqGuard], rfl, rfl⟩
    · cases h; obtain ⟨b, o, z, _, rfl⟩ := rx; simp only [VR] at ry; subst ry
      refine ⟨by rw [e]; simp [Op.equalIn, run_und hu], by cases op <;> simp [eqGuard], rfl, rfl⟩
    · rename_i i k j l
      split at h
      · cases h
      · rename_i hsz
        simp only [Option.bind_eq_some_iff] at h
        obtain ⟨ti, hti, h⟩ := h
        obtain ⟨b, o, z, hφ, rfl⟩ := rx
        obtain ⟨b', o', z', hφ', rfl⟩ := ry
        refine ⟨?_, by cases op <;> simp [eqGuard], rfl, rfl⟩
        rw [e]
        simp only [Op.equalIn, Sem.run_bind, run_und hu, Result.andThen_ok, run_size hti, Sem.run_ite, ne_eq, hsz, not_false_iff, if_true]
        split at h
        · rename_i hij
          subst hij
          rw [hφ] at hφ'; cases hφ'
          cases h
          have : ((⟨b, o + k, none⟩ : Addr) == ⟨b, o + l, none⟩) = (k == l) := by
            rw [Bool.eq_iff_iff]; simp
          simp [sameAddr, this]
        · rename_i hij
          split at h
          · rename_i c1 e1 c2 e2 h1 h2
            cases h
            obtain ⟨b1, o1, z1, d1, hp1, hh1, _⟩ := hW.obj _ _ h1
            obtain ⟨b2, o2, z2, d2, hp2, hh2, _⟩ := hW.obj _ _ h2
            rw [hφ] at hp1; cases hp1
            rw [hφ'] at hp2; cases hp2
            have hne : b ≠ b' := fun e => hij (hW.inj i j _ _ ⟨_, h1, rfl⟩ ⟨_, h2, rfl⟩ hφ hφ' e)
            rw [run_sameAddr_other hne hh1 hh2]
          · cases h
  · exact eqVG_spec rx ry h op X Y w

theorem lenA_spec (hW : WR w0 Pr φ H w) {t : TypeId} {x v : AV} {ux : Value} {argTypes : Array TypeId} {args : Array Value} {ty : TypeId} (h0 : argTypes[0]? = some t) (ha : args[0]? = some ux) (rx : VR φ x ux) (h : lenA P t H x = some v) :
    ∃ u, (Builtin.len_ argTypes ty args).run P w = .ok u w ∧ VR φ v u := by
  unfold lenA at h
  split at h
  · rename_i e hu
    split at h
    · cases h; obtain ⟨a, c, rfl, _⟩ := rx
      exact ⟨_, by simp only [Builtin.len_, h0, ha, Sem.run_bind, run_und hu, Result.andThen_ok, Sem.run_pure]; rfl, rfl⟩
    · cases h; simp only [VR] at rx; subst rx
      exact ⟨_, by simp only [Builtin.len_, h0, ha, Sem.run_bind, run_und hu, Result.andThen_ok, Sem.run_pure]; rfl, rfl⟩
    · cases h
  · rename_i hu
    split at h
    · cases h; simp only [VR] at rx; subst rx
      exact ⟨_, by simp only [Builtin.len_, h0, ha, Sem.run_bind, run_und hu, Result.andThen_ok, Sem.run_pure]; rfl, rfl⟩
    · cases h
  · rename_i kt et hu
    simp only [Option.map_eq_some_iff] at h
    obtain ⟨es, hes, rfl⟩ := h
    rcases entriesA_spec hW rx hes with ⟨rfl, rfl⟩ | ⟨b, es', c, rfl, hheap, hm⟩
    · exact ⟨_, by simp only [Builtin.len_, h0, ha, Sem.run_bind, run_und hu, Result.andThen_ok, Sem.run_pure]; rfl, rfl⟩
    · refine ⟨_, by simp only [Builtin.len_, h0, ha, Sem.run_bind, run_und hu, Result.andThen_ok, run_getMap hheap, Sem.run_pure]; rfl, ?_⟩
      simp only [VR, goInt]
      rw [hm.length]; simp
  · cases h

theorem run_callFunc {g : FuncId} {fn : Func} {args : Array Value} (hf : P.funcs[g]? = some fn) (hb : fn.body.isSome = true) (hn : (fn.name == "runtime.NumGoroutine") = false) :
    (callFunc g args).run P w = .ok (.enter g args) w := by
  have : fn.body.isNone = false := by cases h : fn.body <;> simp_all
  simp only [callFunc, Sem.run_bind, run_program, Result.andThen_ok, hf, hn, Bool.false_eq_true, if_false, this, Sem.run_pure]

theorem callA_spec (hW : WR w0 Pr φ H w) (hρ : ∀ x a, ev x = some a → VR φ a (ρ x)) {slot : Option Nat} {dst : Option Tmp} {ty : TypeId} {pos : String} {after : Array Edge} {guard : Option (Nat × Bool)} {c : Call} {n : ANext} {H' : AH}
    (h : callA P C slot ev ⟨dst, .call c, ty, pos, after, guard⟩ c H = some (n, H')) :
    ∃ φ' w', φ.le φ' ∧ WR w0 Pr φ' H' w' ∧ Fits φ' w' n ((execOp ρ ⟨dst, .call c, ty, pos, after, guard⟩).run P w) := by
  unfold callA at h
  split at h
  · rename_i f hcal
    simp only [Option.bind_eq_some_iff] at h
    obtain ⟨fv, hfv, as, has, h⟩ := h
    split at h
    case h_2 => cases h
    rename_i g first cap
    simp only [Option.bind_eq_some_iff] at h
    obtain ⟨fn, hfn, h⟩ := h
    split at h
    case isFalse => cases h
    rename_i hb
    cases h
    obtain ⟨f', c', hval, rf, rc⟩ := hρ f _ hfv
    have ras := evL_spec hρ _ _ has
    refine ⟨φ, w, Env.le_refl φ, hW, (f' ++ c.args.map ρ) ++ c', ?_, ?_⟩
    · simp only [execOp, resolve, hcal, hval, Deferred.ofValue, Sem.run_bind, Sem.run_pure, Result.andThen_ok, invoke, run_callFunc hfn hb (C.name g fn hfn)]
    · simpa using (rf.append ras).append rc
  · rename_i r name hcal
    simp only [Option.bind_eq_some_iff] at h
    obtain ⟨rv, hrv, as, has, h⟩ := h
    split at h
    case h_2 => cases h
    rename_i t v
    simp only [Option.bind_eq_some_iff] at h
    obtain ⟨g, hg, fn, hfn, h⟩ := h
    split at h
    case isFalse => cases h
    rename_i hb
    cases h
    obtain ⟨u, hval, ru⟩ := hρ r _ hrv
    have ras := evL_spec hρ _ _ has
    refine ⟨φ, w, Env.le_refl φ, hW, #[u] ++ c.args.map ρ, ?_, ?_⟩
    · have hx : (#[ρ r] ++ c.args.map ρ).extract 1 (#[ρ r] ++ c.args.map ρ).size = c.args.map ρ := by
        apply Array.toList_inj.1
        simp [Array.toList_extract, List.extract_eq_take_drop, List.take_of_length_le]
      have h0 : (#[ρ r] ++ c.args.map ρ)[0]? = some (ρ r) := by rw [Array.getElem?_append_left (by simp)]; rfl
      have hm := C.methOk t name g hg u w
      have hcf := run_callFunc (w := w) (args := #[u] ++ c.args.map ρ) hfn hb (C.name g fn hfn)
      rw [hval] at hx h0
      simp only [execOp, resolve, hcal, Sem.run_bind, Sem.run_pure, Result.andThen_ok, invoke, hval, h0, callMethod, run_program, hm, hx, hcf]
    · simpa using VRs.cons ru ras
  · rename_i b hcal
    simp only [Option.bind_eq_some_iff] at h
    obtain ⟨as, has, h⟩ := h
    have ras := evL_spec hρ _ _ has
    split at h
    · rename_i x
      simp only [Option.map_eq_some_iff, Option.bind_eq_some_iff] at h
      obtain ⟨v, ⟨t, ht, hl⟩, he⟩ := h
      cases he
      obtain ⟨u, us, hu, rx, _⟩ := ras
      have ha0 : (c.args.map ρ)[0]? = some u := by rw [← Array.getElem?_toList, Array.toList_map, hu]; rfl
      obtain ⟨y, hy, ry⟩ := lenA_spec (ty := ty) hW ht ha0 rx hl
      refine ⟨φ, w, Env.le_refl φ, hW, y, ?_, ry⟩
      simp only [execOp, resolve, hcal, Sem.run_bind, Sem.run_pure, Result.andThen_ok, invoke, builtin, hy]
    · rename_i s x
      simp only [Option.map_eq_some_iff, Option.bind_eq_some_iff] at h
      obtain ⟨⟨v, H1⟩, ⟨t, ht, hl⟩, he⟩ := h
      cases he
      obtain ⟨us, us', hus, rs, ux, us'', hux, rx, _⟩ := ras
      subst hux
      have ha0 : (c.args.map ρ)[0]? = some us := by rw [← Array.getElem?_toList, Array.toList_map, hus]; rfl
      have ha1 : (c.args.map ρ)[1]? = some ux := by rw [← Array.getElem?_toList, Array.toList_map, hus]; rfl
      obtain ⟨φ', w', y, hle, hW', hy, ry⟩ := appendA_spec (ty := ty) hW ht rfl ha0 ha1 rs rx hl
      refine ⟨φ', w', hle, hW', y, ?_, ry⟩
      simp only [execOp, resolve, hcal, Sem.run_bind, Sem.run_pure, Result.andThen_ok, invoke, builtin, hy]
    · rename_i x
      simp only [Option.map_eq_some_iff, Option.bind_eq_some_iff] at h
      obtain ⟨H1, ⟨t, ht, hl⟩, he⟩ := h
      cases he
      obtain ⟨u, us, hu, rx, _⟩ := ras
      have ha0 : (c.args.map ρ)[0]? = some u := by rw [← Array.getElem?_toList, Array.toList_map, hu]; rfl
      obtain ⟨w', hW', hy⟩ := clearA_spec (ty := ty) hW ht ha0 rx hl
      refine ⟨φ, w', Env.le_refl φ, hW', .tuple #[], ?_, _, rfl, rfl⟩
      simp only [execOp, resolve, hcal, Sem.run_bind, Sem.run_pure, Result.andThen_ok, invoke, builtin, hy]
    · rename_i s x
      simp only [Option.map_eq_some_iff, Option.bind_eq_some_iff] at h
      obtain ⟨⟨v, H1⟩, ⟨t, ht, hl⟩, he⟩ := h
      cases he
      obtain ⟨us, us', hus, rs, ux, us'', hux, rx, _⟩ := ras
      subst hux
      have ha0 : (c.args.map ρ)[0]? = some us := by rw [← Array.getElem?_toList, Array.toList_map, hus]; rfl
      have ha1 : (c.args.map ρ)[1]? = some ux := by rw [← Array.getElem?_toList, Array.toList_map, hus]; rfl
      obtain ⟨w', y, hW', hy, ry⟩ := copyA_spec (ty := ty) hW ht ha0 ha1 rs rx hl
      refine ⟨φ, w', Env.le_refl φ, hW', y, ?_, ry⟩
      simp only [execOp, resolve, hcal, Sem.run_bind, Sem.run_pure, Result.andThen_ok, invoke, builtin, hy]
    · exact pureA_fin hW hρ h

end
end Go.Dv
