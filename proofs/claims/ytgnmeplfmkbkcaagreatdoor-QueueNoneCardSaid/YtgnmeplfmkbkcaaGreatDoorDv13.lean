/- Every operation: the model's does what the abstract one says (own work). -/
import Derived.Test.YtgnmeplfmkbkcaaGreatDoorDv12
import Derived.Laws.BytesString

namespace Go.Dv

section
variable {P : Program} {C : Cfg P} {w0 : World} {Pr : Nat → Prop} {φ : Env} {H : AH} {w : World} {ev : Operand → Option AV} {ρ : Operand → Value}

theorem intBinA_spec {op : BinOp} {k : IntKind} {a b : Int} {v : AV} (h : intBinA op k a b = some v) (t : TypeId) (X Y : Operand) :
    ∃ u, (do eqGuard op t X Y (.int k a) (.int k b); binOp op t (.int k a) (.int k b) : Sem Value).run P w = .ok u w ∧ VR φ v u := by
  cases op <;> simp only [intBinA] at h <;> try (cases h; done)
  case quo => split at h <;> cases h; rename_i hb; exact ⟨_, by simp [eqGuard, binOp, Op.intDiv, hb], rfl⟩
  case rem => split at h <;> cases h; rename_i hb; exact ⟨_, by simp [eqGuard, binOp, Op.intDiv, hb], rfl⟩
  all_goals (cases h; refine ⟨_, ?_, rfl⟩; simp [eqGuard, binOp, Op.intArith, Op.intCmp])

theorem nilCheckA_spec {x v : AV} {u : Value} (h : nilCheckA x = some v) (r : VR φ x u) (o : Oper) (X : Operand) (ho : o.op = .nilCheck X) (hX : ρ X = u) : (execOp ρ o).run P w = .ok (.value u) w ∧ v = x := by
  subst hX
  cases x <;> simp only [nilCheckA] at h <;> try (cases h; done)
  case func fn f c =>
    cases fn <;> simp only at h <;> try (cases h; done)
    all_goals
      cases h
      obtain ⟨f', c', e, _⟩ := r
      exact ⟨by simp [execOp, ho, e], rfl⟩
  case ptr => cases h; obtain ⟨_, _, _, _, e⟩ := r; exact ⟨by simp [execOp, ho, e], rfl⟩
  case slice => cases h; obtain ⟨_, _, e, _⟩ := r; exact ⟨by simp [execOp, ho, e], rfl⟩
  case map => cases h; obtain ⟨_, _, _, e⟩ := r; exact ⟨by simp [execOp, ho, e], rfl⟩
  case iface => cases h; obtain ⟨_, e, _⟩ := r; exact ⟨by simp [execOp, ho, e], rfl⟩
  case agg => cases h; obtain ⟨_, e, _⟩ := r; exact ⟨by simp [execOp, ho, e], rfl⟩
  case tuple => cases h; obtain ⟨_, e, _⟩ := r; exact ⟨by simp [execOp, ho, e], rfl⟩
  all_goals (cases h; simp only [VR] at r; exact ⟨by simp [execOp, ho, r], rfl⟩)

theorem bytesOfA_spec : ∀ (cs : List AV) (ns : List Int) (vs : List Value), bytesOfA cs = some ns → VRs φ cs vs → vs = ns.map (Value.int .u8)
  | [], ns, vs, h, r => by simp only [bytesOfA, Option.some.injEq] at h; subst h; exact r
  | x :: cs, ns, vs, h, r => by
    unfold bytesOfA at h
    split at h
    · rename_i e; cases e
    · rename_i e
      cases e
      simp only [Option.map_eq_some_iff] at h
      obtain ⟨ms, hm, rfl⟩ := h
      obtain ⟨u, us, rfl, ru, rus⟩ := r
      rw [bytesOfA_spec _ ms us hm rus, show u = _ from ru]; rfl
    · cases h
theorem strA_spec (hW : WR w0 Pr φ H w) {t u : TypeId} {v : AV} {uv : Value} {s : ByteArray} (r : VR φ v uv) (h : strA P H t u v = some s) : (convert t u uv).run P w = .ok (.string s) w := by
  unfold strA at h
  split at h
  · rename_i e ht hu
    split at h
    · rename_i he
      split at h
      · simp only [VR] at r
        subst r
        cases h
        rw [run_convert_bytes_string w t u e none 0 0 ht he hu]
        simp [Conv.bytesToString, Sem.run_pure]
      · rename_i i k es len cap ex
        split at h
        · rename_i hc
          obtain ⟨rfl, hlen⟩ := hc
          simp only [Option.bind_eq_some_iff, Option.map_eq_some_iff] at h
          obtain ⟨cs, hcs, ns, hns, rfl⟩ := h
          obtain ⟨a, c, rfl, hlc, hcc, ha⟩ := r
          rcases ha with h0 | ⟨b, o, z, hφ, rfl, hz⟩
          · omega
          · obtain ⟨vs, rvs, hvl, hcell⟩ := hW.read hφ hcs
            have hvs := bytesOfA_spec cs ns vs hns rvs
            rw [run_convert_bytes_string w t u e _ _ _ ht he hu]
            refine run_bytesToString w _ len c ns ?_
            rw [← hvs, ← hvl]
            exact run_loadCells_list w _ vs fun j v hj => by rw [add_none]; exact hcell j v hj
        · cases h
      · cases h
    · cases h
  · cases h
theorem aop_spec (hW : WR w0 Pr φ H w) (hρ : ∀ x a, ev x = some a → VR φ a (ρ x)) {slot : Option Nat} {o : Oper} {n : ANext} {H' : AH} (h : aop P C slot ev o H = some (n, H')) :
    ∃ φ' w', φ.le φ' ∧ WR w0 Pr φ' H' w' ∧ Fits φ' w' n ((execOp ρ o).run P w) := by
  obtain ⟨dst, op, ty, pos, after, guard⟩ := o
  cases op
  case move x =>
    simp only [aop, Option.map_eq_some_iff] at h
    obtain ⟨v, hv, he⟩ := h; cases he
    exact ⟨φ, w, Env.le_refl φ, hW, ρ x, rfl, hρ x v hv⟩
  case assign x =>
    simp only [aop, Option.map_eq_some_iff] at h
    obtain ⟨v, hv, he⟩ := h; cases he
    exact ⟨φ, w, Env.le_refl φ, hW, ρ x, rfl, hρ x v hv⟩
  case pick c a b =>
    simp only [aop, Option.bind_eq_some_iff] at h
    obtain ⟨cv, hc, h⟩ := h
    have rc := hρ c cv hc
    split at h
    · simp only [Option.map_eq_some_iff] at h
      obtain ⟨v, hv, he⟩ := h; cases he
      simp only [VR] at rc
      exact ⟨φ, w, Env.le_refl φ, hW, ρ a, by simp [execOp, rc, asBool], hρ a v hv⟩
    · simp only [Option.map_eq_some_iff] at h
      obtain ⟨v, hv, he⟩ := h; cases he
      simp only [VR] at rc
      exact ⟨φ, w, Env.le_refl φ, hW, ρ b, by simp [execOp, rc, asBool], hρ b v hv⟩
    · cases h
  case alloc elem =>
    simp only [aop, Option.bind_eq_some_iff, Option.map_eq_some_iff] at h
    obtain ⟨z, hz, ⟨i, H1⟩, hp, he⟩ := h; cases he
    obtain ⟨ti, zv, hti, hzv, rz⟩ := zeroA_spec hz φ
    obtain ⟨φ', w', hle, hW', hrun, hφ'⟩ := new_spec (P := P) hW hp rz.cells
    refine ⟨φ', w', hle, hW', fits_val (s := Instr.alloc elem true (.tuple #[])) (u := .pointer (some ⟨w.heap.size, 0, none⟩)) ?_ ⟨_, _, _, hφ', rfl⟩⟩
    simp only [Instr.alloc, Sem.run_bind, run_zero hti hzv, Result.andThen_ok, newVar, hrun, Sem.run_pure]
  case box elem x =>
    simp only [aop, Option.bind_eq_some_iff, Option.map_eq_some_iff] at h
    obtain ⟨v, hv, ⟨i, H1⟩, hp, he⟩ := h; cases he
    obtain ⟨φ', w', hle, hW', hrun, hφ'⟩ := new_spec (P := P) hW hp (hρ x v hv).cells
    refine ⟨φ', w', hle, hW', fits_val (s := Instr.box elem (ρ x)) (u := .pointer (some ⟨w.heap.size, 0, none⟩)) ?_ ⟨_, _, _, hφ', rfl⟩⟩
    simp only [Instr.box, Sem.run_bind, newVar, hrun, Result.andThen_ok, Sem.run_pure]
  case build t ps =>
    simp only [aop, Option.bind_eq_some_iff, Option.map_eq_some_iff] at h
    obtain ⟨qs, hqs, v, hv, he⟩ := h; cases he
    obtain ⟨y, hy, ry⟩ := buildA_spec (P := P) (w := w) (qs := ps.map fun (i, x) => (i, ρ x)) (by simpa using evP_spec hρ _ _ hqs) hv
    exact ⟨φ, w, Env.le_refl φ, hW, fits_val hy ry⟩
  case buildSlice t len ps =>
    simp only [aop, Option.bind_eq_some_iff, Option.map_eq_some_iff] at h
    obtain ⟨qs, hqs, ⟨v, H1⟩, hv, he⟩ := h; cases he
    obtain ⟨φ', w', y, hle, hW', hy, ry⟩ := buildSliceA_spec (P := P) hW (qs := ps.map fun (i, x) => (i, ρ x)) (by simpa using evP_spec hρ _ _ hqs) hv
    exact ⟨φ', w', hle, hW', fits_val hy ry⟩
  case load t a =>
    simp only [aop, Option.bind_eq_some_iff] at h
    obtain ⟨av, ha, h⟩ := h
    split at h
    · simp only [Option.map_eq_some_iff] at h
      obtain ⟨v, hv, he⟩ := h; cases he
      obtain ⟨b, o, z, hφ, hval⟩ := hρ a _ ha
      obtain ⟨u, hu, ru⟩ := ldA_spec (P := P) hW hφ hv
      refine ⟨φ, w, Env.le_refl φ, hW, fits_val (s := Instr.loadAt t (ρ a)) ?_ ru⟩
      simp only [Instr.loadAt, hval, Instr.sureAddr, Sem.run_bind, Sem.run_pure, Result.andThen_ok, hu]
    · cases h
  case store t a x =>
    simp only [aop, Option.bind_eq_some_iff] at h
    obtain ⟨av, ha, xv, hx, h⟩ := h
    split at h
    · simp only [Option.map_eq_some_iff] at h
      obtain ⟨H1, hs, he⟩ := h; cases he
      obtain ⟨b, o, z, hφ, hval⟩ := hρ a _ ha
      obtain ⟨w', hu, hW'⟩ := stA_spec (P := P) hW hφ hs (hρ x _ hx)
      refine ⟨φ, w', Env.le_refl φ, hW', fits_skip (s := Instr.storeAt t (ρ a) (ρ x)) ?_⟩
      simp only [Instr.storeAt, hval, Instr.sureAddr, Sem.run_bind, Sem.run_pure, Result.andThen_ok, hu]
    · cases h
  case nilCheck x =>
    simp only [aop, Option.bind_eq_some_iff, Option.map_eq_some_iff] at h
    obtain ⟨v, hv, v', hn, he⟩ := h; cases he
    obtain ⟨hrun, rfl⟩ := nilCheckA_spec (P := P) (w := w) (ρ := ρ) hn (hρ x v hv) ⟨dst, .nilCheck x, ty, pos, after, guard⟩ x rfl rfl
    exact ⟨φ, w, Env.le_refl φ, hW, ρ x, hrun, hρ x _ hv⟩
  case binOp op t x y yt =>
    simp only [aop, Option.bind_eq_some_iff] at h
    obtain ⟨xv, hx, yv, hy, h⟩ := h
    have rx := hρ x _ hx
    have ry := hρ y _ hy
    split at h
    · rename_i k a k' b
      split at h
      · rename_i v hv
        cases h
        split at hv
        · rename_i hk
          subst hk
          simp only [VR] at rx ry
          obtain ⟨u, hu, ru⟩ := intBinA_spec (P := P) (w := w) (φ := φ) hv t x y
          refine ⟨φ, w, Env.le_refl φ, hW, fits_val (s := do eqGuard op t x y (ρ x) (ρ y); binOp op t (ρ x) (ρ y)) ?_ ru⟩
          rw [rx, ry]; exact hu
        · cases hv
      · exact pureA_fin hW hρ h
    · split at h
      · rename_i r hr
        cases h
        obtain ⟨h1, h2, h3, _⟩ := eqA_spec hW rx ry hr .eql x y
        refine ⟨φ, w, Env.le_refl φ, hW, fits_val (s := do eqGuard .eql t x y (ρ x) (ρ y); binOp .eql t (ρ x) (ρ y)) (u := .bool r) ?_ rfl⟩
        simp only [Sem.run_bind, h2, Result.andThen_ok, h3, h1, Sem.run_pure]
      · rename_i r hr
        cases h
        obtain ⟨h1, h2, _, h4⟩ := eqA_spec hW rx ry hr .neq x y
        refine ⟨φ, w, Env.le_refl φ, hW, fits_val (s := do eqGuard .neq t x y (ρ x) (ρ y); binOp .neq t (ρ x) (ρ y)) (u := .bool (!r)) ?_ rfl⟩
        simp only [Sem.run_bind, h2, Result.andThen_ok, h4, h1, Sem.run_pure]
      · exact pureA_fin hW hρ h
  case makeInterface t x =>
    simp only [aop, Option.bind_eq_some_iff] at h
    obtain ⟨v, hv, h⟩ := h
    split at h
    · cases h
    · rename_i d hd hu
      cases h
      refine ⟨φ, w, Env.le_refl φ, hW, fits_val (s := Instr.makeInterface t (ρ x)) (u := .iface t (ρ x)) ?_ ⟨_, rfl, hρ x v hv⟩⟩
      cases d <;> first | exact absurd rfl (hd _) | simp [Instr.makeInterface, run_und hu]
    · cases h
  case makeFunc fn first cap =>
    simp only [aop, Option.bind_eq_some_iff, Option.map_eq_some_iff] at h
    obtain ⟨f, hf, c, hc, he⟩ := h; cases he
    refine ⟨φ, w, Env.le_refl φ, hW, fits_val (s := Instr.makeFunc fn (first.map ρ) (cap.map ρ)) (u := .func fn (first.map ρ) (cap.map ρ)) rfl ⟨_, _, rfl, ?_, ?_⟩⟩
    · simpa using evL_spec hρ _ _ hf
    · simpa using evL_spec hρ _ _ hc
  case makeMap t r =>
    cases r with
    | some r => simp only [aop] at h; exact pureA_fin hW hρ h
    | none =>
      simp only [aop, Option.map_eq_some_iff] at h
      obtain ⟨⟨i, H1⟩, hp, he⟩ := h; cases he
      obtain ⟨hle, hW'⟩ := hW.alloc hp (.map #[] 0) 0 ⟨w.heap.size, 0, #[], Env.set_self _ _ _, by simp, rfl⟩ rfl
      exact ⟨_, _, hle, hW', fits_val (s := Instr.makeMap t none) (u := .map (some w.heap.size)) (by simp [Instr.makeMap]) ⟨_, _, Env.set_self _ _ _, rfl⟩⟩
  case makeSlice t l c =>
    simp only [aop, Option.bind_eq_some_iff, Option.map_eq_some_iff] at h
    obtain ⟨lv, hl, cv, hc, ⟨v, H1⟩, hv, he⟩ := h; cases he
    obtain ⟨φ', w', y, hle, hW', hy, ry⟩ := makeSliceA_spec (P := P) hW (hρ l _ hl) (hρ c _ hc) hv
    exact ⟨φ', w', hle, hW', fits_val hy ry⟩
  case slice t x lo hi mx =>
    simp only [aop, Option.bind_eq_some_iff] at h
    obtain ⟨xv, hx, l, hl, hh', hh, m, hm, h⟩ := h
    split at h
    · rename_i v hv
      cases h
      obtain ⟨y, hy, ry⟩ := sliceA_spec (P := P) hW (hρ x _ hx) (evO_spec hρ hl) (evO_spec hρ hh) (evO_spec hρ hm) hv
      exact ⟨φ, w, Env.le_refl φ, hW, fits_val hy ry⟩
    · exact pureA_fin hW hρ h
  case fieldAddr t x f =>
    simp only [aop, Option.bind_eq_some_iff, Option.map_eq_some_iff] at h
    obtain ⟨xv, hx, v, hv, he⟩ := h; cases he
    obtain ⟨y, hy, ry⟩ := fieldAddrA_spec (P := P) (hρ x _ hx) hv
    exact ⟨φ, w, Env.le_refl φ, hW, fits_val (hy w) ry⟩
  case field t x f =>
    simp only [aop, Option.bind_eq_some_iff, Option.map_eq_some_iff] at h
    obtain ⟨xv, hx, v, hv, he⟩ := h; cases he
    obtain ⟨y, hy, ry⟩ := fieldA_spec (P := P) (hρ x _ hx) hv
    exact ⟨φ, w, Env.le_refl φ, hW, fits_val (hy w) ry⟩
  case indexAddr t x ix =>
    simp only [aop, Option.bind_eq_some_iff, Option.map_eq_some_iff] at h
    obtain ⟨xv, hx, iv, hi, v, hv, he⟩ := h; cases he
    obtain ⟨y, hy, ry⟩ := indexAddrA_spec (P := P) (hρ x _ hx) (hρ ix _ hi) hv
    exact ⟨φ, w, Env.le_refl φ, hW, fits_val (hy w) ry⟩
  case lookup t m k ok =>
    simp only [aop, Option.bind_eq_some_iff, Option.map_eq_some_iff] at h
    obtain ⟨mv, hm, kv, hk, v, hv, he⟩ := h; cases he
    obtain ⟨y, hy, ry⟩ := lookupA_spec (P := P) hW (hρ m _ hm) (hρ k _ hk) hv
    exact ⟨φ, w, Env.le_refl φ, hW, fits_val hy ry⟩
  case mapUpdate t m k x =>
    simp only [aop, Option.bind_eq_some_iff, Option.map_eq_some_iff] at h
    obtain ⟨mv, hm, kv, hk, vv, hv, H1, hp, he⟩ := h; cases he
    obtain ⟨w', hy, hW'⟩ := mapPutA_spec (P := P) hW (hρ m _ hm) (hρ k _ hk) (hρ x _ hv) hp
    exact ⟨φ, w', Env.le_refl φ, hW', fits_skip hy⟩
  case mapEntry t m k =>
    simp only [aop, Option.bind_eq_some_iff, Option.map_eq_some_iff] at h
    obtain ⟨mv, hm, kv, hk, ⟨v, H1⟩, hp, he⟩ := h; cases he
    obtain ⟨y, w', hy, ry, hW'⟩ := mapEntryA_spec (P := P) hW (hρ m _ hm) (hρ k _ hk) hp
    exact ⟨φ, w', Env.le_refl φ, hW', fits_val hy ry⟩
  case entryStore t m s x =>
    simp only [aop, Option.bind_eq_some_iff, Option.map_eq_some_iff] at h
    obtain ⟨mv, hm, sv, hs, vv, hv, H1, hp, he⟩ := h; cases he
    obtain ⟨w', hy, hW'⟩ := entryStoreA_spec (P := P) (t := t) hW (hρ m _ hm) (hρ s _ hs) (hρ x _ hv) hp
    exact ⟨φ, w', Env.le_refl φ, hW', fits_skip hy⟩
  case insert t m k x =>
    simp only [aop, Option.bind_eq_some_iff, Option.map_eq_some_iff] at h
    obtain ⟨mv, hm, kv, hk, vv, hv, H1, hp, he⟩ := h; cases he
    obtain ⟨w', hy, hW'⟩ := mapPutA_spec (P := P) hW (hρ m _ hm) (hρ k _ hk) (hρ x _ hv) hp
    exact ⟨φ, w', Env.le_refl φ, hW', fits_skip hy⟩
  case extract t ix =>
    simp only [aop, Option.bind_eq_some_iff] at h
    obtain ⟨tv, ht, h⟩ := h
    split at h
    · rename_i vs
      simp only [Option.map_eq_some_iff] at h
      obtain ⟨v, hv, he⟩ := h; cases he
      obtain ⟨us, hval, rs⟩ := hρ t _ ht
      obtain ⟨u, hu, ru⟩ := rs.get ix v hv
      have hu' : us[ix]? = some u := by simpa using hu
      exact ⟨φ, w, Env.le_refl φ, hW, fits_val (s := Instr.extract (ρ t) ix) (by simp [Instr.extract, hval, hu']) ru⟩
    · cases h
  case call c =>
    simp only [aop] at h
    exact callA_spec hW hρ h
  case convert t u x =>
    simp only [aop] at h
    split at h
    · rename_i m hm
      cases h
      exact pureA_fin hW hρ (by rw [hm]; rfl)
    · simp only [Option.bind_eq_some_iff, Option.map_eq_some_iff] at h
      obtain ⟨v, hv, s, hs, he⟩ := h
      cases he
      exact ⟨φ, w, Env.le_refl φ, hW, fits_val (s := convert t u (ρ x)) (u := .string s) (strA_spec (P := P) hW (hρ x v hv) hs) rfl⟩
  all_goals (simp only [aop] at h; exact pureA_fin hW hρ h)

end
end Go.Dv
