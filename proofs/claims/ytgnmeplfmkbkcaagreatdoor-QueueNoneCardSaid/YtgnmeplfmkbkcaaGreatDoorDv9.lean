/- append and copy on abstract states, held against the model's own (own work). -/
import Derived.Test.YtgnmeplfmkbkcaaGreatDoorDv8

namespace Go.Dv

theorem growBy_le (need : Nat) : ∀ (r c : Nat), Builtin.growBy need r c ≤ max c (need + (need + 768) / 4)
  | 0, c => by simp only [Builtin.growBy]; omega
  | r + 1, c => by
    simp only [Builtin.growBy]
    split
    · omega
    · have := growBy_le need r (c + (c + 768) / 4)
      omega

theorem next_le {need c : Nat} (h : c < need) : Builtin.nextslicecap need c ≤ 2 * need + 400 := by
  unfold Builtin.nextslicecap
  split
  · omega
  · split
    · omega
    · have := growBy_le need 4 c; omega

section
variable {P : Program} {w0 : World} {Pr : Nat → Prop} {φ : Env} {H : AH} {w : World}

theorem zeros_cases {xT : Option TypeId} (h : zerosA P xT = false) : xT = none ∨ ∃ t d, xT = some t ∧ P.underlying t = some d ∧ ∀ k, d ≠ .int k := by
  cases xT with
  | none => exact .inl rfl
  | some t =>
    unfold zerosA at h
    simp only at h
    split at h
    · cases h
    · rename_i d hd hu
      exact .inr ⟨t, d, rfl, hu, hd⟩
    · cases h

theorem run_append_room {sT elem : TypeId} {xT : Option TypeId} {argTypes : Array TypeId} {args : Array Value} {ty : TypeId} {base : Option Addr} {sLen sCap n : Nat} {x : Value} {ti : TypeInfo} {new : List Value} {w' : World}
    (h0 : argTypes[0]? = some sT) (h1 : argTypes[1]? = xT) (ha0 : args[0]? = some (.slice base sLen sCap)) (ha1 : args[1]? = some x) (hu : P.underlying sT = some (.slice elem)) (hti : P.info? elem = some ti)
    (hz : zerosA P xT = false) (hn : (Builtin.lenOf x).run P w = .ok n w) (hnew : (Builtin.firstCells (P.cellsOf elem) n x).run P w = .ok new.toArray w) (hroom : sLen + n ≤ sCap)
    (hst : match base with | some a => (storeCells (a.add (sLen * P.cellsOf elem)) new).run P w = .ok () w' | none => w' = w) :
    (Builtin.append_ argTypes ty args).run P w = .ok (.slice base (sLen + n) sCap) w' := by
  rcases zeros_cases hz with rfl | ⟨t, d, rfl, hd, hdm⟩
  · cases base with
    | none =>
      subst hst
      simp only [Builtin.append_, h0, h1, ha0, ha1, Sem.run_bind, run_und hu, Result.andThen_ok, run_size hti, Bool.false_eq_true, if_false, hn, Sem.run_ite, if_pos hroom, Bool.not_false, if_true, hnew, Sem.run_pure]
    | some a =>
      simp only at hst
      simp only [Builtin.append_, h0, h1, ha0, ha1, Sem.run_bind, run_und hu, Result.andThen_ok, run_size hti, Bool.false_eq_true, if_false, hn, Sem.run_ite, if_pos hroom, Bool.not_false, if_true, hnew, hst, Sem.run_pure]
  · cases base with
    | none =>
      subst hst
      simp only [Builtin.append_, h0, h1, ha0, ha1, Sem.run_bind, run_und hu, run_und hd, Result.andThen_ok, run_size hti, Bool.false_eq_true, if_false, hn, Sem.run_ite, if_pos hroom, Bool.not_false, if_true, hnew, Sem.run_pure]
    | some a =>
      simp only at hst
      simp only [Builtin.append_, h0, h1, ha0, ha1, Sem.run_bind, run_und hu, run_und hd, Result.andThen_ok, run_size hti, Bool.false_eq_true, if_false, hn, Sem.run_ite, if_pos hroom, Bool.not_false, if_true, hnew, hst, Sem.run_pure]

theorem run_append_grow {sT elem : TypeId} {xT : Option TypeId} {argTypes : Array TypeId} {args : Array Value} {ty : TypeId} {base : Option Addr} {sLen sCap n : Nat} {x zv : Value} {ti : TypeInfo} {old new : List Value}
    (h0 : argTypes[0]? = some sT) (h1 : argTypes[1]? = xT) (ha0 : args[0]? = some (.slice base sLen sCap)) (ha1 : args[1]? = some x) (hu : P.underlying sT = some (.slice elem)) (hti : P.info? elem = some ti) (hzv : ti.zero = some zv)
    (hz : zerosA P xT = false) (hn : (Builtin.lenOf x).run P w = .ok n w)
    (hold : (Builtin.firstCells (P.cellsOf elem) sLen (.slice base sLen sCap)).run P { w with drawn := w.drawn + 1 } = .ok old.toArray { w with drawn := w.drawn + 1 })
    (hnew : (Builtin.firstCells (P.cellsOf elem) n x).run P { w with drawn := w.drawn + 1 } = .ok new.toArray { w with drawn := w.drawn + 1 })
    (hroom : ¬ sLen + n ≤ sCap) (hg : growOk (P.bytesOf elem) (sLen + n) = true) :
    ∃ newCap, sLen + n ≤ newCap ∧ (Builtin.append_ argTypes ty args).run P w =
      (((newRow elem (old.toArray ++ new.toArray ++ Builtin.zeroCells zv.cells (newCap - (sLen + n)))).run P { w with drawn := w.drawn + 1 }).andThen fun a w' => .ok (.slice (some a) (sLen + n) newCap) w') := by
  simp only [growOk, Bool.and_eq_true, decide_eq_true_eq] at hg
  have hbytes : P.bytesOf elem = ti.bytes := by simp [Program.bytesOf, hti]
  rw [hbytes] at hg
  have hb : ¬ (Builtin.nextslicecap (sLen + n) sCap * ti.bytes > 2 ^ 48) := by
    have h2 := next_le (need := sLen + n) (c := sCap) (by omega)
    have h3 := Nat.mul_le_mul_right ti.bytes h2
    have := hg.1
    omega
  have hmax : ¬ (((sLen + n : Nat) : Int) > IntKind.i64.max) := by
    have : IntKind.i64.max = 9223372036854775807 := by decide
    rw [this]; have := hg.2; omega
  refine ⟨(Question.appendCap (sLen + n) sCap elem).cut (w.tape w.drawn (.appendCap (sLen + n) sCap elem)), by simp [Question.cut], ?_⟩
  rcases zeros_cases hz with rfl | ⟨t, d, rfl, hd, hdm⟩
  · simp only [Builtin.append_, h0, h1, ha0, ha1, Sem.run_bind, run_und hu, Result.andThen_ok, run_size hti, Bool.false_eq_true, if_false, hn, Sem.run_ite, if_neg hroom, Bool.not_false, if_true, run_info hti, hmax, false_and, if_neg hb, run_choose,
      Question.forced, run_askRoom, hold, hnew, run_zero hti hzv, Sem.run_pure]
  · simp only [Builtin.append_, h0, h1, ha0, ha1, Sem.run_bind, run_und hu, run_und hd, Result.andThen_ok, run_size hti, Bool.false_eq_true, if_false, hn, Sem.run_ite, if_neg hroom, Bool.not_false, if_true, run_info hti, hmax, false_and, if_neg hb, run_choose,
      Question.forced, run_askRoom, hold, hnew, run_zero hti hzv, Sem.run_pure]

theorem zeroCells_size (z : Array Value) (n : Nat) : (Builtin.zeroCells z n).size = n * z.size := by simp [Builtin.zeroCells]

theorem appendA_spec (hW : WR w0 Pr φ H w) {slot : Option Nat} {sT : TypeId} {xT : Option TypeId} {argTypes : Array TypeId} {args : Array Value} {ty : TypeId} {s x v : AV} {us ux : Value} {H' : AH}
    (h0 : argTypes[0]? = some sT) (h1 : argTypes[1]? = xT) (ha0 : args[0]? = some us) (ha1 : args[1]? = some ux) (rs : VR φ s us) (rx : VR φ x ux) (h : appendA P slot sT xT s x H = some (v, H')) :
    ∃ φ' w' y, φ.le φ' ∧ WR w0 Pr φ' H' w' ∧ (Builtin.append_ argTypes ty args).run P w = .ok y w' ∧ VR φ' v y := by
  unfold appendA at h
  split at h
  · cases h
  rename_i hz
  have hz' : zerosA P xT = false := by simpa using hz
  simp only [Option.bind_eq_some_iff] at h
  obtain ⟨elem, hel, z, hzA, ⟨n, f⟩, hsrc, new, hnew, h⟩ := h
  have hu := sliceElem_spec hel
  obtain ⟨ti, zv, hti, hzv, rz⟩ := zeroA_spec hzA φ
  have hlen := srcA_len (P := P) (w := w) rx hsrc
  obtain ⟨nvs, rnew, hnl, hnrun⟩ := srcA_cells (P := P) hW rx hsrc (Nat.le_refl n) hnew
  have hWd := hW.drew (w.drawn + 1)
  obtain ⟨nvs', rnew', hnl', hnrun'⟩ := srcA_cells (P := P) hWd rx hsrc (Nat.le_refl n) hnew
  have hnl2 : new.length = n * P.cellsOf elem := by rw [rnew.length]; exact hnl
  split at h
  case isFalse => cases h
  rename_i hzl
  have hzs : zv.cells.size = P.cellsOf elem := by have := rz.cells.length; rw [hzl.1] at this; simpa using this.symm
  -- the grown row
  have grow : ∀ (H1 : AH) (base : Option Addr) (sLen sCap : Nat) (old : List AV) (ovs : List Value) (j : Nat) (H2 : AH), us = .slice base sLen sCap → WR w0 Pr φ H1 { w with drawn := w.drawn + 1 } → VRs φ old ovs → ovs.length = sLen * P.cellsOf elem →
      (Builtin.firstCells (P.cellsOf elem) sLen us).run P { w with drawn := w.drawn + 1 } = .ok ovs.toArray { w with drawn := w.drawn + 1 } → ¬ sLen + n ≤ sCap → growOk (P.bytesOf elem) (sLen + n) = true →
      put slot H1 (.cells (old ++ new) elem) = some (j, H2) →
      ∃ φ' w' y, φ.le φ' ∧ WR w0 Pr φ' H2 w' ∧ (Builtin.append_ argTypes ty args).run P w = .ok y w' ∧ VR φ' (.slice j 0 (P.cellsOf elem) (sLen + n) (sLen + n) false) y := by
    intro H1 base sLen sCap old ovs j H2 hus hW1 rold hol hrun hroom hg hp
    subst hus
    obtain ⟨newCap, hnc, happ⟩ := run_append_grow (P := P) (w := w) (ty := ty) h0 h1 ha0 ha1 hu hti hzv hz' hlen hrun hnrun' hroom hg
    have hn := (put_spec hW1 hp).1
    have hsz : (ovs.toArray ++ nvs'.toArray ++ Builtin.zeroCells zv.cells (newCap - (sLen + n))).size = newCap * P.cellsOf elem := by
      simp only [Array.size_append, List.size_toArray, zeroCells_size, hol, hnl', hzs]
      rw [← Nat.add_mul, ← Nat.add_mul]; congr 1; omega
    obtain ⟨hle, hW2⟩ := hW1.alloc hp (.cells (ovs.toArray ++ nvs'.toArray ++ Builtin.zeroCells zv.cells (newCap - (sLen + n))) elem) (newCap * P.cellsOf elem)
      ⟨w.heap.size, 0, newCap * P.cellsOf elem, _, Env.set_self _ _ _, by simp, hsz, by
        simp only [List.length_append, hnl2, rold.length, hol]
        rw [Nat.zero_add, ← Nat.add_mul]; exact Nat.mul_le_mul_right _ hnc, fun k y hk => by
        obtain ⟨u, hu', ru⟩ := (rold.append rnew').get k y hk
        refine ⟨u, ?_, ru.mono (Env.le_set _ hn)⟩
        have hkl := lt_of_get hu'
        rw [Nat.zero_add, Array.getElem?_append_left (by simpa using hkl)]
        simpa using hu'⟩ rfl
    refine ⟨_, _, _, hle, hW2, ?_, ⟨w.heap.size, 0, none⟩, newCap, rfl, Nat.le_refl _, ⟨hnc, fun e => (by cases e)⟩, .inr ⟨w.heap.size, 0, newCap * P.cellsOf elem, Env.set_self _ _ _, rfl, by omega⟩⟩
    rw [happ]
    rfl
  split at h
  · -- nil
    simp only [VR] at rs; subst rs
    split at h
    · rename_i hn0
      cases h
      subst hn0
      refine ⟨φ, w, _, Env.le_refl φ, hW, run_append_room (base := none) (sLen := 0) (sCap := 0) (n := 0) (w' := w) h0 h1 ha0 ha1 hu hti hz' hlen hnrun (Nat.le_refl 0) rfl, rfl⟩
    · rename_i hn0
      split at h
      · rename_i hg
        simp only [Option.map_eq_some_iff] at h
        obtain ⟨⟨j, H2⟩, hp, hv⟩ := h
        cases hv
        have := grow H none 0 0 [] [] j H2 rfl hWd (.nil φ) (by simp) rfl (by omega) (by simpa using hg) (by simpa using hp)
        simpa using this
      · cases h
  · rename_i i k es len cap ex
    split at h
    case isFalse => cases h
    rename_i hes
    subst hes
    obtain ⟨a, c, rfl, hlc, ⟨hcap, hex⟩, ha⟩ := rs
    split at h
    · rename_i hn0
      cases h
      subst hn0
      have hnv : nvs = [] := by rw [Nat.zero_mul] at hnl; exact List.length_eq_zero_iff.1 hnl
      refine ⟨φ, w, _, Env.le_refl φ, hW, run_append_room (base := some a) (w' := w) h0 h1 ha0 ha1 hu hti hz' hlen hnrun (by omega) (by rw [hnv]; rfl), a, c, rfl, hlc, ⟨hcap, hex⟩, ha⟩
    · rename_i hn0
      have hadd : len + n ≤ c → ∃ b o z, φ i = some (b, o, z) ∧ a = ⟨b, o + k, none⟩ ∧ o + k + c * P.cellsOf elem ≤ z := fun hl => ha.resolve_left (by omega)
      have holdrun : ∀ (w1 : World) (H1 : AH) (old : List AV), WR w0 Pr φ H1 w1 → rdCells H1 i k (len * P.cellsOf elem) = some old →
          ∃ ovs : List Value, VRs φ old ovs ∧ ovs.length = len * P.cellsOf elem ∧ (Builtin.firstCells (P.cellsOf elem) len (.slice (some a) len c)).run P w1 = .ok ovs.toArray w1 := by
        intro w1 H1 old hW1 hr
        have hr' : srcA H1 (P.cellsOf elem) (.slice i k (P.cellsOf elem) len cap ex) = some (len, fun n => if n ≤ len then rdCells H1 i k (n * P.cellsOf elem) else none) := by simp [srcA]
        exact srcA_cells (P := P) hW1 (x := .slice i k (P.cellsOf elem) len cap ex) ⟨a, c, rfl, hlc, ⟨hcap, hex⟩, ha⟩ hr' (Nat.le_refl len) (by simpa using hr)
      split at h
      · rename_i hroom
        split at h
        · rename_i hone
          simp only [Option.map_eq_some_iff] at h
          obtain ⟨H2, hw, hv⟩ := h
          cases hv
          obtain ⟨b, o, zz, hφ, rfl, hb⟩ := hadd (by omega)
          obtain ⟨w', hst, hW2⟩ := wrCells_spec (P := P) (o' := o + k + len * P.cellsOf elem) (n := 0) hW hφ hw rnew (by omega)
          refine ⟨φ, w', _, Env.le_refl φ, hW2, run_append_room (base := some ⟨b, o + k, none⟩) (w' := w') h0 h1 ha0 ha1 hu hti hz' hlen hnrun (by omega) (by simpa [add_none] using hst), _, c, rfl, hroom, ⟨hcap, hex⟩, .inr ⟨b, o, zz, hφ, rfl, hb⟩⟩
        · cases h
      · rename_i hnroom
        split at h
        · rename_i hexact
          have hcc := hex hexact
          split at h
          · rename_i hg
            simp only [Option.bind_eq_some_iff, Option.map_eq_some_iff] at h
            obtain ⟨old, hr, ⟨j, H2⟩, hp, hv⟩ := h
            cases hv
            obtain ⟨ovs, rold, hol, horun⟩ := holdrun _ _ old hWd hr
            exact grow H (some a) len c old ovs j H2 rfl hWd rold hol horun (by omega) hg hp
          · cases h
        rename_i hnex
        split at h
        · rename_i cs e0 hi
          split at h
          case isFalse => cases h
          rename_i hc
          obtain ⟨rfl, hone, hg⟩ := hc
          simp only [Option.bind_eq_some_iff, Option.map_eq_some_iff] at h
          obtain ⟨old, hr, ⟨j, H2⟩, hp, hv⟩ := h
          cases hv
          by_cases hroom : len + n ≤ c
          · -- in place: the row is handed on
            obtain ⟨b, o, zz, hφ, rfl, hb⟩ := hadd hroom
            obtain ⟨ovs, rold, hol, horun⟩ := holdrun _ _ old hW hr
            obtain ⟨b', o', z', carr, hφ', hheap, hcz, hlz, hcv⟩ := hW.obj i _ hi
            rw [hφ] at hφ'; cases hφ'
            have hOi : Owned H i := ⟨_, hi, rfl⟩
            have hbsz : b < w.heap.size := hW.lt i _ hφ
            have hPr := hW.own i _ hOi hφ
            have hneed : (len + n) * P.cellsOf e0 ≤ c * P.cellsOf e0 := Nat.mul_le_mul_right _ hroom
            have hsplit : (len + n) * P.cellsOf e0 = len * P.cellsOf e0 + n * P.cellsOf e0 := Nat.add_mul _ _ _
            obtain ⟨c', hc', hcs', hlo, hin⟩ := setCells_heap nvs w b (o + k + len * P.cellsOf e0) carr e0 hheap (by rw [hnl]; omega)
            obtain ⟨f1, f2, f3, f4, f5⟩ := setCells_frame nvs w b (o + k + len * P.cellsOf e0)
            have hno : ∀ q x, Owned (H.set i .dead) q → φ q = some x → x.1 ≠ b := fun q x ⟨oo, hq, hw'⟩ hx e => by
              by_cases eq : q = i
              · subst eq
                rw [List.getElem?_set] at hq; simp only [if_true] at hq
                split at hq
                · cases hq; cases hw'
                · cases hq
              · rw [List.getElem?_set_ne (Ne.symm eq)] at hq
                exact eq (hW.inj q i x _ ⟨oo, hq, hw'⟩ hOi hx hφ e)
            have hW1 : WR w0 Pr φ (H.set i .dead) (w.setCells b (o + k + len * P.cellsOf e0) nvs) :=
              (hW.kill (i := i)).turn hPr hno f1 f2 f3 f4 f5
            have hn' := (put_spec hW1 hp).1
            have hst : (storeCells ⟨b, o + k + len * P.cellsOf e0, none⟩ nvs).run P w = .ok () (w.setCells b (o + k + len * P.cellsOf e0) nvs) := by
              have := run_storeCells_cells (P := P) b (o + k + len * P.cellsOf e0) nvs 0 w (fun q hq => by
                rw [cellOf hheap, Array.getElem?_eq_getElem (by rw [hcz]; omega)]; rfl) (fun q hq => by simp [World.frozen?, hheap]) (fun v hv => by
                obtain ⟨q, hq⟩ := List.getElem?_of_mem hv
                have hql := lt_of_get hq
                obtain ⟨x', hx'⟩ : ∃ x', new[q]? = some x' := ⟨_, List.getElem?_eq_getElem (by rw [hnl2, ← hnl]; exact hql)⟩
                obtain ⟨v', hv', rv'⟩ := rnew.get q x' hx'
                rw [hq] at hv'; cases hv'
                exact one_spec (List.all_eq_true.1 hone x' (List.mem_of_getElem? hx')) rv')
              simpa using this
            obtain ⟨hle, hW2⟩ := hW1.adopt hp (b := b) (off := o + k) (z := zz) (by rw [f1]; exact hbsz) hPr hno
              ⟨b, o + k, zz, c', Env.set_self _ _ _, hc', by rw [hcs']; exact hcz, by simp only [List.length_append, hnl2, rold.length, hol]; omega, fun q y hq => by
                rcases Nat.lt_or_ge q old.length with hlt | hge
                · rw [List.getElem?_append_left hlt] at hq
                  have hqo : q < len * P.cellsOf e0 := by rw [rold.length, hol] at hlt; exact hlt
                  rw [hlo _ (by omega)]
                  -- the old cells
                  simp only [rdCells, hi] at hr
                  split at hr
                  · cases hr
                    rw [List.getElem?_take, if_pos hqo, List.getElem?_drop] at hq
                    obtain ⟨u, hu', ru⟩ := hcv (k + q) y hq
                    exact ⟨u, by rw [Nat.add_assoc]; exact hu', ru.mono (Env.le_set _ hn')⟩
                  · cases hr
                · rw [List.getElem?_append_right hge] at hq
                  obtain ⟨u, hu', ru⟩ := rnew.get _ y hq
                  have hol' : old.length = len * P.cellsOf e0 := by rw [rold.length, hol]
                  refine ⟨u, ?_, ru.mono (Env.le_set _ hn')⟩
                  have := hin _ u hu'
                  rw [show o + k + len * P.cellsOf e0 + (q - old.length) = o + k + q by omega] at this
                  exact this⟩ rfl
            refine ⟨_, _, _, hle, hW2, run_append_room (base := some ⟨b, o + k, none⟩) (w' := w.setCells b (o + k + len * P.cellsOf e0) nvs) h0 h1 ha0 ha1 hu hti hz' hlen hnrun hroom (by simpa [add_none] using hst), _, c, rfl, Nat.le_refl _, ⟨hroom, fun e => (by cases e)⟩, .inr ⟨b, o + k, zz, Env.set_self _ _ _, rfl, by omega⟩⟩
          · have hr' : rdCells H i k (len * P.cellsOf e0) = some old := hr
            obtain ⟨ovs, rold, hol, horun⟩ := holdrun _ _ old hWd hr'
            exact grow (H.set i .dead) (some a) len c old ovs j H2 rfl (hWd.kill) rold hol horun hroom hg hp
        · cases h
  · cases h

end
end Go.Dv
