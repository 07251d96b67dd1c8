/- Aggregates, made slices, append, copy on abstract states, held against the model's own (own work). -/
import Derived.Test.YtgnmeplfmkbkcaaGreatDoorDv6

namespace Go.Dv

/-- the places of a type's parts -/
def placesA (P : Program) (t : TypeId) : Option (Nat → Option (Nat × Nat)) :=
  match P.underlying t with
  | some (.struct fs) => if fs.toList.all (fun f => (P.info? f.type).isSome) = true then some fun i => (fs[i]?).map fun f => (f.offset, P.cellsOf f.type) else none
  | some (.array _ elem) => (P.info? elem).map fun _ => fun i => some (i * P.cellsOf elem, P.cellsOf elem)
  | _ => none

def buildA (P : Program) (t : TypeId) (ps : List (Nat × AV)) : Option AV :=
  (zeroA P t).bind fun z => (placesA P t).bind fun pl => (fillA pl z.cells ps).map .agg

def zrow (zs : List AV) (n : Nat) : List AV := (List.range n).map fun j => zs.getD (j % zs.length) undefA

def sliceElem (P : Program) (t : TypeId) : Option TypeId :=
  match P.underlying t with
  | some (.slice e) => some e
  | _ => none

def buildSliceA (P : Program) (slot : Option Nat) (t : TypeId) (len : Nat) (ps : List (Nat × AV)) (H : AH) : Option (AV × AH) :=
  (sliceElem P t).bind fun elem => (zeroA P elem).bind fun z =>
    if len * P.cellsOf elem ≤ 2 ^ 24 ∧ z.cells ≠ [] then
      (fillA (fun i => some (i * P.cellsOf elem, P.cellsOf elem)) (zrow z.cells (len * P.cellsOf elem)) ps).bind fun cs =>
        (put slot H (.cells cs elem)).map fun (i, H') => (.slice i 0 (P.cellsOf elem) len len true, H')
    else none

def makeSliceA (P : Program) (slot : Option Nat) (t : TypeId) (l c : AV) (H : AH) : Option (AV × AH) :=
  match l, c with
  | .int _ l, .int _ c =>
    (sliceElem P t).bind fun elem => (zeroA P elem).bind fun z =>
      if 0 ≤ l ∧ l ≤ c ∧ c < 2 ^ 62 ∧ P.bytesOf elem * c ≤ 2 ^ 48 ∧ z.cells ≠ [] then
        (put slot H (.cells (zrow z.cells (c.toNat * P.cellsOf elem)) elem)).map fun (i, H') => (.slice i 0 (P.cellsOf elem) l.toNat c.toNat true, H')
      else none
  | _, _ => none

section
variable {P : Program} {w0 : World} {Pr : Nat → Prop} {φ : Env} {H : AH} {w : World}

theorem run_mapM_places : ∀ (fs : List Field), (fs.all fun f => (P.info? f.type).isSome) = true →
    (fs.mapM fun (f : Field) => do pure (f.offset, ← sizeOf f.type) : Sem (List (Nat × Nat))).run P w = .ok (fs.map fun f => (f.offset, P.cellsOf f.type)) w
  | [], _ => rfl
  | f :: fs, h => by
    simp only [List.all_cons, Bool.and_eq_true] at h
    obtain ⟨ti, hti⟩ := Option.isSome_iff_exists.1 h.1
    have ih := run_mapM_places fs h.2
    simp only [List.mapM_cons, Sem.run_bind, run_size hti, Result.andThen_ok, Sem.run_pure, ih, List.map_cons]

theorem buildA_spec {t : TypeId} {ps : List (Nat × AV)} {qs : Array (Nat × Value)} {v : AV} (r : PVR φ ps qs.toList) (h : buildA P t ps = some v) :
    ∃ y, (Instr.build t qs).run P w = .ok y w ∧ VR φ v y := by
  simp only [buildA, Option.bind_eq_some_iff, Option.map_eq_some_iff] at h
  obtain ⟨z, hz, pl, hpl, cs, hcs, rfl⟩ := h
  obtain ⟨ti, zv, hti, hzv, rz⟩ := zeroA_spec hz φ
  unfold placesA at hpl
  split at hpl
  · rename_i fs hu
    split at hpl
    · rename_i hall
      cases hpl
      obtain ⟨out, ho, ro⟩ := fillA_spec (place := fun i => (fs[i]?).map fun f => (f.offset, P.cellsOf f.type)) ps qs.toList _ zv.cells cs r rz.cells hcs
      refine ⟨.agg out, ?_, out, rfl, ro⟩
      have hm := run_mapM_places (P := P) (w := w) fs.toList hall
      have hg : (fun (i : Nat) => (fs.toList.map fun (f : Field) => (f.offset, P.cellsOf f.type)).toArray[i]?) = fun (i : Nat) => (fs[i]?).map fun (f : Field) => (f.offset, P.cellsOf f.type) := by
        funext i; simp
      simp only [Instr.build, Sem.run_bind, run_zero hti hzv, Result.andThen_ok, run_und hu, Array.mapM_eq_mapM_toList, Sem.run_map, hm, hg, ho, Sem.run_pure]
    · cases hpl
  · rename_i n elem hu
    simp only [Option.map_eq_some_iff] at hpl
    obtain ⟨ei, hei, rfl⟩ := hpl
    obtain ⟨out, ho, ro⟩ := fillA_spec (place := fun i => some (i * P.cellsOf elem, P.cellsOf elem)) ps qs.toList _ zv.cells cs r rz.cells hcs
    refine ⟨.agg out, ?_, out, rfl, ro⟩
    simp only [Instr.build, Sem.run_bind, run_zero hti hzv, Result.andThen_ok, run_und hu, run_size hei, ho, Sem.run_pure]
  · cases hpl

theorem zrow_VRs {zs : List AV} {us : Array Value} (n : Nat) (r : VRs φ zs us.toList) (hne : zs ≠ []) :
    VRs φ (zrow zs n) ((Array.range n).map (us[· % us.size]!)).toList := by
  have hlen : zs.length = us.size := by simpa using r.length
  have hpos : 0 < zs.length := by cases zs with | nil => exact absurd rfl hne | cons => simp
  refine .of_get (by simp [zrow]) fun j x v hx hv => ?_
  have hj : j < n := by simpa [zrow] using lt_of_get hx
  have hm : j % zs.length < zs.length := Nat.mod_lt _ hpos
  have hx' : x = zs[j % zs.length] := by
    simp [zrow, hj, List.getD, List.getElem?_eq_getElem hm] at hx; exact hx.symm
  obtain ⟨u, hu, ru⟩ := r.get (j % zs.length) _ (List.getElem?_eq_getElem hm)
  have hv' : v = us[j % us.size]! := by simp [hj] at hv; exact hv.symm
  rw [hx', hv', ← hlen]
  have : us[j % zs.length]! = u := by
    have h' : us[j % zs.length]? = some u := by simpa using hu
    rw [getElem!_def, h']
  rw [this]; exact ru

theorem sliceElem_spec {t e : TypeId} (h : sliceElem P t = some e) : P.underlying t = some (.slice e) := by
  unfold sliceElem at h
  split at h
  · rename_i hu; cases h; exact hu
  · cases h

theorem buildSliceA_spec (hW : WR w0 Pr φ H w) {slot : Option Nat} {t : TypeId} {len : Nat} {ps : List (Nat × AV)} {qs : Array (Nat × Value)} {v : AV} {H' : AH} (r : PVR φ ps qs.toList)
    (h : buildSliceA P slot t len ps H = some (v, H')) :
    ∃ φ' w' y, φ.le φ' ∧ WR w0 Pr φ' H' w' ∧ (Instr.buildSlice t len qs).run P w = .ok y w' ∧ VR φ' v y := by
  simp only [buildSliceA, Option.bind_eq_some_iff] at h
  obtain ⟨elem, hel, z, hz, h⟩ := h
  split at h
  · rename_i hc
    obtain ⟨hlim, hne⟩ := hc
    simp only [Option.bind_eq_some_iff, Option.map_eq_some_iff] at h
    obtain ⟨cs, hcs, ⟨i, H1⟩, hp, hv⟩ := h
    cases hv
    obtain ⟨ti, zv, hti, hzv, rz⟩ := zeroA_spec hz φ
    have hu := sliceElem_spec hel
    have key : ∀ arr : Array Value, VRs φ (zrow z.cells (len * P.cellsOf elem)) arr.toList → ∃ φ' w' y, φ.le φ' ∧ WR w0 Pr φ' H1 w' ∧
        ((do let some cells := Instr.fill (fun i => some (i * P.cellsOf elem, P.cellsOf elem)) arr qs.toList | stuck "buildSlice: a part of the wrong size"
             pure (.slice (some (← newRow elem cells)) len len)) : Sem Value).run P w = .ok y w' ∧ VR φ' (.slice i 0 (P.cellsOf elem) len len true) y := by
      intro arr ra
      obtain ⟨out, ho, ro⟩ := fillA_spec ps qs.toList _ arr cs r ra hcs
      obtain ⟨φ', w', hle, hW', hrun, hφ'⟩ := new_spec (P := P) hW hp ro
      refine ⟨φ', w', _, hle, hW', ?_, _, len, rfl, Nat.le_refl _, ⟨Nat.le_refl _, fun _ => rfl⟩, .inr ⟨w.heap.size, 0, out.size, hφ', rfl, ?_⟩⟩
      · simp only [ho, Sem.run_bind, hrun, Result.andThen_ok, Sem.run_pure]
      · have h1 : out.size = cs.length := by rw [ro.length]; simp
        have h2 : cs.length = (zrow z.cells (len * P.cellsOf elem)).length := by
          clear hp hW' hrun hφ' ho ro
          exact fillA_length ps _ _ hcs
        rw [h1, h2]; simp [zrow]
    by_cases h0 : len * P.cellsOf elem = 0
    · obtain ⟨φ', w', y, h1, h2, h3, h4⟩ := key ((Array.range (len * P.cellsOf elem)).map ((#[] : Array Value)[· % (#[] : Array Value).size]!)) (by rw [h0]; simp [zrow]; exact rfl)
      refine ⟨φ', w', y, h1, h2, ?_, h4⟩
      rw [← h3]
      have hnl : ¬ (len * P.cellsOf elem > 2 ^ 24) := by omega
      simp only [Instr.buildSlice, Sem.run_bind, run_und hu, Result.andThen_ok, run_size hti, if_neg hnl, if_pos h0, Sem.run_pure]
      rfl
    · obtain ⟨φ', w', y, h1, h2, h3, h4⟩ := key _ (zrow_VRs (len * P.cellsOf elem) rz.cells hne)
      refine ⟨φ', w', y, h1, h2, ?_, h4⟩
      rw [← h3]
      have hnl : ¬ (len * P.cellsOf elem > 2 ^ 24) := by omega
      simp only [Instr.buildSlice, Sem.run_bind, run_und hu, Result.andThen_ok, run_size hti, if_neg hnl, if_neg h0, run_zero hti hzv, Sem.run_pure]
      rfl
  · cases h
where
  fillA_length : ∀ (ps : List (Nat × AV)) {place : Nat → Option (Nat × Nat)} (cs res : List AV), fillA place cs ps = some res → res.length = cs.length
    | [], _, cs, res, h => by simp only [fillA, Option.some.injEq] at h; rw [h]
    | (i, v) :: ps, place, cs, res, h => by
      simp only [fillA] at h
      split at h
      · cases h
      · split at h
        · cases h
        · rw [fillA_length ps _ _ h, spl_length]

end
end Go.Dv
