/- An entry of a map that is read and then written (own work). -/
import Derived.Test.YtgnmeplfmkbkcaaGreatDoorDv10

namespace Go.Dv

def mapEntryA (P : Program) (t : TypeId) (m k : AV) (H : AH) : Option (AV × AH) :=
  (mapTypes P t).bind fun (kt, et) => match m with
    | .map i => match H[i]? with
      | some (.map es clock) => (askA P kt false k).bind fun (kv, d) => (findA P kt d kv es 0).bind fun r =>
        match r with
        | some (j, v) => (es[j]?).bind fun (k0, v0, n) => (toV k0).bind fun kv0 =>
          if Instr.sameBits 10000 kv0 kv = true then some (.tuple [v, .int .i64 n], H.set i (.map (es.set j (k, v0, n)) clock)) else none
        | none => (zeroA P et).map fun z => (.tuple [z, .int .i64 clock], H.set i (.map (es ++ [(k, z, clock)]) (clock + 1)))
      | _ => none
    | _ => none

def entryStoreA (m s v : AV) (H : AH) : Option AH :=
  match m, s with
  | .map i, .int _ born => match H[i]? with
    | some (.map es clock) => (es.findIdx? fun e => ((e.2.2 : Nat) : Int) == born).bind fun j => (es[j]?).map fun (k, _, n) => H.set i (.map (es.set j (k, v, n)) clock)
    | _ => none
  | _, _ => none

section
variable {P : Program} {w0 : World} {Pr : Nat → Prop} {φ : Env} {H : AH} {w : World}

theorem modify_set (es' : Array MapEntry) (j : Nat) (e : MapEntry) (f : MapEntry → MapEntry) (he : es'.toList[j]? = some e) : (es'.modify j f).toList = es'.toList.set j (f e) := by
  apply List.ext_getElem?
  intro q
  simp only [Array.getElem?_toList, Array.getElem?_modify, List.getElem?_set]
  have he' : es'[j]? = some e := by simpa using he
  by_cases hq : j = q
  · subst hq
    have hl := lt_of_get he
    simp at hl
    have hje : es'[j] = e := by simpa [Array.getElem?_eq_getElem hl] using he'
    simp [hl, hje]
  · simp [hq]

theorem mapEntryA_spec (hW : WR w0 Pr φ H w) {t : TypeId} {m k v : AV} {um uk : Value} {H' : AH} (rm : VR φ m um) (rk : VR φ k uk) (h : mapEntryA P t m k H = some (v, H')) :
    ∃ y w', (Instr.mapEntry t um uk).run P w = .ok y w' ∧ VR φ v y ∧ WR w0 Pr φ H' w' := by
  simp only [mapEntryA, Option.bind_eq_some_iff] at h
  obtain ⟨⟨kt, et⟩, hmt, h⟩ := h
  have hu := mapTypes_spec hmt
  split at h
  case h_2 => cases h
  rename_i i
  split at h
  case h_2 => cases h
  rename_i es clock hi
  simp only [Option.bind_eq_some_iff] at h
  obtain ⟨⟨kv, d⟩, hask, r, hf, h⟩ := h
  obtain ⟨rfl, hd, hck⟩ := askA_spec (P := P) (w := w) rk hask
  obtain ⟨b, z, hφ, rfl⟩ := rm
  obtain ⟨b', z', es', hφ', hheap, hm⟩ := hW.obj _ _ hi
  rw [hφ] at hφ'; cases hφ'
  obtain ⟨r', hfk, hr⟩ := findKey_spec (P := P) (w := w) hd hm hf
  cases r with
  | some iv =>
    obtain ⟨j, v'⟩ := iv
    obtain ⟨u, rfl, ru⟩ := hr
    simp only [Option.bind_eq_some_iff] at h
    obtain ⟨⟨k0, v0, n⟩, hj, kv0, hk0, h⟩ := h
    split at h
    · rename_i hsb
      cases h
      obtain ⟨e, he, rke, rve, rne⟩ := hm.get j k0 v0 n hj
      have hkey := toV_spec k0 kv0 hk0 _ rke
      obtain ⟨hrun, hW'⟩ := hW.putMap (P := P) hi hφ hheap (fs := es.set j (k, v0, n)) (fs' := es'.modify j fun e => { e with key := uk }) (c' := clock) (by rw [modify_set es' j e _ he]; exact hm.set j rk rve rne)
      have he' : es'[j]? = some e := by simpa using he
      rw [← hkey] at hsb
      refine ⟨.tuple #[u, goInt e.born], _, ?_, ⟨_, rfl, .cons ru (.one (by rw [rne]; rfl))⟩, hW'⟩
      simp only [Instr.mapEntry, Sem.run_bind, run_und hu, Result.andThen_ok, run_getMap hheap, hck, hfk, he', Option.map_some, Option.getD_some, Instr.keyThatStays, hsb, if_true, Sem.run_pure, hrun]
    · cases h
  | none =>
    obtain rfl := hr
    simp only [Option.map_eq_some_iff] at h
    obtain ⟨zv, hz, h⟩ := h
    cases h
    obtain ⟨ti, zu, hti, hzu, rz⟩ := zeroA_spec hz φ
    obtain ⟨hrun, hW'⟩ := hW.putMap (P := P) hi hφ hheap (fs := es ++ [(k, zv, clock)]) (fs' := es'.push { key := uk, val := zu, born := clock }) (c' := clock + 1) (by simpa using hm.push (e := { key := uk, val := zu, born := clock }) rk rz rfl)
    refine ⟨.tuple #[zu, goInt clock], _, ?_, ⟨_, rfl, .cons rz (.one rfl)⟩, hW'⟩
    simp only [Instr.mapEntry, Sem.run_bind, run_und hu, Result.andThen_ok, run_getMap hheap, hck, hfk, run_zero hti hzu, hrun, Sem.run_pure]

theorem MR.findIdx : ∀ {es : List (AV × AV × Nat)} {es' : List MapEntry}, MR φ es es' → ∀ (born : Int), es.findIdx? (fun e => ((e.2.2 : Nat) : Int) == born) = es'.findIdx? (fun e => (e.born : Int) == born)
  | [], es', h, _ => by rw [show es' = [] from h]; rfl
  | (_, _, _) :: es, _, ⟨e0, l, he, _, _, c, rs⟩, born => by
    subst he
    simp only [List.findIdx?_cons, c, MR.findIdx rs born]

theorem entryStoreA_spec (hW : WR w0 Pr φ H w) {t : TypeId} {m s v : AV} {um us uv : Value} {H' : AH} (rm : VR φ m um) (rs : VR φ s us) (rv : VR φ v uv) (h : entryStoreA m s v H = some H') :
    ∃ w', (Instr.entryStore t um us uv).run P w = .ok () w' ∧ WR w0 Pr φ H' w' := by
  unfold entryStoreA at h
  split at h
  · rename_i i kk born
    split at h
    · rename_i es clock hi
      simp only [Option.bind_eq_some_iff, Option.map_eq_some_iff] at h
      obtain ⟨j, hfi, ⟨k, v0, n⟩, hj, rfl⟩ := h
      obtain ⟨b, z, hφ, rfl⟩ := rm
      obtain ⟨b', z', es', hφ', hheap, hm⟩ := hW.obj _ _ hi
      rw [hφ] at hφ'; cases hφ'
      simp only [VR] at rs
      subst rs
      obtain ⟨e, he, rke, rve, rne⟩ := hm.get j k v0 n hj
      obtain ⟨hrun, hW'⟩ := hW.putMap (P := P) hi hφ hheap (fs := es.set j (k, v, n)) (fs' := es'.modify j fun e => { e with val := uv }) (c' := clock) (by rw [modify_set es' j e _ he]; exact hm.set j rke rv rne)
      refine ⟨_, ?_, hW'⟩
      have hfi' : es'.findIdx? (fun e => (e.born : Int) == born) = some j := by
        rw [hm.findIdx] at hfi
        rw [← hfi]
        obtain ⟨l⟩ := es'
        simp
      simp only [Instr.entryStore, Sem.run_bind, Result.andThen_ok, run_getMap hheap, asInt, asIntOf, Sem.run_pure, hfi', hrun]
    · cases h
  · cases h

end
end Go.Dv
