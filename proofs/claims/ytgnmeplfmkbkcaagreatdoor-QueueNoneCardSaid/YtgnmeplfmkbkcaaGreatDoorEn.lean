/- The staged run: entries (printed by ents.py, own work). -/
import Derived.Test.YtgnmeplfmkbkcaaGreatDoorWy
namespace Go.Dv
open Go.Proofs
set_option maxRecDepth 1000000
/-- A call whose answer is known, at its heap. -/
structure Ent where
  f : FuncId
  args : List AV
  n : Nat
  H : AH
  v : AV
  H' : AH
def Ent.hits (e : Ent) (f : FuncId) (args : List AV) (H : AH) : Bool := f == e.f && (H.length == e.n && (AV.beqs e.args args && stBeq ([], e.H) ([], H)))
def tabOrc (l : List Ent) : CallF := fun f args H => (l.find? fun e => e.hits f args H).map fun e => (e.v, e.H')
/-- a heap of which some blocks are forgotten -/
def keepOnly (l : List Nat) (H : AH) : AH := H.mapIdx fun i o => if l.contains i then o else .dead
def Forgot (H G : AH) : Prop := G.length = H.length ∧ ∀ (i : Nat) (o : AObj), G[i]? = some o → o = .dead ∨ H[i]? = some o
theorem Forgot.refl (H : AH) : Forgot H H := ⟨rfl, fun _ _ h => .inr h⟩
theorem keepOnly_forgot (l : List Nat) (H : AH) : Forgot H (keepOnly l H) := by
  refine ⟨by simp [keepOnly], fun i o h => ?_⟩
  simp only [keepOnly, List.getElem?_mapIdx, Option.map_eq_some_iff] at h
  obtain ⟨o', h1, h2⟩ := h
  split at h2
  · subst h2; exact .inr h1
  · exact .inl h2.symm
theorem WR.forget {w0 : World} {Pr : Nat → Prop} {φ : Env} {H G : AH} {w : World} (h : WR w0 Pr φ H w) (hg : Forgot H G) : WR w0 Pr φ G w where
  dom := fun i hi => h.dom i (by rw [← hg.1]; exact hi)
  fresh := fun i hi => by
    rcases hg.2 i _ hi with e | e
    · cases e
    · exact h.fresh i e
  lt := h.lt
  inj := fun i j x y ⟨o, hi, hw⟩ ⟨o', hj, hw'⟩ hx hy => by
    have e1 : H[i]? = some o := (hg.2 i o hi).resolve_left (fun e => by subst e; cases hw)
    have e2 : H[j]? = some o' := (hg.2 j o' hj).resolve_left (fun e => by subst e; cases hw')
    exact h.inj i j x y ⟨o, e1, hw⟩ ⟨o', e2, hw'⟩ hx hy
  own := fun i x ⟨o, hi, hw⟩ hx => h.own i x ⟨o, (hg.2 i o hi).resolve_left (fun e => by subst e; cases hw), hw⟩ hx
  argP := fun i x cs hi hx => by
    rcases hg.2 i _ hi with e | e
    · cases e
    · exact h.argP i x cs e hx
  obj := fun i o hi => by
    rcases hg.2 i _ hi with e | e
    · subst e; trivial
    · exact h.obj i o e
  prLt := h.prLt
  size := h.size
  os := h.os
  tape := h.tape
  output := h.output
  old := h.old
theorem tabOrc_ok {C : Cfg Tryz.prog} (hg : C.gl = fun _ => none) (hp : C.pin = fun _ _ => True) {l : List Ent} (hl : ∀ e ∈ l, ∃ n G, Forgot e.H G ∧ evCall Tryz.prog C WQ n e.f e.args G = some (e.v, e.H')) (w0 : World) (Pr : Nat → Prop) : CallOk Tryz.prog (fun _ => none) w0 Pr (tabOrc l) := by
  intro f args H v H' h φ w vs hgi hW hr
  unfold tabOrc at h
  simp only [Option.map_eq_some_iff, Prod.mk.injEq] at h
  obtain ⟨e, he, rfl, rfl⟩ := h
  have hm := List.mem_of_find?_eq_some he
  have hh := List.find?_some he
  simp only [Ent.hits, Bool.and_eq_true, beq_iff_eq] at hh
  obtain ⟨rfl, _, ha, hb⟩ := hh
  have ha' := AV.beqs_eq _ _ ha
  have hb' := stBeq_eq hb
  simp only [Prod.mk.injEq, true_and] at hb'
  subst ha' hb'
  obtain ⟨n, G, hf, hn⟩ := hl e hm
  have := evCall_sound (C := C) (w0 := w0) (Pr := Pr) (by rw [hp]; trivial) WQ n
  rw [hg] at this
  exact this _ _ _ _ _ hn φ w vs hgi (hW.forget hf) hr
noncomputable def KT (o : CallF) (h : ∀ w0 Pr, CallOk Tryz.prog (fun _ => none) w0 Pr o) : Cfg Tryz.prog := { gl := fun _ => none, pin := fun _ _ => True, orc := o, orcOk := fun w0 Pr _ => h w0 Pr, meth := fun _ _ => none, methOk := (by intro t n f h; cases h), name := name_ok, mixed := Tryz.checked.mixed }
def e0 : Ent := ⟨20, [.nilSlice, .slice 2 0 1 2 2 true, .slice 5 0 1 2 2 true, .agg [.int .i64 1, .bool false, .int .i64 1, .int .i64 1, .int .i64 0, .int .i64 0, .int .i64 0], .nilSlice], 7, h0, .tuple [.slice 207 0 1 2 2 true, .int .i64 0, .int .i64 0], h31⟩
def e1 : Ent := ⟨27, [.nilSlice, .slice 2 0 1 2 2 true, .slice 5 0 1 2 2 true, .agg [.int .i64 1, .bool false, .int .i64 1, .int .i64 1, .int .i64 0, .int .i64 0, .int .i64 0]], 8, h1, .tuple [.ptr 36 0, .int .i64 0], h4⟩
def e2 : Ent := ⟨28, [.nilSlice, .slice 2 0 1 2 2 true, .slice 5 0 1 2 2 true, .agg [.int .i64 1, .bool false, .int .i64 1, .int .i64 1, .int .i64 0, .int .i64 0, .int .i64 0]], 9, h2, .int .i64 0, h3⟩
def e3 : Ent := ⟨5, [.ptr 36 0], 59, h4, .tuple [.bool false, .int .i64 0], h5⟩
def e4 : Ent := ⟨8, [.ptr 36 0], 65, h5, .slice 66 0 1 1 1 false, h6⟩
def e5 : Ent := ⟨4, [.ptr 36 0, .int .i64 0], 67, h6, .tuple [.agg [.int .i64 2, .int .i64 0, .int .i64 0, .int .i64 0, .int .i64 0, .int .i64 0, .int .i64 0, .nilSlice, .int .i32 5], .int .i64 0], h10⟩
def e6 : Ent := ⟨5, [.ptr 36 0], 68, h7, .tuple [.bool false, .int .i64 0], h8⟩
def e7 : Ent := ⟨8, [.ptr 36 0], 74, h8, .slice 75 0 1 1 1 false, h9⟩
def e8 : Ent := ⟨5, [.ptr 36 0], 94, h10, .tuple [.bool false, .int .i64 0], h11⟩
def e9 : Ent := ⟨8, [.ptr 36 0], 100, h11, .slice 101 0 1 1 1 false, h12⟩
def e10 : Ent := ⟨4, [.ptr 36 0, .int .i64 0], 102, h12, .tuple [.agg [.int .i64 3, .int .i64 0, .int .i64 0, .int .i64 0, .int .i64 0, .int .i64 0, .int .i64 1, .nilSlice, .int .i32 0], .int .i64 0], h16⟩
def e11 : Ent := ⟨5, [.ptr 36 0], 103, h13, .tuple [.bool false, .int .i64 0], h14⟩
def e12 : Ent := ⟨8, [.ptr 36 0], 109, h14, .slice 110 0 1 1 1 false, h15⟩
def e13 : Ent := ⟨5, [.ptr 36 0], 129, h16, .tuple [.bool false, .int .i64 0], h17⟩
def e14 : Ent := ⟨8, [.ptr 36 0], 135, h17, .slice 136 0 1 1 1 false, h18⟩
def e15 : Ent := ⟨4, [.ptr 36 0, .int .i64 1], 137, h18, .tuple [.agg [.int .i64 4, .int .i64 0, .int .i64 0, .int .i64 0, .int .i64 0, .int .i64 0, .int .i64 1, .nilSlice, .int .i32 0], .int .i64 0], h22⟩
def e16 : Ent := ⟨5, [.ptr 36 0], 138, h19, .tuple [.bool false, .int .i64 0], h20⟩
def e17 : Ent := ⟨8, [.ptr 36 0], 144, h20, .slice 145 0 1 1 1 false, h21⟩
def e18 : Ent := ⟨5, [.ptr 36 0], 164, h22, .tuple [.bool false, .int .i64 0], h23⟩
def e19 : Ent := ⟨8, [.ptr 36 0], 170, h23, .slice 171 0 1 1 1 false, h24⟩
def e20 : Ent := ⟨4, [.ptr 36 0, .int .i64 1], 172, h24, .tuple [.agg [.int .i64 1, .int .i64 0, .int .i64 0, .int .i64 0, .int .i64 0, .int .i64 1, .int .i64 0, .nilSlice, .int .i32 0], .int .i64 0], h28⟩
def e21 : Ent := ⟨5, [.ptr 36 0], 173, h25, .tuple [.bool false, .int .i64 0], h26⟩
def e22 : Ent := ⟨8, [.ptr 36 0], 179, h26, .slice 180 0 1 1 1 false, h27⟩
def e23 : Ent := ⟨5, [.ptr 36 0], 199, h28, .tuple [.bool true, .int .i64 0], h29⟩
def e24 : Ent := ⟨5, [.ptr 36 0], 203, h29, .tuple [.bool true, .int .i64 0], h30⟩
def e25 : Ent := ⟨21, [.nilSlice, .slice 2 0 1 2 2 true, .slice 5 0 1 2 2 true], 212, h31, .tuple [.bool true, .int .i64 0], h61⟩
def e26 : Ent := ⟨28, [.nilSlice, .slice 2 0 1 2 2 true, .slice 5 0 1 2 2 true, .agg [.int .i64 1, .bool false, .int .i64 1, .int .i64 1, .int .i64 0, .int .i64 0, .int .i64 0]], 213, h32, .int .i64 0, h33⟩
def e27 : Ent := ⟨30, [.slice 5 0 1 2 2 true], 231, h33, .agg [.slice 307 0 9 4 4 false, .slice 311 0 1 4 4 false], h47⟩
def e28 : Ent := ⟨31, [.nilSlice, .agg [.int .i64 3, .int .i64 0, .int .i64 0, .int .i64 0, .int .i64 0, .int .i64 0, .int .i64 1, .nilSlice, .int .i32 0], .agg [.int .i64 2, .int .i64 0, .int .i64 0, .int .i64 0, .int .i64 0, .int .i64 0, .int .i64 0, .nilSlice, .int .i32 5]], 352, h48, .bool false, h49⟩
def e29 : Ent := ⟨31, [.nilSlice, .agg [.int .i64 4, .int .i64 0, .int .i64 0, .int .i64 0, .int .i64 0, .int .i64 0, .int .i64 1, .nilSlice, .int .i32 0], .agg [.int .i64 2, .int .i64 0, .int .i64 0, .int .i64 0, .int .i64 0, .int .i64 0, .int .i64 0, .nilSlice, .int .i32 5]], 368, h50, .bool false, h51⟩
def e30 : Ent := ⟨31, [.nilSlice, .agg [.int .i64 4, .int .i64 0, .int .i64 0, .int .i64 0, .int .i64 0, .int .i64 0, .int .i64 1, .nilSlice, .int .i32 0], .agg [.int .i64 3, .int .i64 0, .int .i64 0, .int .i64 0, .int .i64 0, .int .i64 0, .int .i64 1, .nilSlice, .int .i32 0]], 383, h52, .bool false, h53⟩
def e31 : Ent := ⟨31, [.nilSlice, .agg [.int .i64 1, .int .i64 0, .int .i64 0, .int .i64 0, .int .i64 0, .int .i64 1, .int .i64 0, .nilSlice, .int .i32 0], .agg [.int .i64 2, .int .i64 0, .int .i64 0, .int .i64 0, .int .i64 0, .int .i64 0, .int .i64 0, .nilSlice, .int .i32 5]], 391, h54, .bool true, h55⟩
def e32 : Ent := ⟨32, [.agg [.slice 307 0 9 4 4 false, .slice 311 0 1 4 4 false], .int .i64 3], 414, h55, .map 415, h56⟩
def e33 : Ent := ⟨32, [.agg [.slice 307 0 9 4 4 false, .slice 311 0 1 4 4 false], .int .i64 0], 417, h56, .map 418, h57⟩
def e34 : Ent := ⟨31, [.nilSlice, .agg [.int .i64 1, .int .i64 0, .int .i64 0, .int .i64 0, .int .i64 0, .int .i64 1, .int .i64 0, .nilSlice, .int .i32 0], .agg [.int .i64 3, .int .i64 0, .int .i64 0, .int .i64 0, .int .i64 0, .int .i64 0, .int .i64 1, .nilSlice, .int .i32 0]], 427, h58, .bool false, h59⟩
def e35 : Ent := ⟨31, [.nilSlice, .agg [.int .i64 1, .int .i64 0, .int .i64 0, .int .i64 0, .int .i64 0, .int .i64 1, .int .i64 0, .nilSlice, .int .i32 0], .agg [.int .i64 4, .int .i64 0, .int .i64 0, .int .i64 0, .int .i64 0, .int .i64 0, .int .i64 1, .nilSlice, .int .i32 0]], 444, h60, .bool false, h61⟩
def e36 : Ent := ⟨22, [.slice 207 0 1 2 2 true, .slice 462 0 1 2 2 true], 463, h62, .bool true, h62⟩
end Go.Dv
