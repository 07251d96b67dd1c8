/- Texts of the evaluator and of the laws' walks, put together in the order of their build: Dv1, Dv2, Dv3, Dv4, Dv5, Dv6, Dv7, Dv8, Dv9, Dv10, DvE, Dv11 (own work). -/
import Derived.Orders
import Derived.Below
import Derived.Laws.Sem
import Derived.WalkKit
import Derived.Laws.Cells
import Derived.Laws.IdiomCopy
import Derived.IntWalk
import Derived.Laws.StructEq

/- Abstract values and heaps over the model's worlds: the relation between an abstract state and a world (own work). -/

namespace Go.Dv

/-- Abstract values: blocks by an abstract number; a slice's capacity may be left open. -/
inductive AV where
  | int (k : IntKind) (n : Int)
  | bool (b : Bool)
  | str (s : ByteArray)
  | nilPtr
  | ptr (i k : Nat)
  | nilSlice
  | slice (i k es len cap : Nat) (ex : Bool)
  | nilMap
  | map (i : Nat)
  | func (fn : Fn) (first captured : List AV)
  | nilFunc
  | iface (t : TypeId) (v : AV)
  | nilIface
  | agg (cs : List AV)
  | tuple (vs : List AV)
  | junk
  deriving Inhabited

def undefA : AV := .tuple []

def AV.cells : AV → List AV
  | .agg cs => cs
  | v => [v]

/-- Where an abstract block lies: block, offset, the block's cells. -/
abbrev Env := Nat → Option (Nat × Nat × Nat)

mutual
def VR (φ : Env) : AV → Value → Prop
  | .int k n, v => v = .int k n
  | .bool b, v => v = .bool b
  | .str s, v => v = .string s
  | .nilPtr, v => v = .pointer none
  | .ptr i k, v => ∃ b o z, φ i = some (b, o, z) ∧ v = .pointer (some ⟨b, o + k, none⟩)
  | .nilSlice, v => v = .slice none 0 0
  | .slice i k es len cap ex, v => ∃ a c, v = .slice (some a) len c ∧ len ≤ cap ∧ (cap ≤ c ∧ (ex = true → c = cap)) ∧
      (c = 0 ∨ ∃ b o z, φ i = some (b, o, z) ∧ a = ⟨b, o + k, none⟩ ∧ o + k + c * es ≤ z)
  | .nilMap, v => v = .map none
  | .map i, v => ∃ b z, φ i = some (b, 0, z) ∧ v = .map (some b)
  | .func fn f c, v => ∃ f' c' : Array Value, v = .func fn f' c' ∧ VRs φ f f'.toList ∧ VRs φ c c'.toList
  | .nilFunc, v => v = .nilFunc
  | .iface t x, v => ∃ u, v = .iface t u ∧ VR φ x u
  | .nilIface, v => v = .nilIface
  | .agg cs, v => ∃ us : Array Value, v = .agg us ∧ VRs φ cs us.toList
  | .tuple cs, v => ∃ us : Array Value, v = .tuple us ∧ VRs φ cs us.toList
  | .junk, v => v.oneCell' = true ∧ ∀ b, v ≠ .bool b
def VRs (φ : Env) : List AV → List Value → Prop
  | [], l => l = []
  | x :: xs, l => ∃ u us, l = u :: us ∧ VR φ x u ∧ VRs φ xs us
end

def Env.le (φ ψ : Env) : Prop := ∀ i x, φ i = some x → ψ i = some x
theorem Env.le_refl (φ : Env) : φ.le φ := fun _ _ h => h
theorem Env.le_trans {φ ψ χ : Env} (h : φ.le ψ) (k : ψ.le χ) : φ.le χ := fun i x e => k i x (h i x e)

mutual
theorem VR.mono {φ ψ : Env} (h : φ.le ψ) : ∀ (x : AV) (v : Value), VR φ x v → VR ψ x v
  | .int .., _, r => r
  | .bool .., _, r => r
  | .str .., _, r => r
  | .nilPtr, _, r => r
  | .ptr .., _, ⟨b, o, z, e, r⟩ => ⟨b, o, z, h _ _ e, r⟩
  | .nilSlice, _, r => r
  | .slice .., _, ⟨a, c, r, s, t, u⟩ => ⟨a, c, r, s, t, u.imp id fun ⟨b, o, z, e, q⟩ => ⟨b, o, z, h _ _ e, q⟩⟩
  | .nilMap, _, r => r
  | .map .., _, ⟨b, z, e, r⟩ => ⟨b, z, h _ _ e, r⟩
  | .func _ f c, _, ⟨f', c', e, r, s⟩ => ⟨f', c', e, VRs.mono h f _ r, VRs.mono h c _ s⟩
  | .nilFunc, _, r => r
  | .iface _ x, _, ⟨u, e, r⟩ => ⟨u, e, VR.mono h x _ r⟩
  | .nilIface, _, r => r
  | .agg cs, _, ⟨us, e, r⟩ => ⟨us, e, VRs.mono h cs _ r⟩
  | .tuple cs, _, ⟨us, e, r⟩ => ⟨us, e, VRs.mono h cs _ r⟩
  | .junk, _, r => r
theorem VRs.mono {φ ψ : Env} (h : φ.le ψ) : ∀ (xs : List AV) (l : List Value), VRs φ xs l → VRs ψ xs l
  | [], _, r => r
  | x :: xs, _, ⟨u, us, e, r, s⟩ => ⟨u, us, e, VR.mono h x _ r, VRs.mono h xs _ s⟩
end

theorem VRs.nil (φ : Env) : VRs φ [] [] := rfl
theorem VRs.cons {φ : Env} {x : AV} {v : Value} {xs : List AV} {vs : List Value} (h : VR φ x v) (hs : VRs φ xs vs) : VRs φ (x :: xs) (v :: vs) := ⟨v, vs, rfl, h, hs⟩
theorem VRs.one {φ : Env} {x : AV} {v : Value} (h : VR φ x v) : VRs φ [x] [v] := .cons h (.nil φ)
theorem VRs.length {φ : Env} : ∀ {xs : List AV} {vs : List Value}, VRs φ xs vs → xs.length = vs.length
  | [], _, h => by rw [show _ = [] from h]; rfl
  | _ :: _, _, ⟨_, _, e, _, hs⟩ => by rw [e, List.length_cons, List.length_cons, hs.length]
theorem VRs.get {φ : Env} : ∀ {xs : List AV} {vs : List Value}, VRs φ xs vs → ∀ (i : Nat) (x : AV), xs[i]? = some x → ∃ v, vs[i]? = some v ∧ VR φ x v
  | [], _, _, i, x, hi => by simp at hi
  | y :: xs, _, ⟨u, us, e, r, hs⟩, 0, x, hi => by subst e; simp at hi; subst hi; exact ⟨u, rfl, r⟩
  | y :: xs, _, ⟨u, us, e, r, hs⟩, i + 1, x, hi => by subst e; simp at hi; simpa using hs.get i x hi
theorem VRs.of_get {φ : Env} : ∀ {xs : List AV} {vs : List Value}, xs.length = vs.length → (∀ (i : Nat) (x : AV) (v : Value), xs[i]? = some x → vs[i]? = some v → VR φ x v) → VRs φ xs vs
  | [], [], _, _ => rfl
  | [], _ :: _, h, _ => by simp at h
  | _ :: _, [], h, _ => by simp at h
  | x :: xs, v :: vs, h, g => .cons (g 0 x v rfl rfl) (VRs.of_get (by simpa using h) fun i y u hy hu => g (i + 1) y u (by simpa using hy) (by simpa using hu))
theorem VRs.append {φ : Env} : ∀ {xs : List AV} {vs : List Value} {ys : List AV} {us : List Value}, VRs φ xs vs → VRs φ ys us → VRs φ (xs ++ ys) (vs ++ us)
  | [], _, _, _, h, k => by rw [show _ = [] from h]; exact k
  | _ :: _, _, _, _, ⟨u, us, e, r, hs⟩, k => by subst e; exact .cons r (hs.append k)
theorem VRs.take {φ : Env} {xs : List AV} {vs : List Value} (h : VRs φ xs vs) (n : Nat) : VRs φ (xs.take n) (vs.take n) :=
  .of_get (by simp [h.length]) fun i x v hx hv => by
    rw [List.getElem?_take] at hx hv
    split at hx
    · rename_i hlt
      rw [if_pos hlt] at hv
      obtain ⟨u, hu, r⟩ := h.get i x hx
      rw [hu] at hv; cases hv; exact r
    · cases hx
theorem VRs.drop {φ : Env} {xs : List AV} {vs : List Value} (h : VRs φ xs vs) (n : Nat) : VRs φ (xs.drop n) (vs.drop n) :=
  .of_get (by simp [h.length]) fun i x v hx hv => by
    rw [List.getElem?_drop] at hx hv
    obtain ⟨u, hu, r⟩ := h.get _ x hx
    rw [hu] at hv; cases hv; exact r
theorem VRs.set {φ : Env} {xs : List AV} {vs : List Value} (h : VRs φ xs vs) (n : Nat) {x : AV} {v : Value} (hx : VR φ x v) : VRs φ (xs.set n x) (vs.set n v) :=
  .of_get (by simp [h.length]) fun i y u hy hu => by
    rw [List.getElem?_set] at hy hu
    split at hy
    · rename_i e; subst e
      rw [if_pos rfl] at hu
      split at hy
      · rename_i hl; rw [if_pos (h.length ▸ hl)] at hu; cases hy; cases hu; exact hx
      · cases hy
    · rename_i e
      rw [if_neg e] at hu
      obtain ⟨v', hv', r⟩ := h.get i y hy
      rw [hv'] at hu; cases hu; exact r

theorem VR.cells {φ : Env} {x : AV} {v : Value} (h : VR φ x v) : VRs φ x.cells v.cells.toList := by
  cases x <;> simp only [AV.cells]
  case agg cs => obtain ⟨us, rfl, r⟩ := h; exact r
  all_goals (have h' := h; simp only [VR] at h)
  case int => subst h; exact .one h'
  case bool => subst h; exact .one h'
  case str => subst h; exact .one h'
  case nilPtr => subst h; exact .one h'
  case nilSlice => subst h; exact .one h'
  case nilMap => subst h; exact .one h'
  case nilFunc => subst h; exact .one h'
  case nilIface => subst h; exact .one h'
  case ptr => obtain ⟨b, o, z, e, rfl⟩ := h; exact .one h'
  case slice => obtain ⟨a, c, rfl, _⟩ := h; exact .one h'
  case junk => cases v <;> first | exact .one h' | (simp [Value.oneCell'] at h)
  case map => obtain ⟨b, z, e, rfl⟩ := h; exact .one h'
  case func => obtain ⟨f', c', rfl, _⟩ := h; exact .one h'
  case iface => obtain ⟨u, rfl, _⟩ := h; exact .one h'
  case tuple => obtain ⟨us, rfl, _⟩ := h; exact .one h'

mutual
/-- The value of an abstract value that leads to no block. -/
def toV : AV → Option Value
  | .int k n => some (.int k n)
  | .bool b => some (.bool b)
  | .str s => some (.string s)
  | .nilPtr => some (.pointer none)
  | .nilSlice => some (.slice none 0 0)
  | .nilMap => some (.map none)
  | .nilFunc => some .nilFunc
  | .nilIface => some .nilIface
  | .iface t x => (toV x).map (.iface t)
  | .agg cs => (toVs cs).map fun l => .agg l.toArray
  | .tuple cs => (toVs cs).map fun l => .tuple l.toArray
  | .func fn f c => (toVs f).bind fun l => (toVs c).map fun m => .func fn l.toArray m.toArray
  | .ptr .. | .slice .. | .map .. | .junk => none
def toVs : List AV → Option (List Value)
  | [] => some []
  | x :: xs => (toV x).bind fun v => (toVs xs).map (v :: ·)
end

mutual
theorem toV_spec {φ : Env} : ∀ (x : AV) (v : Value), toV x = some v → ∀ u, VR φ x u → u = v
  | .int .., v, h, u, r => by simp only [toV, Option.some.injEq] at h; subst h; exact r
  | .bool .., v, h, u, r => by simp only [toV, Option.some.injEq] at h; subst h; exact r
  | .str .., v, h, u, r => by simp only [toV, Option.some.injEq] at h; subst h; exact r
  | .nilPtr, v, h, u, r => by simp only [toV, Option.some.injEq] at h; subst h; exact r
  | .nilSlice, v, h, u, r => by simp only [toV, Option.some.injEq] at h; subst h; exact r
  | .nilMap, v, h, u, r => by simp only [toV, Option.some.injEq] at h; subst h; exact r
  | .nilFunc, v, h, u, r => by simp only [toV, Option.some.injEq] at h; subst h; exact r
  | .nilIface, v, h, u, r => by simp only [toV, Option.some.injEq] at h; subst h; exact r
  | .ptr .., v, h, u, r => by simp [toV] at h
  | .slice .., v, h, u, r => by simp [toV] at h
  | .map .., v, h, u, r => by simp [toV] at h
  | .junk, v, h, u, r => by simp [toV] at h
  | .iface t x, v, h, u, ⟨u', e, r⟩ => by
    simp only [toV, Option.map_eq_some_iff] at h
    obtain ⟨y, hy, rfl⟩ := h
    rw [e, toV_spec x y hy u' r]
  | .agg cs, v, h, u, ⟨us, e, r⟩ => by
    simp only [toV, Option.map_eq_some_iff] at h
    obtain ⟨y, hy, rfl⟩ := h
    rw [e, ← toVs_spec cs y hy _ r]
  | .tuple cs, v, h, u, ⟨us, e, r⟩ => by
    simp only [toV, Option.map_eq_some_iff] at h
    obtain ⟨y, hy, rfl⟩ := h
    rw [e, ← toVs_spec cs y hy _ r]
  | .func fn f c, v, h, u, ⟨f', c', e, r, s⟩ => by
    simp only [toV, Option.bind_eq_some_iff, Option.map_eq_some_iff] at h
    obtain ⟨y, hy, z, hz, rfl⟩ := h
    rw [e, ← toVs_spec f y hy _ r, ← toVs_spec c z hz _ s]
theorem toVs_spec {φ : Env} : ∀ (xs : List AV) (l : List Value), toVs xs = some l → ∀ m, VRs φ xs m → m = l
  | [], l, h, m, r => by simp only [toVs, Option.some.injEq] at h; subst h; exact r
  | x :: xs, l, h, m, ⟨u, us, e, r, s⟩ => by
    simp only [toVs, Option.bind_eq_some_iff, Option.map_eq_some_iff] at h
    obtain ⟨y, hy, z, hz, rfl⟩ := h
    rw [e, toV_spec x y hy u r, toVs_spec xs z hz us s]
end

/-- The abstract value of a value that leads to no block. -/
def ofV : Nat → Value → Option AV
  | 0, _ => none
  | n + 1, v => match v with
    | .int k n => some (.int k n)
    | .bool b => some (.bool b)
    | .string s => some (.str s)
    | .pointer none => some .nilPtr
    | .slice none 0 0 => some .nilSlice
    | .map none => some .nilMap
    | .nilFunc => some .nilFunc
    | .nilIface => some .nilIface
    | .iface t x => (ofV n x).map (.iface t)
    | .agg cs => (ofVs (ofV n) cs.toList).map .agg
    | .tuple cs => (ofVs (ofV n) cs.toList).map .tuple
    | .func fn f c => (ofVs (ofV n) f.toList).bind fun l => (ofVs (ofV n) c.toList).map fun m => .func fn l m
    | _ => none
where ofVs (g : Value → Option AV) : List Value → Option (List AV)
  | [] => some []
  | x :: xs => (g x).bind fun v => (ofVs g xs).map (v :: ·)

theorem ofVs_spec {φ : Env} {g : Value → Option AV} (hg : ∀ v x, g v = some x → VR φ x v) : ∀ (l : List Value) (xs : List AV), ofV.ofVs g l = some xs → VRs φ xs l
  | [], xs, h => by simp only [ofV.ofVs, Option.some.injEq] at h; subst h; exact .nil φ
  | v :: l, xs, h => by
    simp only [ofV.ofVs, Option.bind_eq_some_iff, Option.map_eq_some_iff] at h
    obtain ⟨y, hy, z, hz, rfl⟩ := h
    exact .cons (hg v y hy) (ofVs_spec hg l z hz)

theorem ofV_spec {φ : Env} : ∀ (n : Nat) (v : Value) (x : AV), ofV n v = some x → VR φ x v
  | 0, _, _, h => by simp [ofV] at h
  | n + 1, v, x, h => by
    have ih := ofV_spec (φ := φ) n
    unfold ofV at h
    split at h
    case h_9 => 
      simp only [Option.map_eq_some_iff] at h
      obtain ⟨y, hy, rfl⟩ := h
      exact ⟨_, rfl, ih _ _ hy⟩
    case h_10 => 
      simp only [Option.map_eq_some_iff] at h
      obtain ⟨y, hy, rfl⟩ := h
      exact ⟨_, rfl, ofVs_spec ih _ _ hy⟩
    case h_11 => 
      simp only [Option.map_eq_some_iff] at h
      obtain ⟨y, hy, rfl⟩ := h
      exact ⟨_, rfl, ofVs_spec ih _ _ hy⟩
    case h_12 => 
      simp only [Option.bind_eq_some_iff, Option.map_eq_some_iff] at h
      obtain ⟨y, hy, z, hz, rfl⟩ := h
      exact ⟨_, _, rfl, ofVs_spec ih _ _ hy, ofVs_spec ih _ _ hz⟩
    all_goals first
      | (simp only [Option.some.injEq] at h; subst h; rfl)
      | cases h

end Go.Dv

/- Abstract heaps and their relation to worlds; the heap's moves: a new block, a store, a load, a row handed on by an append (own work). -/

namespace Go.Dv

inductive AObj where
  | fresh
  | dead
  | cells (cs : List AV) (elem : TypeId)
  | arg (cs : List AV)
  | map (es : List (AV × AV × Nat)) (clock : Nat)
  | strIter (s : ByteArray) (pos : Nat)
  deriving Inhabited

abbrev AH := List AObj

def AObj.owned : AObj → Bool
  | .cells .. | .map .. | .strIter .. => true
  | _ => false

def Owned (H : AH) (i : Nat) : Prop := ∃ o, H[i]? = some o ∧ o.owned = true

def MR (φ : Env) : List (AV × AV × Nat) → List MapEntry → Prop
  | [], l => l = []
  | (k, v, n) :: es, l => ∃ e l', l = e :: l' ∧ VR φ k e.key ∧ VR φ v e.val ∧ e.born = n ∧ MR φ es l'

theorem MR.mono {φ ψ : Env} (h : φ.le ψ) : ∀ (es : List (AV × AV × Nat)) (l : List MapEntry), MR φ es l → MR ψ es l
  | [], _, r => r
  | (_, _, _) :: es, _, ⟨e, l', q, rk, rv, rn, rs⟩ => ⟨e, l', q, rk.mono h, rv.mono h, rn, MR.mono h es _ rs⟩

def OR (φ : Env) (w : World) (i : Nat) : AObj → Prop
  | .fresh | .dead => True
  | .cells cs elem => ∃ b o z c, φ i = some (b, o, z) ∧ w.heap[b]? = some (.cells c elem (0, 0)) ∧ c.size = z ∧ o + cs.length ≤ z ∧
      ∀ j v, cs[j]? = some v → ∃ u, c[o + j]? = some u ∧ VR φ v u
  | .arg cs => ∃ b o z, φ i = some (b, o, z) ∧ ∀ j v, cs[j]? = some v → ∃ u, w.cell? ⟨b, o + j, none⟩ = some u ∧ VR φ v u
  | .map es clock => ∃ b z es', φ i = some (b, 0, z) ∧ w.heap[b]? = some (.map es' clock) ∧ MR φ es es'.toList
  | .strIter s p => ∃ b z, φ i = some (b, 0, z) ∧ w.heap[b]? = some (.stringIter s p)

structure WR (w0 : World) (Pr : Nat → Prop) (φ : Env) (H : AH) (w : World) : Prop where
  dom : ∀ i, H.length ≤ i → φ i = none
  fresh : ∀ i, H[i]? = some .fresh → φ i = none
  lt : ∀ i x, φ i = some x → x.1 < w.heap.size
  inj : ∀ i j x y, Owned H i → Owned H j → φ i = some x → φ j = some y → x.1 = y.1 → i = j
  own : ∀ i x, Owned H i → φ i = some x → ¬ Pr x.1
  argP : ∀ i x cs, H[i]? = some (.arg cs) → φ i = some x → Pr x.1
  obj : ∀ i o, H[i]? = some o → OR φ w i o
  prLt : ∀ b, Pr b → b < w0.heap.size
  size : w0.heap.size ≤ w.heap.size
  os : w.os = w0.os
  tape : w.tape = w0.tape
  output : w.output = w0.output
  old : ∀ b, Pr b → w.heap[b]? = w0.heap[b]?

/-- What an object says holds on where its block has not turned. -/
theorem OR.keep {φ ψ : Env} {w w' : World} {i : Nat} {o : AObj} (h : OR φ w i o) (hle : φ.le ψ)
    (hb : ∀ x, φ i = some x → w'.heap[x.1]? = w.heap[x.1]?) : OR ψ w' i o := by
  cases o with
  | fresh => trivial
  | dead => trivial
  | cells cs e =>
    obtain ⟨b, o, z, c, hi, hc, hz, hl, hv⟩ := h
    refine ⟨b, o, z, c, hle _ _ hi, ?_, hz, hl, fun j v hj => ?_⟩
    · rw [hb _ hi]; exact hc
    · obtain ⟨u, hu, r⟩ := hv j v hj; exact ⟨u, hu, r.mono hle⟩
  | arg cs =>
    obtain ⟨b, o, z, hi, hv⟩ := h
    refine ⟨b, o, z, hle _ _ hi, fun j v hj => ?_⟩
    obtain ⟨u, hu, r⟩ := hv j v hj
    refine ⟨u, ?_, r.mono hle⟩
    rw [← hu]
    exact World.cell?_of_block (w := w) (a := ⟨b, o + j, none⟩) (hb _ hi)
  | map es clock =>
    obtain ⟨b, z, es', hi, hm, r⟩ := h
    exact ⟨b, z, es', hle _ _ hi, by rw [hb _ hi]; exact hm, MR.mono hle _ _ r⟩
  | strIter s p =>
    obtain ⟨b, z, hi, hm⟩ := h
    exact ⟨b, z, hle _ _ hi, by rw [hb _ hi]; exact hm⟩

def Env.set (φ : Env) (i : Nat) (x : Nat × Nat × Nat) : Env := fun j => if j = i then some x else φ j
theorem Env.set_self (φ : Env) (i : Nat) (x) : φ.set i x i = some x := by simp [Env.set]
theorem Env.set_ne (φ : Env) {i j : Nat} (x) (h : j ≠ i) : φ.set i x j = φ j := by simp [Env.set, h]
theorem Env.le_set {φ : Env} {i : Nat} (x) (h : φ i = none) : φ.le (φ.set i x) := fun j y hj => by
  by_cases e : j = i
  · subst e; rw [h] at hj; cases hj
  · rw [Env.set_ne φ x e]; exact hj

/-- A new abstract block: at the heap's end, or at a place that was kept for it. -/
def put (slot : Option Nat) (H : AH) (o : AObj) : Option (Nat × AH) :=
  match slot with
  | none => some (H.length, H ++ [o])
  | some i => match H[i]? with
    | some .fresh => some (i, H.set i o)
    | _ => none

theorem put_spec {w0 : World} {Pr : Nat → Prop} {φ : Env} {H : AH} {w : World} (h : WR w0 Pr φ H w) {slot : Option Nat} {o : AObj} {i : Nat} {H' : AH}
    (hp : put slot H o = some (i, H')) :
    φ i = none ∧ (∀ j, j ≠ i → H'[j]? = H[j]?) ∧ H'[i]? = some o ∧ H.length ≤ H'.length ∧ (∀ j, H'.length ≤ j → H.length ≤ j ∧ j ≠ i) := by
  unfold put at hp
  split at hp
  · simp only [Option.some.injEq, Prod.mk.injEq] at hp
    obtain ⟨rfl, rfl⟩ := hp
    refine ⟨h.dom _ (Nat.le_refl _), fun j hj => ?_, by simp, by simp, fun j hj => ?_⟩
    · rcases Nat.lt_or_ge j H.length with hl | hl
      · rw [List.getElem?_append_left hl]
      · rw [List.getElem?_append_right hl, List.getElem?_eq_none hl, List.getElem?_eq_none (by simp; omega)]
    · simp at hj; omega
  · rename_i i'
    split at hp
    · rename_i hf
      simp only [Option.some.injEq, Prod.mk.injEq] at hp
      obtain ⟨rfl, rfl⟩ := hp
      have hl : i' < H.length := by
        rcases Nat.lt_or_ge i' H.length with hl | hl
        · exact hl
        · rw [List.getElem?_eq_none hl] at hf; cases hf
      refine ⟨h.fresh _ hf, fun j hj => List.getElem?_set_ne (Ne.symm hj), by simp [hl], by simp, fun j hj => ?_⟩
      simp at hj; omega
    · cases hp

theorem Owned.get {H : AH} {i : Nat} (h : Owned H i) : ∃ o, H[i]? = some o ∧ o.owned = true := h

/-- A new block. -/
theorem WR.alloc {w0 : World} {Pr : Nat → Prop} {φ : Env} {H : AH} {w : World} (h : WR w0 Pr φ H w) {slot : Option Nat} {o : AObj} {i : Nat} {H' : AH}
    (hp : put slot H o = some (i, H')) (ob : Obj) (z : Nat)
    (ho : OR (φ.set i (w.heap.size, 0, z)) { w with heap := w.heap.push ob } i o) (hown : o.owned = true) :
    φ.le (φ.set i (w.heap.size, 0, z)) ∧ WR w0 Pr (φ.set i (w.heap.size, 0, z)) H' { w with heap := w.heap.push ob } := by
  obtain ⟨hn, hne, hi, hlen, hdom⟩ := put_spec h hp
  have hle := Env.le_set (w.heap.size, 0, z) hn
  have hown' : ∀ j, Owned H' j → j ≠ i → Owned H j := fun j ⟨o, ho, hw⟩ hj => ⟨o, by rw [← hne j hj]; exact ho, hw⟩
  have hbl : ∀ b, b < w.heap.size → (w.heap.push ob)[b]? = w.heap[b]? := fun b hb => by
    rw [Array.getElem?_push, if_neg (by omega)]
  refine ⟨hle, ⟨fun j hj => ?_, fun j hj => ?_, fun j x hx => ?_, fun j k x y hj hk hx hy e => ?_, fun j x hj hx => ?_, fun j x cs hj hx => ?_, fun j o' hj => ?_, h.prLt, ?_, h.os, h.tape, h.output, fun b hb => ?_⟩⟩
  · obtain ⟨h1, h2⟩ := hdom j hj
    rw [Env.set_ne _ _ h2]; exact h.dom j h1
  · have hji : j ≠ i := by rintro rfl; rw [hi] at hj; cases hj; cases hown
    rw [Env.set_ne _ _ hji]
    exact h.fresh j (by rw [← hne j hji]; exact hj)
  · by_cases e : j = i
    · subst e; rw [Env.set_self] at hx; cases hx; simp
    · rw [Env.set_ne _ _ e] at hx
      have := h.lt j x hx
      simp; omega
  · by_cases ej : j = i <;> by_cases ek : k = i
    · rw [ej, ek]
    · subst ej; rw [Env.set_self] at hx; rw [Env.set_ne _ _ ek] at hy; cases hx
      have := h.lt k y hy; simp only at e; omega
    · subst ek; rw [Env.set_self] at hy; rw [Env.set_ne _ _ ej] at hx; cases hy
      have := h.lt j x hx; simp only at e; omega
    · rw [Env.set_ne _ _ ej] at hx; rw [Env.set_ne _ _ ek] at hy
      exact h.inj j k x y (hown' j hj ej) (hown' k hk ek) hx hy e
  · by_cases ej : j = i
    · subst ej; rw [Env.set_self] at hx; cases hx
      intro hb; have := h.prLt _ hb; have := h.size; simp only at *; omega
    · rw [Env.set_ne _ _ ej] at hx
      exact h.own j x (hown' j hj ej) hx
  · have hji : j ≠ i := by rintro rfl; rw [hi] at hj; cases hj; cases hown
    rw [Env.set_ne _ _ hji] at hx
    exact h.argP j x cs (by rw [← hne j hji]; exact hj) hx
  · by_cases ej : j = i
    · subst ej; rw [hi] at hj; cases hj; exact ho
    · rw [hne j ej] at hj
      exact (h.obj j o' hj).keep hle fun x hx => hbl _ (h.lt j x hx)
  · have := h.size; simp; omega
  · show (w.heap.push ob)[b]? = _
    rw [hbl b (by have := h.prLt b hb; have := h.size; omega)]
    exact h.old b hb

/-- A block of the call's own is rewritten. -/
theorem WR.rewrite {w0 : World} {Pr : Nat → Prop} {φ : Env} {H : AH} {w w' : World} (h : WR w0 Pr φ H w) {i : Nat} {o o' : AObj} {b off z : Nat}
    (hi : H[i]? = some o) (hown : o.owned = true) (hown' : o'.owned = true) (hφ : φ i = some (b, off, z))
    (hsz : w'.heap.size = w.heap.size) (hos : w'.os = w.os) (htp : w'.tape = w.tape) (hout : w'.output = w.output)
    (hne : ∀ c, c ≠ b → w'.heap[c]? = w.heap[c]?) (ho : OR φ w' i o') : WR w0 Pr φ (H.set i o') w' := by
  have hl : i < H.length := by
    rcases Nat.lt_or_ge i H.length with hl | hl
    · exact hl
    · rw [List.getElem?_eq_none hl] at hi; cases hi
  have hO : ∀ j, Owned (H.set i o') j → Owned H j := fun j ⟨q, hq, hw⟩ => by
    by_cases e : j = i
    · subst e; exact ⟨o, hi, hown⟩
    · rw [List.getElem?_set_ne (Ne.symm e)] at hq; exact ⟨q, hq, hw⟩
  have hOi : Owned H i := ⟨o, hi, hown⟩
  refine ⟨fun j hj => h.dom j (by simpa using hj), fun j hj => ?_, fun j x hx => by rw [hsz]; exact h.lt j x hx, fun j k x y hj hk => h.inj j k x y (hO j hj) (hO k hk), fun j x hj => h.own j x (hO j hj), fun j x cs hj hx => ?_, fun j q hj => ?_, h.prLt, by rw [hsz]; exact h.size, hos.trans h.os, htp.trans h.tape, hout.trans h.output, fun c hc => ?_⟩
  · by_cases e : j = i
    · subst e; simp [hl] at hj; subst hj; cases hown'
    · rw [List.getElem?_set_ne (Ne.symm e)] at hj; exact h.fresh j hj
  · by_cases e : j = i
    · subst e; simp [hl] at hj; subst hj; cases hown'
    · rw [List.getElem?_set_ne (Ne.symm e)] at hj; exact h.argP j x cs hj hx
  · by_cases e : j = i
    · subst e; simp [hl] at hj; subst hj; exact ho
    · rw [List.getElem?_set_ne (Ne.symm e)] at hj
      have hk := h.obj j q hj
      have go : (∀ x, φ j = some x → x.1 ≠ b) → OR φ w' j q := fun g => hk.keep (Env.le_refl φ) fun x hx => hne _ (g x hx)
      cases q with
      | fresh => trivial
      | dead => trivial
      | arg cs => exact go fun x hx hxb => h.own i _ hOi hφ (by rw [← hxb]; exact h.argP j x cs hj hx)
      | cells cs e' => exact go fun x hx hxb => e (h.inj j i x _ ⟨_, hj, rfl⟩ hOi hx hφ hxb)
      | map es cl => exact go fun x hx hxb => e (h.inj j i x _ ⟨_, hj, rfl⟩ hOi hx hφ hxb)
      | strIter s p => exact go fun x hx hxb => e (h.inj j i x _ ⟨_, hj, rfl⟩ hOi hx hφ hxb)
  · rw [hne c (fun e => h.own i _ hOi hφ (by subst e; exact hc))]
    exact h.old c hc

end Go.Dv

/- Reads and writes of an abstract heap, and a row that is handed on (own work). -/

namespace Go.Dv
set_option linter.unusedSimpArgs false
set_option linter.unusedVariables false

theorem lt_of_get {α : Type} {l : List α} {i : Nat} {o : α} (h : l[i]? = some o) : i < l.length := by
  rcases Nat.lt_or_ge i l.length with hl | hl
  · exact hl
  · rw [List.getElem?_eq_none hl] at h; cases h

def rdCells (H : AH) (i k n : Nat) : Option (List AV) :=
  match H[i]? with
  | some (.cells cs _) => if k + n ≤ cs.length then some ((cs.drop k).take n) else none
  | some (.arg cs) => if k + n ≤ cs.length then some ((cs.drop k).take n) else none
  | _ => none

section
variable {w0 : World} {Pr : Nat → Prop} {φ : Env} {H : AH} {w : World}

theorem cellOf {b j : Nat} {c : Array Value} {e : TypeId} {fz : Nat × Nat} (h : w.heap[b]? = some (.cells c e fz)) : w.cell? ⟨b, j, none⟩ = c[j]? := by
  simp [World.cell?, h]

theorem WR.cell_at (h : WR w0 Pr φ H w) {i b o z : Nat} (hφ : φ i = some (b, o, z)) {cs : List AV} (hi : (∃ e, H[i]? = some (.cells cs e)) ∨ H[i]? = some (.arg cs))
    (j : Nat) (x : AV) (hj : cs[j]? = some x) : ∃ v, w.cell? ⟨b, o + j, none⟩ = some v ∧ VR φ x v := by
  rcases hi with ⟨e, hi⟩ | hi
  · obtain ⟨b', o', z', c, hφ', hc, _, _, hv⟩ := h.obj i _ hi
    rw [hφ] at hφ'; cases hφ'
    obtain ⟨u, hu, r⟩ := hv j x hj
    exact ⟨u, by rw [cellOf hc]; exact hu, r⟩
  · obtain ⟨b', o', z', hφ', hv⟩ := h.obj i _ hi
    rw [hφ] at hφ'; cases hφ'
    exact hv j x hj

theorem WR.read (h : WR w0 Pr φ H w) {i b o z : Nat} (hφ : φ i = some (b, o, z)) {k n : Nat} {xs : List AV} (hr : rdCells H i k n = some xs) :
    ∃ vs : List Value, VRs φ xs vs ∧ vs.length = n ∧ ∀ j v, vs[j]? = some v → w.cell? ⟨b, o + k + j, none⟩ = some v := by
  have key : ∀ cs : List AV, ((∃ e, H[i]? = some (.cells cs e)) ∨ H[i]? = some (.arg cs)) → k + n ≤ cs.length →
      ∃ vs : List Value, VRs φ ((cs.drop k).take n) vs ∧ vs.length = n ∧ ∀ j v, vs[j]? = some v → w.cell? ⟨b, o + k + j, none⟩ = some v := by
    intro cs hi hle
    have hx : ∀ j, j < n → ∃ v, w.cell? ⟨b, o + k + j, none⟩ = some v ∧ ∀ x, cs[k + j]? = some x → VR φ x v := fun j hj => by
      have hl : k + j < cs.length := by omega
      obtain ⟨v, hv, r⟩ := h.cell_at hφ hi (k + j) _ (List.getElem?_eq_getElem hl)
      refine ⟨v, by rw [show o + k + j = o + (k + j) by omega]; exact hv, fun x hx => ?_⟩
      rw [List.getElem?_eq_getElem hl] at hx; cases hx; exact r
    refine ⟨(List.range n).map fun j => (w.cell? ⟨b, o + k + j, none⟩).getD undef, .of_get (by simp; omega) fun j x v hxj hvj => ?_, by simp, fun j v hvj => ?_⟩
    · rw [List.getElem?_take] at hxj
      split at hxj
      · rename_i hjn
        obtain ⟨u, hu, r⟩ := hx j hjn
        rw [List.getElem?_drop] at hxj
        simp [hjn, hu] at hvj
        subst hvj; exact r x hxj
      · cases hxj
    · have hjn : j < n := by simpa using lt_of_get hvj
      obtain ⟨u, hu, _⟩ := hx j hjn
      simp [hjn, hu] at hvj
      subst hvj; exact hu
  unfold rdCells at hr
  split at hr
  · rename_i cs e hi
    split at hr
    · rename_i hle; cases hr; exact key cs (.inl ⟨e, hi⟩) hle
    · cases hr
  · rename_i cs hi
    split at hr
    · rename_i hle; cases hr; exact key cs (.inr hi) hle
    · cases hr
  · cases hr

def AV.one : AV → Bool
  | .agg _ | .tuple _ => false
  | _ => true

theorem one_spec {x : AV} {v : Value} (h : x.one = true) (r : VR φ x v) : v.oneCell' = true := by
  cases x <;> simp only [AV.one] at h <;> try (cases h; done)
  case func => obtain ⟨_, _, rfl, _⟩ := r; rfl
  case iface => obtain ⟨_, rfl, _⟩ := r; rfl
  case ptr => obtain ⟨_, _, _, _, rfl⟩ := r; rfl
  case slice => obtain ⟨_, _, rfl, _⟩ := r; rfl
  case junk => exact r.1
  case map => obtain ⟨_, _, _, rfl⟩ := r; rfl
  all_goals (simp only [VR] at r; subst r; rfl)

def spl : List AV → Nat → List AV → List AV
  | cs, _, [] => cs
  | cs, k, v :: vs => spl (cs.set k v) (k + 1) vs

theorem spl_length : ∀ (vs cs : List AV) (k : Nat), (spl cs k vs).length = cs.length
  | [], _, _ => rfl
  | v :: vs, cs, k => by rw [spl, spl_length vs]; simp

def wrCells (H : AH) (i k : Nat) (vs : List AV) : Option AH :=
  match H[i]? with
  | some (.cells cs e) => if k + vs.length ≤ cs.length ∧ vs.all AV.one = true then some (H.set i (.cells (spl cs k vs) e)) else none
  | _ => none

theorem run_store_at {P : Program} {b j : Nat} {c : Array Value} {e : TypeId} (h : w.heap[b]? = some (.cells c e (0, 0))) {v : Value} (hv : v.oneCell' = true) (hj : j < c.size) (m : Go.Mode) :
    (store ⟨b, j, none⟩ v m).run P w = .ok () (w.setCell ⟨b, j, none⟩ v) := by
  have hc : w.cell? ⟨b, j, none⟩ = some c[j] := by rw [cellOf h]; exact Array.getElem?_eq_getElem hj
  have hf : w.frozen? ⟨b, j, none⟩ = false := by simp [World.frozen?, h]
  cases v <;> first | (simp [Value.oneCell'] at hv; done) | simp [store, Sem.run, hc, hf]

theorem WR.store1 (h : WR w0 Pr φ H w) {P : Program} {i b o z : Nat} (hφ : φ i = some (b, o, z)) {cs : List AV} {e : TypeId} (hi : H[i]? = some (.cells cs e))
    {k : Nat} (hk : k < cs.length) {x : AV} {v : Value} (r : VR φ x v) (h1 : x.one = true) (m : Go.Mode) :
    (store ⟨b, o + k, none⟩ v m).run P w = .ok () (w.setCell ⟨b, o + k, none⟩ v) ∧ WR w0 Pr φ (H.set i (.cells (cs.set k x) e)) (w.setCell ⟨b, o + k, none⟩ v) := by
  obtain ⟨b', o', z', c, hφ', hc, hz, hl, hv⟩ := h.obj i _ hi
  rw [hφ] at hφ'; cases hφ'
  have hheap : (w.setCell ⟨b, o + k, none⟩ v).heap[b]? = some (.cells (c.setIfInBounds (o + k) v) e (0, 0)) := by
    simp [World.setCell, Array.getElem?_modify, hc]
  refine ⟨run_store_at hc (one_spec h1 r) (by omega) m, h.rewrite hi rfl rfl hφ (by simp [World.setCell]) rfl rfl rfl (fun d hd => ?_) ⟨b, o, z, _, hφ, hheap, by simpa using hz, by simpa using hl, fun j y hj => ?_⟩⟩
  · simp only [World.setCell, Array.getElem?_modify]
    rw [if_neg (fun e => hd e.symm)]
  · rw [List.getElem?_set] at hj
    split at hj
    · rename_i hkj; subst hkj
      simp [hk] at hj; subst hj
      exact ⟨v, by rw [Array.getElem?_setIfInBounds]; simp; omega, r⟩
    · rename_i hkj
      obtain ⟨u, hu, r'⟩ := hv j y hj
      exact ⟨u, by rw [Array.getElem?_setIfInBounds, if_neg (by omega)]; exact hu, r'⟩

theorem add_none (b o n : Nat) : (⟨b, o, none⟩ : Addr).add n = ⟨b, o + n, none⟩ := by
  unfold Addr.add; split <;> simp_all

theorem WR.stores {P : Program} {i b o z : Nat} (hφ : φ i = some (b, o, z)) {e : TypeId} : ∀ (xs : List AV) (vs : List Value) (cs : List AV) (H : AH) (w : World) (k o' n : Nat),
    WR w0 Pr φ H w → H[i]? = some (.cells cs e) → k + xs.length ≤ cs.length → xs.all AV.one = true → VRs φ xs vs → o' + n = o + k →
    ∃ w', (storeCells ⟨b, o', none⟩ vs n).run P w = .ok () w' ∧ WR w0 Pr φ (H.set i (.cells (spl cs k xs) e)) w'
  | [], vs, cs, H, w, k, o', n, h, hi, hk, h1, r, ho => by
    rw [show vs = [] from r]
    refine ⟨w, rfl, ?_⟩
    have : H.set i (.cells cs e) = H := by
      apply List.ext_getElem?; intro j
      rw [List.getElem?_set]
      split
      · rename_i hij; subst hij; rw [hi]; simp [lt_of_get hi]
      · rfl
    simp only [spl, this]; exact h
  | x :: xs, vs, cs, H, w, k, o', n, h, hi, hk, h1, ⟨v, vs', hvs, rx, rs⟩, ho => by
    subst hvs
    simp only [List.length_cons] at hk
    simp only [List.all_cons, Bool.and_eq_true] at h1
    obtain ⟨hst, hW⟩ := h.store1 (P := P) hφ hi (k := k) (by omega) rx h1.1 .plain
    have hil : i < H.length := lt_of_get hi
    obtain ⟨w', hw', hW'⟩ := WR.stores (P := P) hφ xs vs' (cs.set k x) _ _ (k + 1) o' (n + 1) hW (show (H.set i (.cells (cs.set k x) e))[i]? = some (.cells (cs.set k x) e) by simp [hil]) (by simp; omega) h1.2 rs (by omega)
    refine ⟨w', ?_, ?_⟩
    · simp only [storeCells, Sem.run_bind, add_none, ho, hst, Result.andThen_ok, hw']
    · simpa [spl, List.set_set] using hW'

theorem WR.drew (h : WR w0 Pr φ H w) (n : Nat) : WR w0 Pr φ H { w with drawn := n } :=
  ⟨h.dom, h.fresh, h.lt, h.inj, h.own, h.argP, fun i o hi => (h.obj i o hi).keep (Env.le_refl φ) fun _ _ => rfl, h.prLt, h.size, h.os, h.tape, h.output, h.old⟩

/-- A row of the call's own is given up. -/
theorem WR.kill (h : WR w0 Pr φ H w) {i : Nat} : WR w0 Pr φ (H.set i .dead) w := by
  have hO : ∀ j, Owned (H.set i .dead) j → Owned H j ∧ j ≠ i := fun j ⟨q, hq, hw⟩ => by
    by_cases e : j = i
    · subst e
      rw [List.getElem?_set] at hq; simp only [if_true] at hq
      split at hq
      · cases hq; cases hw
      · cases hq
    · rw [List.getElem?_set_ne (Ne.symm e)] at hq; exact ⟨⟨q, hq, hw⟩, e⟩
  have hG : ∀ {j : Nat} {q : AObj}, (H.set i .dead)[j]? = some q → q = .dead ∨ H[j]? = some q := fun {j q} hq => by
    by_cases e : j = i
    · subst e
      rw [List.getElem?_set] at hq; simp only [if_true] at hq
      split at hq
      · cases hq; exact .inl rfl
      · cases hq
    · rw [List.getElem?_set_ne (Ne.symm e)] at hq; exact .inr hq
  refine ⟨fun j hj => h.dom j (by simpa using hj), fun j hj => ?_, h.lt, fun j k x y hj hk => h.inj j k x y (hO j hj).1 (hO k hk).1, fun j x hj => h.own j x (hO j hj).1, fun j x cs hj hx => ?_, fun j q hj => ?_, h.prLt, h.size, h.os, h.tape, h.output, h.old⟩
  · rcases hG hj with e | e
    · cases e
    · exact h.fresh j e
  · rcases hG hj with e | e
    · cases e
    · exact h.argP j x cs e hx
  · rcases hG hj with e | e
    · subst e; trivial
    · exact h.obj j q e

/-- What lies on a block that nobody owns turns. -/
theorem WR.turn {w' : World} (h : WR w0 Pr φ H w) {b : Nat} (hb : ¬ Pr b) (hno : ∀ i x, Owned H i → φ i = some x → x.1 ≠ b)
    (hsz : w'.heap.size = w.heap.size) (hos : w'.os = w.os) (htp : w'.tape = w.tape) (hout : w'.output = w.output)
    (hne : ∀ c, c ≠ b → w'.heap[c]? = w.heap[c]?) : WR w0 Pr φ H w' := by
  refine ⟨h.dom, h.fresh, fun i x hx => by rw [hsz]; exact h.lt i x hx, h.inj, h.own, h.argP, fun i o hi => ?_, h.prLt, by rw [hsz]; exact h.size, hos.trans h.os, htp.trans h.tape, hout.trans h.output, fun c hc => ?_⟩
  · have hk := h.obj i o hi
    cases o with
    | fresh => trivial
    | dead => trivial
    | arg cs => exact hk.keep (Env.le_refl φ) fun x hx => hne _ fun e => hb (e ▸ h.argP i x cs hi hx)
    | cells cs e' => exact hk.keep (Env.le_refl φ) fun x hx => hne _ (hno i x ⟨_, hi, rfl⟩ hx)
    | map es cl => exact hk.keep (Env.le_refl φ) fun x hx => hne _ (hno i x ⟨_, hi, rfl⟩ hx)
    | strIter s p => exact hk.keep (Env.le_refl φ) fun x hx => hne _ (hno i x ⟨_, hi, rfl⟩ hx)
  · rw [hne c (fun e => hb (e ▸ hc))]; exact h.old c hc

/-- A block that nobody owns is taken. -/
theorem WR.adopt (h : WR w0 Pr φ H w) {slot : Option Nat} {o : AObj} {i : Nat} {H' : AH}
    (hp : put slot H o = some (i, H')) {b off z : Nat} (hb : b < w.heap.size) (hPr : ¬ Pr b) (hno : ∀ i x, Owned H i → φ i = some x → x.1 ≠ b)
    (ho : OR (φ.set i (b, off, z)) w i o) (hown : o.owned = true) :
    φ.le (φ.set i (b, off, z)) ∧ WR w0 Pr (φ.set i (b, off, z)) H' w := by
  obtain ⟨hn, hne, hi, hlen, hdom⟩ := put_spec h hp
  have hle := Env.le_set (b, off, z) hn
  have hown' : ∀ j, Owned H' j → j ≠ i → Owned H j := fun j ⟨o, ho, hw⟩ hj => ⟨o, by rw [← hne j hj]; exact ho, hw⟩
  refine ⟨hle, ⟨fun j hj => ?_, fun j hj => ?_, fun j x hx => ?_, fun j k x y hj hk hx hy e => ?_, fun j x hj hx => ?_, fun j x cs hj hx => ?_, fun j o' hj => ?_, h.prLt, h.size, h.os, h.tape, h.output, h.old⟩⟩
  · obtain ⟨h1, h2⟩ := hdom j hj
    rw [Env.set_ne _ _ h2]; exact h.dom j h1
  · have hji : j ≠ i := by rintro rfl; rw [hi] at hj; cases hj; cases hown
    rw [Env.set_ne _ _ hji]
    exact h.fresh j (by rw [← hne j hji]; exact hj)
  · by_cases e : j = i
    · subst e; rw [Env.set_self] at hx; cases hx; exact hb
    · rw [Env.set_ne _ _ e] at hx; exact h.lt j x hx
  · by_cases ej : j = i <;> by_cases ek : k = i
    · rw [ej, ek]
    · subst ej; rw [Env.set_self] at hx; rw [Env.set_ne _ _ ek] at hy; cases hx
      exact absurd e.symm (hno k y (hown' k hk ek) hy)
    · subst ek; rw [Env.set_self] at hy; rw [Env.set_ne _ _ ej] at hx; cases hy
      exact absurd e (hno j x (hown' j hj ej) hx)
    · rw [Env.set_ne _ _ ej] at hx; rw [Env.set_ne _ _ ek] at hy
      exact h.inj j k x y (hown' j hj ej) (hown' k hk ek) hx hy e
  · by_cases ej : j = i
    · subst ej; rw [Env.set_self] at hx; cases hx; exact hPr
    · rw [Env.set_ne _ _ ej] at hx; exact h.own j x (hown' j hj ej) hx
  · have hji : j ≠ i := by rintro rfl; rw [hi] at hj; cases hj; cases hown
    rw [Env.set_ne _ _ hji] at hx
    exact h.argP j x cs (by rw [← hne j hji]; exact hj) hx
  · by_cases ej : j = i
    · subst ej; rw [hi] at hj; cases hj; exact ho
    · rw [hne j ej] at hj
      exact (h.obj j o' hj).keep hle fun x hx => rfl

theorem setCells_heap : ∀ (vs : List Value) (w : World) (b o : Nat) (c : Array Value) (e : TypeId), w.heap[b]? = some (.cells c e (0, 0)) → o + vs.length ≤ c.size →
    ∃ c' : Array Value, (w.setCells b o vs).heap[b]? = some (.cells c' e (0, 0)) ∧ c'.size = c.size ∧ (∀ j, j < o → c'[j]? = c[j]?) ∧ (∀ j v, vs[j]? = some v → c'[o + j]? = some v)
  | [], w, b, o, c, e, h, _ => ⟨c, h, rfl, fun _ _ => rfl, fun j v hj => by simp at hj⟩
  | v :: vs, w, b, o, c, e, h, hl => by
    simp only [List.length_cons] at hl
    have h1 : (w.setCell ⟨b, o, none⟩ v).heap[b]? = some (.cells (c.setIfInBounds o v) e (0, 0)) := by simp [World.setCell, Array.getElem?_modify, h]
    obtain ⟨c', hc', hs, hlo, hin⟩ := setCells_heap vs (w.setCell ⟨b, o, none⟩ v) b (o + 1) _ e h1 (by simp; omega)
    refine ⟨c', hc', by simpa using hs, fun j hj => ?_, fun j u hj => ?_⟩
    · rw [hlo j (by omega), Array.getElem?_setIfInBounds, if_neg (by omega)]
    · cases j with
      | zero =>
        simp at hj; subst hj
        rw [Nat.add_zero, hlo o (by omega), Array.getElem?_setIfInBounds, if_pos rfl, if_pos (by omega)]
      | succ j => rw [show o + (j + 1) = o + 1 + j by omega]; exact hin j u (by simpa using hj)

theorem setCells_frame : ∀ (vs : List Value) (w : World) (b o : Nat), (w.setCells b o vs).heap.size = w.heap.size ∧ (w.setCells b o vs).os = w.os ∧ (w.setCells b o vs).tape = w.tape ∧
    (w.setCells b o vs).output = w.output ∧ ∀ c, c ≠ b → (w.setCells b o vs).heap[c]? = w.heap[c]?
  | [], _, _, _ => ⟨rfl, rfl, rfl, rfl, fun _ _ => rfl⟩
  | v :: vs, w, b, o => by
    obtain ⟨h1, h2, h3, h4, h5⟩ := setCells_frame vs (w.setCell ⟨b, o, none⟩ v) b (o + 1)
    refine ⟨h1.trans (by simp [World.setCell]), h2, h3, h4, fun c hc => (h5 c hc).trans ?_⟩
    simp only [World.setCell, Array.getElem?_modify]
    rw [if_neg (fun e => hc e.symm)]

end
end Go.Dv

/- The operations of the model on abstract states, one by one, each held against the model's own (own work). -/

namespace Go.Dv

inductive ANext where
  | val (v : AV)
  | skip
  | enter (f : FuncId) (args : List AV)
  deriving Inhabited

def pureRun {α : Type} (p : Program) : Sem α → Option α
  | .pure a => some a
  | .program k => pureRun p (k p)
  | _ => none

theorem pureRun_spec {α : Type} {p : Program} : ∀ (e : Sem α) (a : α), pureRun p e = some a → ∀ w, e.run p w = .ok a w
  | .pure a, b, h, w => by simp only [pureRun, Option.some.injEq] at h; subst h; rfl
  | .program k, b, h, w => by simp only [pureRun] at h; exact pureRun_spec (k p) b h w
  | .load .., _, h, _ | .store .., _, h, _ | .new .., _, h, _ | .shape .., _, h, _ | .freeze .., _, h, _ | .frozen .., _, h, _
  | .getObj .., _, h, _ | .setObj .., _, h, _ | .choose .., _, h, _ | .sys .., _, h, _ | .mark .., _, h, _ | .halt .., _, h, _ => by simp [pureRun] at h

/-- What the model's operation comes to, for what the abstract one says. -/
def Fits (φ : Env) (w' : World) : ANext → Result Next → Prop
  | .val v, r => ∃ u, r = .ok (.value u) w' ∧ VR φ v u
  | .skip, r => r = .ok .skip w'
  | .enter f args, r => ∃ us : Array Value, r = .ok (.enter f us) w' ∧ VRs φ args us.toList

section
variable {P : Program} {w0 : World} {Pr : Nat → Prop} {φ : Env} {H : AH} {w : World}

theorem run_und {t : TypeId} {d : TypeDesc} (h : P.underlying t = some d) : (underlying t).run P w = .ok d w := by simp [underlying, h]
theorem run_info {t : TypeId} {d : TypeInfo} (h : P.info? t = some d) : (typeInfo t).run P w = .ok d w := by simp [typeInfo, h]
theorem info_of_und {t : TypeId} {d : TypeDesc} (h : P.underlying t = some d) : ∃ i, P.info? t = some i := by
  unfold Program.underlying at h
  split at h <;> first | exact ⟨_, ‹_›⟩ | cases h
theorem run_size {t : TypeId} {i : TypeInfo} (h : P.info? t = some i) : (sizeOf t).run P w = .ok (P.cellsOf t) w := by simp [sizeOf, typeInfo, h, Program.cellsOf]
theorem run_zero {t : TypeId} {i : TypeInfo} {z : Value} (h : P.info? t = some i) (hz : i.zero = some z) : (zeroValue t).run P w = .ok z w := by simp [zeroValue, typeInfo, h, hz]

def isAggA (P : Program) (t : TypeId) : Option Bool :=
  match P.underlying t with
  | some (.struct _) | some (.array _ _) => some true
  | some _ => some false
  | none => none
theorem run_isAgg {t : TypeId} {b : Bool} (h : isAggA P t = some b) : (isAgg t).run P w = .ok b w := by
  unfold isAggA at h
  split at h
  · rename_i hu; cases h; simp [isAgg, underlying, hu]
  · rename_i hu; cases h; simp [isAgg, underlying, hu]
  · rename_i d h1 h2 hu
    cases h
    cases d <;> first | exact absurd rfl (h1 _) | exact absurd rfl (h2 _ _) | simp [isAgg, underlying, hu]
  · cases h
theorem isAgg_info {t : TypeId} {b : Bool} (h : isAggA P t = some b) : ∃ i, P.info? t = some i := by
  unfold isAggA at h
  split at h <;> first | exact info_of_und ‹_› | cases h

/-! loads -/
def ldA (P : Program) (t : TypeId) (H : AH) (i k : Nat) : Option AV :=
  match isAggA P t with
  | some true => (rdCells H i k (P.cellsOf t)).map .agg
  | some false => (rdCells H i k 1).bind (·.head?)
  | none => none

theorem ldA_spec (h : WR w0 Pr φ H w) {t : TypeId} {i k b o z : Nat} {v : AV} (hφ : φ i = some (b, o, z)) (hl : ldA P t H i k = some v) :
    ∃ u, (loadVar t ⟨b, o + k, none⟩).run P w = .ok u w ∧ VR φ v u := by
  unfold ldA at hl
  split at hl
  · rename_i ha
    simp only [Option.map_eq_some_iff] at hl
    obtain ⟨xs, hx, rfl⟩ := hl
    obtain ⟨vs, rs, hlen, hc⟩ := h.read hφ hx
    obtain ⟨ti, hti⟩ := isAgg_info ha
    refine ⟨.agg vs.toArray, ?_, vs.toArray, rfl, by simpa using rs⟩
    have hrun : (loadCells ⟨b, o + k, none⟩ (P.cellsOf t)).run P w = .ok vs.toArray w := by
      rw [← hlen]
      exact run_loadCells_list w _ vs fun j v hj => by rw [add_none]; exact hc j v hj
    simp only [loadVar, Sem.run_bind, run_isAgg ha, Result.andThen_ok, if_true, run_size hti, hrun, Sem.run_pure]
  · rename_i ha
    simp only [Option.bind_eq_some_iff] at hl
    obtain ⟨xs, hx, hv⟩ := hl
    obtain ⟨vs, rs, hlen, hc⟩ := h.read hφ hx
    match xs, vs, rs with
    | [], _, _ => simp at hv
    | x :: xs, _, ⟨u, us, e, r, _⟩ =>
      subst e; simp at hv; subst hv
      refine ⟨u, ?_, r⟩
      have := hc 0 u rfl
      simp only [loadVar, Sem.run_bind, run_isAgg ha, Result.andThen_ok, Bool.false_eq_true, if_false, run_load]
      rw [Nat.add_zero] at this
      rw [this]
  · cases hl

/-! stores -/
def stA (P : Program) (t : TypeId) (H : AH) (i k : Nat) (x : AV) : Option AH :=
  match P.info? t with
  | some _ => if x.cells.length = P.cellsOf t then wrCells H i k x.cells else none
  | none => none

theorem wrCells_spec (h : WR w0 Pr φ H w) {i k b o z o' n : Nat} {xs : List AV} {vs : List Value} {H' : AH} (hφ : φ i = some (b, o, z)) (hw : wrCells H i k xs = some H') (r : VRs φ xs vs) (ho : o' + n = o + k) :
    ∃ w', (storeCells ⟨b, o', none⟩ vs n).run P w = .ok () w' ∧ WR w0 Pr φ H' w' := by
  unfold wrCells at hw
  split at hw
  · rename_i cs e hi
    split at hw
    · rename_i hk
      cases hw
      exact WR.stores hφ xs vs cs H w k o' n h hi hk.1 hk.2 r ho
    · cases hw
  · cases hw

theorem stA_spec (h : WR w0 Pr φ H w) {t : TypeId} {i k b o z : Nat} {x : AV} {v : Value} {H' : AH} (hφ : φ i = some (b, o, z)) (hs : stA P t H i k x = some H') (r : VR φ x v) :
    ∃ w', (storeVar t ⟨b, o + k, none⟩ v).run P w = .ok () w' ∧ WR w0 Pr φ H' w' := by
  unfold stA at hs
  split at hs
  · rename_i ti hti
    split at hs
    · rename_i hlen
      obtain ⟨w', hw', hW⟩ := wrCells_spec (P := P) h hφ hs r.cells (Nat.add_zero _)
      refine ⟨w', ?_, hW⟩
      have hsz : v.cells.size = P.cellsOf t := by rw [← hlen, r.cells.length]; simp
      simp only [storeVar, Sem.run_bind, run_size hti, Result.andThen_ok, hsz, ne_eq, not_true, if_false, hw']
    · cases hs
  · cases hs

/-! new blocks -/
theorem new_spec (h : WR w0 Pr φ H w) {slot : Option Nat} {cs : List AV} {elem : TypeId} {i : Nat} {H' : AH} (hp : put slot H (.cells cs elem) = some (i, H')) {vs : Array Value} (r : VRs φ cs vs.toList) :
    ∃ φ' w', φ.le φ' ∧ WR w0 Pr φ' H' w' ∧ (newRow elem vs).run P w = .ok ⟨w.heap.size, 0, none⟩ w' ∧ φ' i = some (w.heap.size, 0, vs.size) := by
  have hn := (put_spec h hp).1
  obtain ⟨hle, hW⟩ := h.alloc hp (.cells vs elem) vs.size ⟨w.heap.size, 0, vs.size, vs, Env.set_self _ _ _, by simp, rfl, by simp [r.length], fun j v hj => by
    obtain ⟨u, hu, ru⟩ := r.get j v hj
    exact ⟨u, by simpa using hu, ru.mono (Env.le_set _ hn)⟩⟩ rfl
  exact ⟨_, _, hle, hW, by simp [newRow], Env.set_self _ _ _⟩

def zeroA (P : Program) (t : TypeId) : Option AV := ((P.info? t).bind (·.zero)).bind (ofV 6)
theorem zeroA_spec {t : TypeId} {x : AV} (h : zeroA P t = some x) (φ : Env) : ∃ i z, P.info? t = some i ∧ i.zero = some z ∧ VR φ x z := by
  simp only [zeroA, Option.bind_eq_some_iff] at h
  obtain ⟨z, ⟨i, hi, hz⟩, hx⟩ := h
  exact ⟨i, z, hi, hz, ofV_spec _ _ _ hx⟩

end
end Go.Dv

/- Operations on addresses, structs and slices on abstract states (own work). -/

namespace Go.Dv

def intA : AV → Option Int
  | .int _ n => some n
  | _ => none

def partA (P : Program) (t : TypeId) (cs : List AV) (off : Nat) : Option AV :=
  match isAggA P t with
  | some true => some (.agg ((cs.drop off).take (P.cellsOf t)))
  | some false => cs[off]?
  | none => none

def fieldA (P : Program) (t : TypeId) (x : AV) (f : Nat) : Option AV :=
  match P.underlying t, x with
  | some (.struct fs), .agg cs => (fs[f]?).bind fun fd => partA P fd.type cs fd.offset
  | _, _ => none

def fieldAddrA (P : Program) (t : TypeId) (x : AV) (f : Nat) : Option AV :=
  match P.underlying t, x with
  | some (.struct fs), .ptr i k => (fs[f]?).bind fun fd => if P.cellsOf fd.type = 0 then none else (P.info? fd.type).map fun _ => .ptr i (k + fd.offset)
  | _, _ => none

def indexAddrA (P : Program) (t : TypeId) (x ix : AV) : Option AV :=
  match P.underlying t, x, ix with
  | some (.slice elem), .slice i k es len _ _, .int _ n =>
    if 0 ≤ n ∧ n < len ∧ P.cellsOf elem = es then (P.info? elem).map fun _ => .ptr i (k + n.toNat * es) else none
  | some (.array len elem), .ptr i k, .int _ n =>
    if 0 ≤ n ∧ n < len then (P.info? elem).map fun _ => .ptr i (k + n.toNat * P.cellsOf elem) else none
  | _, _, _ => none

section
variable {P : Program} {w0 : World} {Pr : Nat → Prop} {φ : Env} {H : AH} {w : World}

theorem partA_spec {t : TypeId} {cs : List AV} {us : Array Value} {off : Nat} {v : AV} (r : VRs φ cs us.toList) (h : partA P t cs off = some v) :
    ∃ u, (∀ w, (part t us off).run P w = .ok u w) ∧ VR φ v u := by
  unfold partA at h
  split at h
  · rename_i ha
    cases h
    obtain ⟨ti, hti⟩ := isAgg_info ha
    refine ⟨.agg (us.extract off (off + P.cellsOf t)), fun w => ?_, _, rfl, ?_⟩
    · simp only [part, Sem.run_bind, run_isAgg ha, Result.andThen_ok, if_true, run_size hti, Sem.run_pure]
    · have := (r.drop off).take (P.cellsOf t)
      simpa [Array.toList_extract, List.extract_eq_take_drop] using this
  · rename_i ha
    obtain ⟨u, hu, ru⟩ := r.get off v h
    refine ⟨u, fun w => ?_, ru⟩
    have hu' : us[off]? = some u := by simpa using hu
    simp only [part, Sem.run_bind, run_isAgg ha, Result.andThen_ok, Bool.false_eq_true, if_false, hu', Sem.run_pure]
  · cases h

theorem fieldA_spec {t : TypeId} {x : AV} {u : Value} {f : Nat} {v : AV} (r : VR φ x u) (h : fieldA P t x f = some v) :
    ∃ y, (∀ w, (Instr.field t u f).run P w = .ok y w) ∧ VR φ v y := by
  unfold fieldA at h
  split at h
  · rename_i fs cs hu
    simp only [Option.bind_eq_some_iff] at h
    obtain ⟨fd, hf, hp⟩ := h
    obtain ⟨us, rfl, rs⟩ := r
    obtain ⟨y, hy, ry⟩ := partA_spec (P := P) rs hp
    refine ⟨y, fun w => ?_, ry⟩
    simp only [Instr.field, Sem.run_bind, run_und hu, Result.andThen_ok, hf, asAgg, Sem.run_pure, hy]
  · cases h

theorem fieldAddrA_spec {t : TypeId} {x : AV} {u : Value} {f : Nat} {v : AV} (r : VR φ x u) (h : fieldAddrA P t x f = some v) :
    ∃ y, (∀ w, (Instr.fieldAt t u f).run P w = .ok y w) ∧ VR φ v y := by
  unfold fieldAddrA at h
  split at h
  · rename_i fs i k hu
    simp only [Option.bind_eq_some_iff] at h
    obtain ⟨fd, hf, hp⟩ := h
    split at hp
    · cases hp
    · rename_i hz
      simp only [Option.map_eq_some_iff] at hp
      obtain ⟨ti, hti, rfl⟩ := hp
      obtain ⟨b, o, z, hφ, rfl⟩ := r
      refine ⟨_, fun w => ?_, b, o, z, hφ, rfl⟩
      simp only [Instr.fieldAt, Sem.run_bind, run_und hu, Result.andThen_ok, hf, Instr.sureAddr, Sem.run_pure, fieldPlace, run_size hti, if_neg hz, Sem.run_ite, add_none, Nat.add_assoc]
  · cases h

theorem indexAddrA_spec {t : TypeId} {x ix : AV} {u ui : Value} {v : AV} (r : VR φ x u) (ri : VR φ ix ui) (h : indexAddrA P t x ix = some v) :
    ∃ y, (∀ w, (Instr.indexAt t u ui).run P w = .ok y w) ∧ VR φ v y := by
  unfold indexAddrA at h
  split at h
  · rename_i elem i k es len cap ex kk n hu
    split at h
    · rename_i hc
      obtain ⟨h0, h1, hes⟩ := hc
      simp only [Option.map_eq_some_iff] at h
      obtain ⟨ti, hti, rfl⟩ := h
      obtain ⟨a, c, rfl, hlc, hcc, ha⟩ := r
      simp only [VR] at ri; subst ri
      have hc0 : c ≠ 0 := by omega
      obtain ⟨b, o, z, hφ, rfl, hb⟩ := ha.resolve_left hc0
      refine ⟨_, fun w => ?_, b, o, z, hφ, rfl⟩
      simp only [Instr.indexAt, Sem.run_bind, asIntOf, Sem.run_pure, run_und hu, Result.andThen_ok, Bool.and_false, Bool.false_eq_true, if_false, Sem.run_ite]
      rw [if_pos ⟨h0, h1⟩]
      simp [run_size hti, add_none, hes, Nat.add_assoc]
    · cases h
  · rename_i len elem i k kk n hu
    split at h
    · rename_i hc
      obtain ⟨h0, h1⟩ := hc
      simp only [Option.map_eq_some_iff] at h
      obtain ⟨ti, hti, rfl⟩ := h
      obtain ⟨b, o, z, hφ, rfl⟩ := r
      simp only [VR] at ri; subst ri
      refine ⟨_, fun w => ?_, b, o, z, hφ, rfl⟩
      simp only [Instr.indexAt, Sem.run_bind, asIntOf, Sem.run_pure, run_und hu, Result.andThen_ok, Instr.sureAddr, Sem.run_ite]
      rw [if_pos ⟨h0, h1⟩]
      simp [run_size hti, add_none, Nat.add_assoc]
    · cases h
  · cases h

/-! cuts -/
def boundA (d : Nat) : Option AV → Option Nat
  | none => some d
  | some (.int _ n) => if 0 ≤ n then some n.toNat else none
  | some _ => none

/-- 's[l:h]', 's[l:h:m]' of a slice -/
def sliceA (P : Program) (t : TypeId) (H : AH) (x : AV) (lo hi mx : Option AV) : Option AV :=
  match P.underlying t, x with
  | some (.slice elem), .slice i k es len cap ex =>
    match boundA 0 lo, boundA len hi with
    | some l, some h =>
      match mx with
      | none => if l ≤ h ∧ h ≤ cap ∧ P.cellsOf elem = es then (P.info? elem).map fun _ => .slice i (k + l * es) es (h - l) (cap - l) ex else none
      | some m => match boundA 0 (some m) with
        | some m => if hi.isSome = true ∧ l ≤ h ∧ h ≤ m ∧ m ≤ cap ∧ P.cellsOf elem = es then (P.info? elem).map fun _ => .slice i (k + l * es) es (h - l) (m - l) true else none
        | none => none
    | _, _ => none
  | some (.slice elem), .nilSlice =>
    match boundA 0 lo, boundA 0 hi, mx with
    | some 0, some 0, none => (P.info? elem).map fun _ => .nilSlice
    | _, _, _ => none
  | some (.array n elem), .ptr i k =>
    match boundA 0 lo, boundA n hi, mx, H[i]? with
    | some l, some h, none, some (.cells cs _) => if l ≤ h ∧ h ≤ n ∧ k + n * P.cellsOf elem ≤ cs.length then (P.info? elem).map fun _ => .slice i (k + l * P.cellsOf elem) (P.cellsOf elem) (h - l) (n - l) true else none
    | _, _, _, _ => none
  | _, _ => none

end
end Go.Dv

/- Cuts of slices, aggregates that are built, new rows: each held against the model's own operation (own work). -/

namespace Go.Dv

def OVR (φ : Env) : Option AV → Option Value → Prop
  | none, v => v = none
  | some x, v => ∃ u, v = some u ∧ VR φ x u

section
variable {P : Program} {w0 : World} {Pr : Nat → Prop} {φ : Env} {H : AH} {w : World}

theorem run_bound {x : AV} {u : Value} {n y : Nat} (r : VR φ x u) (hb : boundA 0 (some x) = some n) (hy : n ≤ y) (code : BoundsCode) :
    (Instr.sliceBound u y code).run P w = .ok n w := by
  cases x <;> simp only [boundA] at hb <;> try (cases hb; done)
  rename_i k i
  split at hb
  · rename_i h0
    cases hb
    simp only [VR] at r; subst r
    simp only [Instr.sliceBound, asIntOf, Sem.run_bind, Sem.run_pure, Result.andThen_ok, Sem.run_ite]
    rw [if_pos ⟨h0, by omega⟩]
  · cases hb

theorem boundA_some (d : Nat) (x : AV) : boundA d (some x) = boundA 0 (some x) := by cases x <;> rfl

theorem run_bounds {isS : Bool} {len cap l h : Nat} {lo hi : Option AV} {lo' hi' : Option Value} (rl : OVR φ lo lo') (rh : OVR φ hi hi')
    (hl : boundA 0 lo = some l) (hh : boundA len hi = some h) (hlh : l ≤ h) (hc : h ≤ cap) :
    (Instr.sliceBounds isS len cap lo' hi' none).run P w = .ok (l, h, cap) w := by
  cases lo with
  | none =>
    cases hl; obtain rfl := rl
    cases hi with
    | none => cases hh; obtain rfl := rh; simp [Instr.sliceBounds]
    | some y =>
      obtain ⟨u, rfl, ru⟩ := rh
      rw [boundA_some] at hh
      have := fun code => run_bound (P := P) (w := w) ru hh hc code
      simp [Instr.sliceBounds, this]
  | some x =>
    obtain ⟨v, rfl, rv⟩ := rl
    have h1 := fun code => run_bound (P := P) (w := w) rv hl hlh code
    cases hi with
    | none => cases hh; obtain rfl := rh; simp [Instr.sliceBounds, h1]
    | some y =>
      obtain ⟨u, rfl, ru⟩ := rh
      rw [boundA_some] at hh
      have := fun code => run_bound (P := P) (w := w) ru hh hc code
      simp [Instr.sliceBounds, this, h1]

theorem run_bounds_max {isS : Bool} {len cap l h m : Nat} {lo : Option AV} {hi mx : AV} {lo' : Option Value} {hi' mx' : Value} (rl : OVR φ lo lo') (rh : VR φ hi hi') (rm : VR φ mx mx')
    (hl : boundA 0 lo = some l) (hh : boundA 0 (some hi) = some h) (hm : boundA 0 (some mx) = some m) (hlh : l ≤ h) (hc : h ≤ m) (hmc : m ≤ cap) :
    (Instr.sliceBounds isS len cap lo' (some hi') (some mx')).run P w = .ok (l, h, m) w := by
  have h2 := fun code => run_bound (P := P) (w := w) rh hh hc code
  have h3 := fun code => run_bound (P := P) (w := w) rm hm hmc code
  cases lo with
  | none => cases hl; obtain rfl := rl; simp [Instr.sliceBounds, h2, h3]
  | some x =>
    obtain ⟨v, rfl, rv⟩ := rl
    have h1 := fun code => run_bound (P := P) (w := w) rv hl hlh code
    simp [Instr.sliceBounds, h1, h2, h3]

theorem room (o k l c es z : Nat) (hlc : l ≤ c) (h : o + k + c * es ≤ z) : o + (k + l * es) + (c - l) * es ≤ z := by
  have : l * es + (c - l) * es = c * es := by rw [← Nat.add_mul]; congr 1; omega
  omega

/-- where a cut lies -/
theorem cut_VR {i k es l h c c' cap' : Nat} {a : Addr} {ex' : Bool} (hcc : c' ≤ c)
    (ha : c = 0 ∨ ∃ b o z, φ i = some (b, o, z) ∧ a = ⟨b, o + k, none⟩ ∧ o + k + c * es ≤ z) (hh : h - l ≤ cap') (hlc : l ≤ c') (hcap : cap' ≤ c' - l ∧ (ex' = true → c' - l = cap')) :
    VR φ (.slice i (k + l * es) es (h - l) cap' ex') (.slice (some (if c' = l then a else a.add (l * es))) (h - l) (c' - l)) := by
  refine ⟨_, _, rfl, hh, hcap, ?_⟩
  by_cases e : c' = l
  · left; omega
  · right
    obtain ⟨b, o, z, hφ, rfl, hb⟩ := ha.resolve_left (by omega)
    rw [if_neg e, add_none]
    have := room o k l c' es z hlc (Nat.le_trans (by have := Nat.mul_le_mul_right es hcc; omega) hb)
    exact ⟨b, o, z, hφ, by rw [Nat.add_assoc], this⟩

theorem sliceA_spec (hW : WR w0 Pr φ H w) {t : TypeId} {x : AV} {u : Value} {lo hi mx : Option AV} {lo' hi' mx' : Option Value} {v : AV} (r : VR φ x u) (rl : OVR φ lo lo') (rh : OVR φ hi hi') (rm : OVR φ mx mx')
    (hs : sliceA P t H x lo hi mx = some v) : ∃ y, (Instr.sliceAt t u lo' hi' mx').run P w = .ok y w ∧ VR φ v y := by
  unfold sliceA at hs
  split at hs
  · rename_i elem i k es len cap ex hu
    split at hs
    · rename_i l h hl hh
      obtain ⟨a, c, rfl, hlc, ⟨hcap, hex⟩, ha⟩ := r
      split at hs
      · split at hs
        · rename_i hc
          obtain ⟨hlh, hhc, hes⟩ := hc
          simp only [Option.map_eq_some_iff] at hs
          obtain ⟨ti, hti, rfl⟩ := hs
          obtain rfl := rm
          have hhc' : h ≤ c := by omega
          refine ⟨_, ?_, cut_VR (Nat.le_refl c) ha (by omega) (by omega) ⟨by omega, fun e => by have := hex e; omega⟩⟩
          · simp only [Instr.sliceAt, Instr.slice, Sem.run_bind, run_und hu, Result.andThen_ok, run_bounds rl rh hl hh hlh hhc', run_size hti, hes, Sem.run_pure]
            by_cases e : c = l <;> simp [e]
        · cases hs
      · rename_i m
        split at hs
        · rename_i m hm
          split at hs
          · rename_i hc
            obtain ⟨hhi, hlh, hhm, hmc, hes⟩ := hc
            simp only [Option.map_eq_some_iff] at hs
            obtain ⟨ti, hti, rfl⟩ := hs
            obtain ⟨um, rfl, rum⟩ := rm
            cases hi with
            | none => cases hhi
            | some xh =>
              obtain ⟨uh, rfl, ruh⟩ := rh
              rw [boundA_some] at hh
              have hmc' : m ≤ c := by omega
              refine ⟨_, ?_, cut_VR hmc' ha (by omega) (by omega) ⟨by omega, fun _ => rfl⟩⟩
              simp only [Instr.sliceAt, Instr.slice, Sem.run_bind, run_und hu, Result.andThen_ok, run_bounds_max rl ruh rum hl hh hm hlh hhm hmc', run_size hti, hes, Sem.run_pure]
              by_cases e : m = l <;> simp [e]
          · cases hs
        · cases hs
    · cases hs
  · rename_i elem hu
    split at hs
    · rename_i hl hh
      simp only [Option.map_eq_some_iff] at hs
      obtain ⟨ti, hti, rfl⟩ := hs
      obtain rfl := rm
      simp only [VR] at r; subst r
      refine ⟨_, ?_, rfl⟩
      simp only [Instr.sliceAt, Instr.slice, Sem.run_bind, run_und hu, Result.andThen_ok, run_bounds rl rh hl hh (Nat.le_refl 0) (Nat.le_refl 0), run_size hti, Sem.run_pure]
      simp
    · cases hs
  · rename_i n elem i k hu
    split at hs
    · rename_i l h cs e' hl hh hi'
      split at hs
      · rename_i hc
        obtain ⟨hlh, hhn, hk⟩ := hc
        simp only [Option.map_eq_some_iff] at hs
        obtain ⟨ti, hti, rfl⟩ := hs
        obtain rfl := rm
        obtain ⟨b, o, z, hφ, rfl⟩ := r
        obtain ⟨b', o', z', c, hφ', _, _, hlz, _⟩ := hW.obj i _ hi'
        rw [hφ] at hφ'; cases hφ'
        refine ⟨_, ?_, cut_VR (Nat.le_refl n) (a := ⟨b, o + k, none⟩) (.inr ⟨b, o, _, hφ, rfl, by omega⟩) (by omega) (by omega) ⟨by omega, fun _ => rfl⟩⟩
        simp only [Instr.sliceAt, Sem.run_bind, run_und hu, Result.andThen_ok, Instr.sureAddr, run_bounds rl rh hl hh hlh hhn, run_size hti, Sem.run_pure]
      · cases hs
    · cases hs
  · cases hs

/-! aggregates -/
def fillA (place : Nat → Option (Nat × Nat)) (cells : List AV) : List (Nat × AV) → Option (List AV)
  | [] => some cells
  | (i, v) :: rest =>
    match place i with
    | none => none
    | some (off, size) => if v.cells.length ≠ size ∨ off + v.cells.length > cells.length then none else fillA place (spl cells off v.cells) rest

def PVR (φ : Env) : List (Nat × AV) → List (Nat × Value) → Prop
  | [], l => l = []
  | (i, x) :: xs, l => ∃ u us, l = (i, u) :: us ∧ VR φ x u ∧ PVR φ xs us

theorem splice_VRs : ∀ (xs : List AV) (vs : List Value) (cs : List AV) (us : Array Value) (off n : Nat), VRs φ xs vs → VRs φ cs us.toList →
    VRs φ (spl cs (off + n) xs) ((vs.zipIdx n).foldl (fun cs (c, j) => cs.setIfInBounds (off + j) c) us).toList
  | [], vs, cs, us, off, n, r, rc => by rw [show vs = [] from r]; exact rc
  | x :: xs, _, cs, us, off, n, ⟨v, vs, e, rx, rs⟩, rc => by
    subst e
    simp only [spl, List.zipIdx_cons, List.foldl_cons]
    have := splice_VRs xs vs (cs.set (off + n) x) (us.setIfInBounds (off + n) v) off (n + 1) rs (by simpa using rc.set (off + n) rx)
    exact this

theorem fillA_spec {place : Nat → Option (Nat × Nat)} : ∀ (ps : List (Nat × AV)) (qs : List (Nat × Value)) (cs : List AV) (us : Array Value) (res : List AV), PVR φ ps qs → VRs φ cs us.toList →
    fillA place cs ps = some res → ∃ out : Array Value, Instr.fill place us qs = some out ∧ VRs φ res out.toList
  | [], qs, cs, us, res, r, rc, h => by
    rw [show qs = [] from r]
    simp only [fillA, Option.some.injEq] at h; subst h
    exact ⟨us, rfl, rc⟩
  | (i, x) :: ps, _, cs, us, res, ⟨v, qs, e, rx, rs⟩, rc, h => by
    subst e
    simp only [fillA] at h
    split at h
    · cases h
    · rename_i off size hpl
      split at h
      · cases h
      · rename_i hc
        have hsz : v.cells.size = x.cells.length := by rw [rx.cells.length]; simp
        have hul : us.size = cs.length := by rw [rc.length]; simp
        have hcs := splice_VRs x.cells v.cells.toList cs us off 0 rx.cells rc
        rw [Nat.add_zero] at hcs
        obtain ⟨out, ho, ro⟩ := fillA_spec ps qs _ (v.cells.zipIdx.foldl (fun cs (c, j) => cs.setIfInBounds (off + j) c) us) res rs (by
          rw [← Array.foldl_toList, Array.toList_zipIdx]; exact hcs) h
        refine ⟨out, ?_, ro⟩
        simp only [Instr.fill, hpl]
        rw [if_neg (by simp; omega)]
        exact ho

end
end Go.Dv

/- Aggregates, made slices, append, copy on abstract states, held against the model's own (own work). -/

namespace Go.Dv

/-- the places of a type's parts -/
def placesA (P : Program) (t : TypeId) : Option (Nat → Option (Nat × Nat)) :=
  match P.underlying t with
  | some (.struct fs) => if fs.toList.all (fun f => (P.info? f.type).isSome) = true then some fun i => (fs[i]?).map fun f => (f.offset, P.cellsOf f.type) else none
  | some (.array _ elem) => (P.info? elem).map fun _ => fun i => some (i * P.cellsOf elem, P.cellsOf elem)
  | _ => none

def buildA (P : Program) (t : TypeId) (ps : List (Nat × AV)) : Option AV :=
  (zeroA P t).bind fun z => (placesA P t).bind fun pl => (fillA pl z.cells ps).map .agg

def zrow (zs : List AV) (n : Nat) : List AV := (List.range n).map fun j => zs.getD (j % zs.length) undefA

def sliceElem (P : Program) (t : TypeId) : Option TypeId :=
  match P.underlying t with
  | some (.slice e) => some e
  | _ => none

def buildSliceA (P : Program) (slot : Option Nat) (t : TypeId) (len : Nat) (ps : List (Nat × AV)) (H : AH) : Option (AV × AH) :=
  (sliceElem P t).bind fun elem => (zeroA P elem).bind fun z =>
    if len * P.cellsOf elem ≤ 2 ^ 24 ∧ z.cells ≠ [] then
      (fillA (fun i => some (i * P.cellsOf elem, P.cellsOf elem)) (zrow z.cells (len * P.cellsOf elem)) ps).bind fun cs =>
        (put slot H (.cells cs elem)).map fun (i, H') => (.slice i 0 (P.cellsOf elem) len len true, H')
    else none

def makeSliceA (P : Program) (slot : Option Nat) (t : TypeId) (l c : AV) (H : AH) : Option (AV × AH) :=
  match l, c with
  | .int _ l, .int _ c =>
    (sliceElem P t).bind fun elem => (zeroA P elem).bind fun z =>
      if 0 ≤ l ∧ l ≤ c ∧ c < 2 ^ 62 ∧ P.bytesOf elem * c ≤ 2 ^ 48 ∧ z.cells ≠ [] then
        (put slot H (.cells (zrow z.cells (c.toNat * P.cellsOf elem)) elem)).map fun (i, H') => (.slice i 0 (P.cellsOf elem) l.toNat c.toNat true, H')
      else none
  | _, _ => none

section
variable {P : Program} {w0 : World} {Pr : Nat → Prop} {φ : Env} {H : AH} {w : World}

theorem run_mapM_places : ∀ (fs : List Field), (fs.all fun f => (P.info? f.type).isSome) = true →
    (fs.mapM fun (f : Field) => do pure (f.offset, ← sizeOf f.type) : Sem (List (Nat × Nat))).run P w = .ok (fs.map fun f => (f.offset, P.cellsOf f.type)) w
  | [], _ => rfl
  | f :: fs, h => by
    simp only [List.all_cons, Bool.and_eq_true] at h
    obtain ⟨ti, hti⟩ := Option.isSome_iff_exists.1 h.1
    have ih := run_mapM_places fs h.2
    simp only [List.mapM_cons, Sem.run_bind, run_size hti, Result.andThen_ok, Sem.run_pure, ih, List.map_cons]

theorem buildA_spec {t : TypeId} {ps : List (Nat × AV)} {qs : Array (Nat × Value)} {v : AV} (r : PVR φ ps qs.toList) (h : buildA P t ps = some v) :
    ∃ y, (Instr.build t qs).run P w = .ok y w ∧ VR φ v y := by
  simp only [buildA, Option.bind_eq_some_iff, Option.map_eq_some_iff] at h
  obtain ⟨z, hz, pl, hpl, cs, hcs, rfl⟩ := h
  obtain ⟨ti, zv, hti, hzv, rz⟩ := zeroA_spec hz φ
  unfold placesA at hpl
  split at hpl
  · rename_i fs hu
    split at hpl
    · rename_i hall
      cases hpl
      obtain ⟨out, ho, ro⟩ := fillA_spec (place := fun i => (fs[i]?).map fun f => (f.offset, P.cellsOf f.type)) ps qs.toList _ zv.cells cs r rz.cells hcs
      refine ⟨.agg out, ?_, out, rfl, ro⟩
      have hm := run_mapM_places (P := P) (w := w) fs.toList hall
      have hg : (fun (i : Nat) => (fs.toList.map fun (f : Field) => (f.offset, P.cellsOf f.type)).toArray[i]?) = fun (i : Nat) => (fs[i]?).map fun (f : Field) => (f.offset, P.cellsOf f.type) := by
        funext i; simp
      simp only [Instr.build, Sem.run_bind, run_zero hti hzv, Result.andThen_ok, run_und hu, Array.mapM_eq_mapM_toList, Sem.run_map, hm, hg, ho, Sem.run_pure]
    · cases hpl
  · rename_i n elem hu
    simp only [Option.map_eq_some_iff] at hpl
    obtain ⟨ei, hei, rfl⟩ := hpl
    obtain ⟨out, ho, ro⟩ := fillA_spec (place := fun i => some (i * P.cellsOf elem, P.cellsOf elem)) ps qs.toList _ zv.cells cs r rz.cells hcs
    refine ⟨.agg out, ?_, out, rfl, ro⟩
    simp only [Instr.build, Sem.run_bind, run_zero hti hzv, Result.andThen_ok, run_und hu, run_size hei, ho, Sem.run_pure]
  · cases hpl

theorem zrow_VRs {zs : List AV} {us : Array Value} (n : Nat) (r : VRs φ zs us.toList) (hne : zs ≠ []) :
    VRs φ (zrow zs n) ((Array.range n).map (us[· % us.size]!)).toList := by
  have hlen : zs.length = us.size := by simpa using r.length
  have hpos : 0 < zs.length := by cases zs with | nil => exact absurd rfl hne | cons => simp
  refine .of_get (by simp [zrow]) fun j x v hx hv => ?_
  have hj : j < n := by simpa [zrow] using lt_of_get hx
  have hm : j % zs.length < zs.length := Nat.mod_lt _ hpos
  have hx' : x = zs[j % zs.length] := by
    simp [zrow, hj, List.getD, List.getElem?_eq_getElem hm] at hx; exact hx.symm
  obtain ⟨u, hu, ru⟩ := r.get (j % zs.length) _ (List.getElem?_eq_getElem hm)
  have hv' : v = us[j % us.size]! := by simp [hj] at hv; exact hv.symm
  rw [hx', hv', ← hlen]
  have : us[j % zs.length]! = u := by
    have h' : us[j % zs.length]? = some u := by simpa using hu
    rw [getElem!_def, h']
  rw [this]; exact ru

theorem sliceElem_spec {t e : TypeId} (h : sliceElem P t = some e) : P.underlying t = some (.slice e) := by
  unfold sliceElem at h
  split at h
  · rename_i hu; cases h; exact hu
  · cases h

theorem buildSliceA_spec (hW : WR w0 Pr φ H w) {slot : Option Nat} {t : TypeId} {len : Nat} {ps : List (Nat × AV)} {qs : Array (Nat × Value)} {v : AV} {H' : AH} (r : PVR φ ps qs.toList)
    (h : buildSliceA P slot t len ps H = some (v, H')) :
    ∃ φ' w' y, φ.le φ' ∧ WR w0 Pr φ' H' w' ∧ (Instr.buildSlice t len qs).run P w = .ok y w' ∧ VR φ' v y := by
  simp only [buildSliceA, Option.bind_eq_some_iff] at h
  obtain ⟨elem, hel, z, hz, h⟩ := h
  split at h
  · rename_i hc
    obtain ⟨hlim, hne⟩ := hc
    simp only [Option.bind_eq_some_iff, Option.map_eq_some_iff] at h
    obtain ⟨cs, hcs, ⟨i, H1⟩, hp, hv⟩ := h
    cases hv
    obtain ⟨ti, zv, hti, hzv, rz⟩ := zeroA_spec hz φ
    have hu := sliceElem_spec hel
    have key : ∀ arr : Array Value, VRs φ (zrow z.cells (len * P.cellsOf elem)) arr.toList → ∃ φ' w' y, φ.le φ' ∧ WR w0 Pr φ' H1 w' ∧
        ((do let some cells := Instr.fill (fun i => some (i * P.cellsOf elem, P.cellsOf elem)) arr qs.toList | stuck "buildSlice: a part of the wrong size"
             pure (.slice (some (← newRow elem cells)) len len)) : Sem Value).run P w = .ok y w' ∧ VR φ' (.slice i 0 (P.cellsOf elem) len len true) y := by
      intro arr ra
      obtain ⟨out, ho, ro⟩ := fillA_spec ps qs.toList _ arr cs r ra hcs
      obtain ⟨φ', w', hle, hW', hrun, hφ'⟩ := new_spec (P := P) hW hp ro
      refine ⟨φ', w', _, hle, hW', ?_, _, len, rfl, Nat.le_refl _, ⟨Nat.le_refl _, fun _ => rfl⟩, .inr ⟨w.heap.size, 0, out.size, hφ', rfl, ?_⟩⟩
      · simp only [ho, Sem.run_bind, hrun, Result.andThen_ok, Sem.run_pure]
      · have h1 : out.size = cs.length := by rw [ro.length]; simp
        have h2 : cs.length = (zrow z.cells (len * P.cellsOf elem)).length := by
          clear hp hW' hrun hφ' ho ro
          exact fillA_length ps _ _ hcs
        rw [h1, h2]; simp [zrow]
    by_cases h0 : len * P.cellsOf elem = 0
    · obtain ⟨φ', w', y, h1, h2, h3, h4⟩ := key ((Array.range (len * P.cellsOf elem)).map ((#[] : Array Value)[· % (#[] : Array Value).size]!)) (by rw [h0]; simp [zrow]; exact rfl)
      refine ⟨φ', w', y, h1, h2, ?_, h4⟩
      rw [← h3]
      have hnl : ¬ (len * P.cellsOf elem > 2 ^ 24) := by omega
      simp only [Instr.buildSlice, Sem.run_bind, run_und hu, Result.andThen_ok, run_size hti, if_neg hnl, if_pos h0, Sem.run_pure]
      rfl
    · obtain ⟨φ', w', y, h1, h2, h3, h4⟩ := key _ (zrow_VRs (len * P.cellsOf elem) rz.cells hne)
      refine ⟨φ', w', y, h1, h2, ?_, h4⟩
      rw [← h3]
      have hnl : ¬ (len * P.cellsOf elem > 2 ^ 24) := by omega
      simp only [Instr.buildSlice, Sem.run_bind, run_und hu, Result.andThen_ok, run_size hti, if_neg hnl, if_neg h0, run_zero hti hzv, Sem.run_pure]
      rfl
  · cases h
where
  fillA_length : ∀ (ps : List (Nat × AV)) {place : Nat → Option (Nat × Nat)} (cs res : List AV), fillA place cs ps = some res → res.length = cs.length
    | [], _, cs, res, h => by simp only [fillA, Option.some.injEq] at h; rw [h]
    | (i, v) :: ps, place, cs, res, h => by
      simp only [fillA] at h
      split at h
      · cases h
      · split at h
        · cases h
        · rw [fillA_length ps _ _ h, spl_length]

end
end Go.Dv

/- make, append, copy, len on abstract states, held against the model's own (own work). -/

namespace Go.Dv

/-- The cells of what is appended or copied, and how many elements they are. -/
def srcA (H : AH) (size : Nat) : AV → Option (Nat × (Nat → Option (List AV)))
  | .slice i k es len _ _ => if es = size then some (len, fun n => if n ≤ len then rdCells H i k (n * size) else none) else none
  | .nilSlice => some (0, fun _ => some [])
  | .str s => if size = 1 then some (s.size, fun n => some ((s.extract 0 n).data.toList.map fun b => .int .u8 b.toNat)) else none
  | _ => none

def growOk (bytes need : Nat) : Bool := (2 * need + 400) * bytes ≤ 2 ^ 48 && need < 2 ^ 62

def zerosA (P : Program) (xT : Option TypeId) : Bool :=
  match xT with | some t => (match P.underlying t with | some (.int _) => true | some _ => false | none => true) | none => false

def appendA (P : Program) (slot : Option Nat) (sT : TypeId) (xT : Option TypeId) (s x : AV) (H : AH) : Option (AV × AH) :=
  if zerosA P xT = true then none else
  (sliceElem P sT).bind fun elem => (zeroA P elem).bind fun z => (srcA H (P.cellsOf elem) x).bind fun (n, f) => (f n).bind fun new =>
    if z.cells.length = P.cellsOf elem ∧ z.cells ≠ [] then
      match s with
      | .nilSlice => if n = 0 then some (.nilSlice, H) else
        if growOk (P.bytesOf elem) n = true then (put slot H (.cells new elem)).map fun (i, H') => (.slice i 0 (P.cellsOf elem) n n false, H') else none
      | .slice i k es len cap ex =>
        if es = P.cellsOf elem then
          if n = 0 then some (.slice i k es len cap ex, H) else
          if len + n ≤ cap then
            if new.all AV.one = true then (wrCells H i (k + len * es) new).map fun H' => (.slice i k es (len + n) cap ex, H') else none
          else if ex = true then
            if growOk (P.bytesOf elem) (len + n) = true then
              (rdCells H i k (len * es)).bind fun old => (put slot H (.cells (old ++ new) elem)).map fun (j, H') => (.slice j 0 es (len + n) (len + n) false, H')
            else none
          else
            match H[i]? with
            | some (.cells _ e0) =>
              if e0 = elem ∧ new.all AV.one = true ∧ growOk (P.bytesOf elem) (len + n) = true then
                (rdCells H i k (len * es)).bind fun old => (put slot (H.set i .dead) (.cells (old ++ new) elem)).map fun (j, H') => (.slice j 0 es (len + n) (len + n) false, H')
              else none
            | _ => none
        else none
      | _ => none
    else none

def copyA (P : Program) (dT : TypeId) (d s : AV) (H : AH) : Option (AV × AH) :=
  (sliceElem P dT).bind fun elem => (P.info? elem).bind fun _ => (srcA H (P.cellsOf elem) s).bind fun (m, f) =>
    match d with
    | .nilSlice => some (.int .i64 0, H)
    | .slice i k es len _ _ => if es = P.cellsOf elem then
        (f (Nat.min m len)).bind fun cs => if Nat.min m len = 0 then some (.int .i64 0, H) else (wrCells H i k cs).map fun H' => (.int .i64 (Nat.min m len), H')
      else none
    | _ => none

section
variable {P : Program} {w0 : World} {Pr : Nat → Prop} {φ : Env} {H : AH} {w : World}

theorem makeSliceA_spec (hW : WR w0 Pr φ H w) {slot : Option Nat} {t : TypeId} {l c v : AV} {ul uc : Value} {H' : AH} (rl : VR φ l ul) (rc : VR φ c uc)
    (h : makeSliceA P slot t l c H = some (v, H')) :
    ∃ φ' w' y, φ.le φ' ∧ WR w0 Pr φ' H' w' ∧ (Instr.makeSlice t ul uc).run P w = .ok y w' ∧ VR φ' v y := by
  unfold makeSliceA at h
  split at h
  · rename_i kl l kc c
    simp only [Option.bind_eq_some_iff] at h
    obtain ⟨elem, hel, z, hz, h⟩ := h
    split at h
    · rename_i hc
      obtain ⟨h0, hlc, hc62, hb, hne⟩ := hc
      simp only [Option.map_eq_some_iff] at h
      obtain ⟨⟨i, H1⟩, hp, hv⟩ := h
      cases hv
      simp only [VR] at rl rc
      subst rl; subst rc
      obtain ⟨ti, zv, hti, hzv, rz⟩ := zeroA_spec hz φ
      have hu := sliceElem_spec hel
      have hbytes : P.bytesOf elem = ti.bytes := by simp [Program.bytesOf, hti]
      rw [hbytes] at hb
      have e1 : IntKind.i64.wrap l = l := IntWalk.i64_in l (by omega)
      have e2 : IntKind.i64.wrap c = c := IntWalk.i64_in c (by omega)
      have key : ∀ arr : Array Value, VRs φ (zrow z.cells (c.toNat * P.cellsOf elem)) arr.toList → ∃ φ' w' y, φ.le φ' ∧ WR w0 Pr φ' H1 w' ∧
          ((do let a ← newRow elem arr; pure (.slice (some a) l.toNat c.toNat)) : Sem Value).run P w = .ok y w' ∧ VR φ' (.slice i 0 (P.cellsOf elem) l.toNat c.toNat true) y := by
        intro arr ra
        obtain ⟨φ', w', hle, hW', hrun, hφ'⟩ := new_spec (P := P) hW hp ra
        refine ⟨φ', w', _, hle, hW', ?_, _, c.toNat, rfl, by omega, ⟨Nat.le_refl _, fun _ => rfl⟩, .inr ⟨w.heap.size, 0, arr.size, hφ', rfl, ?_⟩⟩
        · simp only [Sem.run_bind, hrun, Result.andThen_ok, Sem.run_pure]
        · have : arr.size = (zrow z.cells (c.toNat * P.cellsOf elem)).length := by rw [ra.length]; simp
          rw [this]; simp [zrow]
      have hnt : ¬ ((decide (c < 0) || decide ((ti.bytes : Int) * c > 2 ^ 48)) = true ∨ decide (l < 0) = true) := by simp; omega
      have hlt : ¬ (((decide (c < 0) || decide ((ti.bytes : Int) * c > 2 ^ 48)) || decide (l < 0) || decide (l > c)) = true) := by simp; omega
      by_cases hn : c.toNat * P.cellsOf elem = 0
      · obtain ⟨φ', w', y, h1, h2, h3, h4⟩ := key ((Array.range (c.toNat * P.cellsOf elem)).map ((#[] : Array Value)[· % (#[] : Array Value).size]!)) (by rw [hn]; simp [zrow]; exact rfl)
        refine ⟨φ', w', y, h1, h2, ?_, h4⟩
        rw [← h3]
        simp only [Instr.makeSlice, Sem.run_bind, run_und hu, Result.andThen_ok, asInt, asIntOf, Sem.run_pure, run_info hti, e1, e2, if_neg hlt, run_askRoom, run_size hti, if_pos hn]
      · obtain ⟨φ', w', y, h1, h2, h3, h4⟩ := key _ (zrow_VRs (c.toNat * P.cellsOf elem) rz.cells hne)
        refine ⟨φ', w', y, h1, h2, ?_, h4⟩
        rw [← h3]
        simp only [Instr.makeSlice, Sem.run_bind, run_und hu, Result.andThen_ok, asInt, asIntOf, Sem.run_pure, run_info hti, e1, e2, if_neg hlt, run_askRoom, run_size hti, if_neg hn, run_zero hti hzv]
    · cases h
  · cases h

theorem srcA_len {size : Nat} {x : AV} {u : Value} {n : Nat} {f : Nat → Option (List AV)} (r : VR φ x u) (h : srcA H size x = some (n, f)) : (Builtin.lenOf u).run P w = .ok n w := by
  unfold srcA at h
  split at h
  · split at h
    · cases h; obtain ⟨a, c, rfl, _⟩ := r; rfl
    · cases h
  · cases h; simp only [VR] at r; subst r; rfl
  · split at h
    · cases h; simp only [VR] at r; subst r; rfl
    · cases h
  · cases h

theorem srcA_cells (hW : WR w0 Pr φ H w) {size : Nat} {x : AV} {u : Value} {n m : Nat} {f : Nat → Option (List AV)} {cs : List AV} (r : VR φ x u) (h : srcA H size x = some (n, f)) (hm : m ≤ n) (hf : f m = some cs) :
    ∃ vs : List Value, VRs φ cs vs ∧ vs.length = m * size ∧ (Builtin.firstCells size m u).run P w = .ok vs.toArray w := by
  unfold srcA at h
  split at h
  · rename_i i k es len cap ex
    split at h
    · rename_i hes
      subst hes
      simp only [Option.some.injEq, Prod.mk.injEq] at h
      obtain ⟨rfl, rfl⟩ := h
      simp only [if_pos hm] at hf
      obtain ⟨a, c, rfl, hlc, hcc, ha⟩ := r
      by_cases hc0 : c = 0
      · have hm0 : m = 0 := by omega
        subst hm0
        have hcs : cs = [] := by
          have hl : cs.length = 0 := by
            unfold rdCells at hf
            split at hf
            · split at hf
              · cases hf; simp
              · cases hf
            · split at hf
              · cases hf; simp
              · cases hf
            · cases hf
          exact List.length_eq_zero_iff.1 hl
        subst hcs
        refine ⟨[], rfl, by simp, ?_⟩
        simp only [Builtin.firstCells, Nat.zero_mul]
        rfl
      obtain ⟨b, o, z, hφ, rfl, _⟩ := ha.resolve_left hc0
      obtain ⟨vs, rs, hlen, hc⟩ := hW.read hφ hf
      refine ⟨vs, rs, hlen, ?_⟩
      simp only [Builtin.firstCells]
      rw [← hlen]
      refine run_loadCells_list w _ vs fun j v hj => ?_
      rw [add_none]; exact hc j v hj
    · cases h
  · simp only [Option.some.injEq, Prod.mk.injEq] at h
    obtain ⟨rfl, rfl⟩ := h
    simp only [Option.some.injEq] at hf
    subst hf
    simp only [VR] at r; subst r
    exact ⟨[], rfl, by simp at hm; simp [hm], rfl⟩
  · split at h
    · rename_i s hs
      subst hs
      simp only [Option.some.injEq, Prod.mk.injEq] at h
      obtain ⟨rfl, rfl⟩ := h
      simp only [Option.some.injEq] at hf
      subst hf
      simp only [VR] at r; subst r
      refine ⟨(s.extract 0 m).data.toList.map fun b => .int .u8 b.toNat, ?_, ?_, ?_⟩
      · exact .of_get (by simp) fun j x v hx hv => by
          simp only [List.getElem?_map] at hx hv
          cases hq : (s.extract 0 m).data.toList[j]? with
          | none => rw [hq] at hx; cases hx
          | some q => rw [hq] at hx hv; cases hx; cases hv; rfl
      · simp only [List.length_map, Array.length_toList]
        have : (s.extract 0 m).data.size = (s.extract 0 m).size := rfl
        rw [this, ByteArray.size_extract]; omega
      · simp only [Builtin.firstCells, Sem.run_pure]
        congr 1
        apply Array.toList_inj.1
        simp [Array.toList_extract, List.extract_eq_take_drop]
    · cases h
  · cases h

end
end Go.Dv

/- append and copy on abstract states, held against the model's own (own work). -/

namespace Go.Dv

theorem growBy_le (need : Nat) : ∀ (r c : Nat), Builtin.growBy need r c ≤ max c (need + (need + 768) / 4)
  | 0, c => by simp only [Builtin.growBy]; omega
  | r + 1, c => by
    simp only [Builtin.growBy]
    split
    · omega
    · have := growBy_le need r (c + (c + 768) / 4)
      omega

theorem next_le {need c : Nat} (h : c < need) : Builtin.nextslicecap need c ≤ 2 * need + 400 := by
  unfold Builtin.nextslicecap
  split
  · omega
  · split
    · omega
    · have := growBy_le need 4 c; omega

section
variable {P : Program} {w0 : World} {Pr : Nat → Prop} {φ : Env} {H : AH} {w : World}

theorem zeros_cases {xT : Option TypeId} (h : zerosA P xT = false) : xT = none ∨ ∃ t d, xT = some t ∧ P.underlying t = some d ∧ ∀ k, d ≠ .int k := by
  cases xT with
  | none => exact .inl rfl
  | some t =>
    unfold zerosA at h
    simp only at h
    split at h
    · cases h
    · rename_i d hd hu
      exact .inr ⟨t, d, rfl, hu, hd⟩
    · cases h

theorem run_append_room {sT elem : TypeId} {xT : Option TypeId} {argTypes : Array TypeId} {args : Array Value} {ty : TypeId} {base : Option Addr} {sLen sCap n : Nat} {x : Value} {ti : TypeInfo} {new : List Value} {w' : World}
    (h0 : argTypes[0]? = some sT) (h1 : argTypes[1]? = xT) (ha0 : args[0]? = some (.slice base sLen sCap)) (ha1 : args[1]? = some x) (hu : P.underlying sT = some (.slice elem)) (hti : P.info? elem = some ti)
    (hz : zerosA P xT = false) (hn : (Builtin.lenOf x).run P w = .ok n w) (hnew : (Builtin.firstCells (P.cellsOf elem) n x).run P w = .ok new.toArray w) (hroom : sLen + n ≤ sCap)
    (hst : match base with | some a => (storeCells (a.add (sLen * P.cellsOf elem)) new).run P w = .ok () w' | none => w' = w) :
    (Builtin.append_ argTypes ty args).run P w = .ok (.slice base (sLen + n) sCap) w' := by
  rcases zeros_cases hz with rfl | ⟨t, d, rfl, hd, hdm⟩
  · cases base with
    | none =>
      subst hst
      simp only [Builtin.append_, h0, h1, ha0, ha1, Sem.run_bind, run_und hu, Result.andThen_ok, run_size hti, Bool.false_eq_true, if_false, hn, Sem.run_ite, if_pos hroom, Bool.not_false, if_true, hnew, Sem.run_pure]
    | some a =>
      simp only at hst
      simp only [Builtin.append_, h0, h1, ha0, ha1, Sem.run_bind, run_und hu, Result.andThen_ok, run_size hti, Bool.false_eq_true, if_false, hn, Sem.run_ite, if_pos hroom, Bool.not_false, if_true, hnew, hst, Sem.run_pure]
  · cases base with
    | none =>
      subst hst
      simp only [Builtin.append_, h0, h1, ha0, ha1, Sem.run_bind, run_und hu, run_und hd, Result.andThen_ok, run_size hti, Bool.false_eq_true, if_false, hn, Sem.run_ite, if_pos hroom, Bool.not_false, if_true, hnew, Sem.run_pure]
    | some a =>
      simp only at hst
      simp only [Builtin.append_, h0, h1, ha0, ha1, Sem.run_bind, run_und hu, run_und hd, Result.andThen_ok, run_size hti, Bool.false_eq_true, if_false, hn, Sem.run_ite, if_pos hroom, Bool.not_false, if_true, hnew, hst, Sem.run_pure]

theorem run_append_grow {sT elem : TypeId} {xT : Option TypeId} {argTypes : Array TypeId} {args : Array Value} {ty : TypeId} {base : Option Addr} {sLen sCap n : Nat} {x zv : Value} {ti : TypeInfo} {old new : List Value}
    (h0 : argTypes[0]? = some sT) (h1 : argTypes[1]? = xT) (ha0 : args[0]? = some (.slice base sLen sCap)) (ha1 : args[1]? = some x) (hu : P.underlying sT = some (.slice elem)) (hti : P.info? elem = some ti) (hzv : ti.zero = some zv)
    (hz : zerosA P xT = false) (hn : (Builtin.lenOf x).run P w = .ok n w)
    (hold : (Builtin.firstCells (P.cellsOf elem) sLen (.slice base sLen sCap)).run P { w with drawn := w.drawn + 1 } = .ok old.toArray { w with drawn := w.drawn + 1 })
    (hnew : (Builtin.firstCells (P.cellsOf elem) n x).run P { w with drawn := w.drawn + 1 } = .ok new.toArray { w with drawn := w.drawn + 1 })
    (hroom : ¬ sLen + n ≤ sCap) (hg : growOk (P.bytesOf elem) (sLen + n) = true) :
    ∃ newCap, sLen + n ≤ newCap ∧ (Builtin.append_ argTypes ty args).run P w =
      (((newRow elem (old.toArray ++ new.toArray ++ Builtin.zeroCells zv.cells (newCap - (sLen + n)))).run P { w with drawn := w.drawn + 1 }).andThen fun a w' => .ok (.slice (some a) (sLen + n) newCap) w') := by
  simp only [growOk, Bool.and_eq_true, decide_eq_true_eq] at hg
  have hbytes : P.bytesOf elem = ti.bytes := by simp [Program.bytesOf, hti]
  rw [hbytes] at hg
  have hb : ¬ (Builtin.nextslicecap (sLen + n) sCap * ti.bytes > 2 ^ 48) := by
    have h2 := next_le (need := sLen + n) (c := sCap) (by omega)
    have h3 := Nat.mul_le_mul_right ti.bytes h2
    have := hg.1
    omega
  have hmax : ¬ (((sLen + n : Nat) : Int) > IntKind.i64.max) := by
    have : IntKind.i64.max = 9223372036854775807 := by decide
    rw [this]; have := hg.2; omega
  refine ⟨(Question.appendCap (sLen + n) sCap elem).cut (w.tape w.drawn (.appendCap (sLen + n) sCap elem)), by simp [Question.cut], ?_⟩
  rcases zeros_cases hz with rfl | ⟨t, d, rfl, hd, hdm⟩
  · simp only [Builtin.append_, h0, h1, ha0, ha1, Sem.run_bind, run_und hu, Result.andThen_ok, run_size hti, Bool.false_eq_true, if_false, hn, Sem.run_ite, if_neg hroom, Bool.not_false, if_true, run_info hti, hmax, false_and, if_neg hb, run_choose,
      Question.forced, run_askRoom, hold, hnew, run_zero hti hzv, Sem.run_pure]
  · simp only [Builtin.append_, h0, h1, ha0, ha1, Sem.run_bind, run_und hu, run_und hd, Result.andThen_ok, run_size hti, Bool.false_eq_true, if_false, hn, Sem.run_ite, if_neg hroom, Bool.not_false, if_true, run_info hti, hmax, false_and, if_neg hb, run_choose,
      Question.forced, run_askRoom, hold, hnew, run_zero hti hzv, Sem.run_pure]

theorem zeroCells_size (z : Array Value) (n : Nat) : (Builtin.zeroCells z n).size = n * z.size := by simp [Builtin.zeroCells]

theorem appendA_spec (hW : WR w0 Pr φ H w) {slot : Option Nat} {sT : TypeId} {xT : Option TypeId} {argTypes : Array TypeId} {args : Array Value} {ty : TypeId} {s x v : AV} {us ux : Value} {H' : AH}
    (h0 : argTypes[0]? = some sT) (h1 : argTypes[1]? = xT) (ha0 : args[0]? = some us) (ha1 : args[1]? = some ux) (rs : VR φ s us) (rx : VR φ x ux) (h : appendA P slot sT xT s x H = some (v, H')) :
    ∃ φ' w' y, φ.le φ' ∧ WR w0 Pr φ' H' w' ∧ (Builtin.append_ argTypes ty args).run P w = .ok y w' ∧ VR φ' v y := by
  unfold appendA at h
  split at h
  · cases h
  rename_i hz
  have hz' : zerosA P xT = false := by simpa using hz
  simp only [Option.bind_eq_some_iff] at h
  obtain ⟨elem, hel, z, hzA, ⟨n, f⟩, hsrc, new, hnew, h⟩ := h
  have hu := sliceElem_spec hel
  obtain ⟨ti, zv, hti, hzv, rz⟩ := zeroA_spec hzA φ
  have hlen := srcA_len (P := P) (w := w) rx hsrc
  obtain ⟨nvs, rnew, hnl, hnrun⟩ := srcA_cells (P := P) hW rx hsrc (Nat.le_refl n) hnew
  have hWd := hW.drew (w.drawn + 1)
  obtain ⟨nvs', rnew', hnl', hnrun'⟩ := srcA_cells (P := P) hWd rx hsrc (Nat.le_refl n) hnew
  have hnl2 : new.length = n * P.cellsOf elem := by rw [rnew.length]; exact hnl
  split at h
  case isFalse => cases h
  rename_i hzl
  have hzs : zv.cells.size = P.cellsOf elem := by have := rz.cells.length; rw [hzl.1] at this; simpa using this.symm
  -- the grown row
  have grow : ∀ (H1 : AH) (base : Option Addr) (sLen sCap : Nat) (old : List AV) (ovs : List Value) (j : Nat) (H2 : AH), us = .slice base sLen sCap → WR w0 Pr φ H1 { w with drawn := w.drawn + 1 } → VRs φ old ovs → ovs.length = sLen * P.cellsOf elem →
      (Builtin.firstCells (P.cellsOf elem) sLen us).run P { w with drawn := w.drawn + 1 } = .ok ovs.toArray { w with drawn := w.drawn + 1 } → ¬ sLen + n ≤ sCap → growOk (P.bytesOf elem) (sLen + n) = true →
      put slot H1 (.cells (old ++ new) elem) = some (j, H2) →
      ∃ φ' w' y, φ.le φ' ∧ WR w0 Pr φ' H2 w' ∧ (Builtin.append_ argTypes ty args).run P w = .ok y w' ∧ VR φ' (.slice j 0 (P.cellsOf elem) (sLen + n) (sLen + n) false) y := by
    intro H1 base sLen sCap old ovs j H2 hus hW1 rold hol hrun hroom hg hp
    subst hus
    obtain ⟨newCap, hnc, happ⟩ := run_append_grow (P := P) (w := w) (ty := ty) h0 h1 ha0 ha1 hu hti hzv hz' hlen hrun hnrun' hroom hg
    have hn := (put_spec hW1 hp).1
    have hsz : (ovs.toArray ++ nvs'.toArray ++ Builtin.zeroCells zv.cells (newCap - (sLen + n))).size = newCap * P.cellsOf elem := by
      simp only [Array.size_append, List.size_toArray, zeroCells_size, hol, hnl', hzs]
      rw [← Nat.add_mul, ← Nat.add_mul]; congr 1; omega
    obtain ⟨hle, hW2⟩ := hW1.alloc hp (.cells (ovs.toArray ++ nvs'.toArray ++ Builtin.zeroCells zv.cells (newCap - (sLen + n))) elem) (newCap * P.cellsOf elem)
      ⟨w.heap.size, 0, newCap * P.cellsOf elem, _, Env.set_self _ _ _, by simp, hsz, by
        simp only [List.length_append, hnl2, rold.length, hol]
        rw [Nat.zero_add, ← Nat.add_mul]; exact Nat.mul_le_mul_right _ hnc, fun k y hk => by
        obtain ⟨u, hu', ru⟩ := (rold.append rnew').get k y hk
        refine ⟨u, ?_, ru.mono (Env.le_set _ hn)⟩
        have hkl := lt_of_get hu'
        rw [Nat.zero_add, Array.getElem?_append_left (by simpa using hkl)]
        simpa using hu'⟩ rfl
    refine ⟨_, _, _, hle, hW2, ?_, ⟨w.heap.size, 0, none⟩, newCap, rfl, Nat.le_refl _, ⟨hnc, fun e => (by cases e)⟩, .inr ⟨w.heap.size, 0, newCap * P.cellsOf elem, Env.set_self _ _ _, rfl, by omega⟩⟩
    rw [happ]
    rfl
  split at h
  · -- nil
    simp only [VR] at rs; subst rs
    split at h
    · rename_i hn0
      cases h
      subst hn0
      refine ⟨φ, w, _, Env.le_refl φ, hW, run_append_room (base := none) (sLen := 0) (sCap := 0) (n := 0) (w' := w) h0 h1 ha0 ha1 hu hti hz' hlen hnrun (Nat.le_refl 0) rfl, rfl⟩
    · rename_i hn0
      split at h
      · rename_i hg
        simp only [Option.map_eq_some_iff] at h
        obtain ⟨⟨j, H2⟩, hp, hv⟩ := h
        cases hv
        have := grow H none 0 0 [] [] j H2 rfl hWd (.nil φ) (by simp) rfl (by omega) (by simpa using hg) (by simpa using hp)
        simpa using this
      · cases h
  · rename_i i k es len cap ex
    split at h
    case isFalse => cases h
    rename_i hes
    subst hes
    obtain ⟨a, c, rfl, hlc, ⟨hcap, hex⟩, ha⟩ := rs
    split at h
    · rename_i hn0
      cases h
      subst hn0
      have hnv : nvs = [] := by rw [Nat.zero_mul] at hnl; exact List.length_eq_zero_iff.1 hnl
      refine ⟨φ, w, _, Env.le_refl φ, hW, run_append_room (base := some a) (w' := w) h0 h1 ha0 ha1 hu hti hz' hlen hnrun (by omega) (by rw [hnv]; rfl), a, c, rfl, hlc, ⟨hcap, hex⟩, ha⟩
    · rename_i hn0
      have hadd : len + n ≤ c → ∃ b o z, φ i = some (b, o, z) ∧ a = ⟨b, o + k, none⟩ ∧ o + k + c * P.cellsOf elem ≤ z := fun hl => ha.resolve_left (by omega)
      have holdrun : ∀ (w1 : World) (H1 : AH) (old : List AV), WR w0 Pr φ H1 w1 → rdCells H1 i k (len * P.cellsOf elem) = some old →
          ∃ ovs : List Value, VRs φ old ovs ∧ ovs.length = len * P.cellsOf elem ∧ (Builtin.firstCells (P.cellsOf elem) len (.slice (some a) len c)).run P w1 = .ok ovs.toArray w1 := by
        intro w1 H1 old hW1 hr
        have hr' : srcA H1 (P.cellsOf elem) (.slice i k (P.cellsOf elem) len cap ex) = some (len, fun n => if n ≤ len then rdCells H1 i k (n * P.cellsOf elem) else none) := by simp [srcA]
        exact srcA_cells (P := P) hW1 (x := .slice i k (P.cellsOf elem) len cap ex) ⟨a, c, rfl, hlc, ⟨hcap, hex⟩, ha⟩ hr' (Nat.le_refl len) (by simpa using hr)
      split at h
      · rename_i hroom
        split at h
        · rename_i hone
          simp only [Option.map_eq_some_iff] at h
          obtain ⟨H2, hw, hv⟩ := h
          cases hv
          obtain ⟨b, o, zz, hφ, rfl, hb⟩ := hadd (by omega)
          obtain ⟨w', hst, hW2⟩ := wrCells_spec (P := P) (o' := o + k + len * P.cellsOf elem) (n := 0) hW hφ hw rnew (by omega)
          refine ⟨φ, w', _, Env.le_refl φ, hW2, run_append_room (base := some ⟨b, o + k, none⟩) (w' := w') h0 h1 ha0 ha1 hu hti hz' hlen hnrun (by omega) (by simpa [add_none] using hst), _, c, rfl, hroom, ⟨hcap, hex⟩, .inr ⟨b, o, zz, hφ, rfl, hb⟩⟩
        · cases h
      · rename_i hnroom
        split at h
        · rename_i hexact
          have hcc := hex hexact
          split at h
          · rename_i hg
            simp only [Option.bind_eq_some_iff, Option.map_eq_some_iff] at h
            obtain ⟨old, hr, ⟨j, H2⟩, hp, hv⟩ := h
            cases hv
            obtain ⟨ovs, rold, hol, horun⟩ := holdrun _ _ old hWd hr
            exact grow H (some a) len c old ovs j H2 rfl hWd rold hol horun (by omega) hg hp
          · cases h
        rename_i hnex
        split at h
        · rename_i cs e0 hi
          split at h
          case isFalse => cases h
          rename_i hc
          obtain ⟨rfl, hone, hg⟩ := hc
          simp only [Option.bind_eq_some_iff, Option.map_eq_some_iff] at h
          obtain ⟨old, hr, ⟨j, H2⟩, hp, hv⟩ := h
          cases hv
          by_cases hroom : len + n ≤ c
          · -- in place: the row is handed on
            obtain ⟨b, o, zz, hφ, rfl, hb⟩ := hadd hroom
            obtain ⟨ovs, rold, hol, horun⟩ := holdrun _ _ old hW hr
            obtain ⟨b', o', z', carr, hφ', hheap, hcz, hlz, hcv⟩ := hW.obj i _ hi
            rw [hφ] at hφ'; cases hφ'
            have hOi : Owned H i := ⟨_, hi, rfl⟩
            have hbsz : b < w.heap.size := hW.lt i _ hφ
            have hPr := hW.own i _ hOi hφ
            have hneed : (len + n) * P.cellsOf e0 ≤ c * P.cellsOf e0 := Nat.mul_le_mul_right _ hroom
            have hsplit : (len + n) * P.cellsOf e0 = len * P.cellsOf e0 + n * P.cellsOf e0 := Nat.add_mul _ _ _
            obtain ⟨c', hc', hcs', hlo, hin⟩ := setCells_heap nvs w b (o + k + len * P.cellsOf e0) carr e0 hheap (by rw [hnl]; omega)
            obtain ⟨f1, f2, f3, f4, f5⟩ := setCells_frame nvs w b (o + k + len * P.cellsOf e0)
            have hno : ∀ q x, Owned (H.set i .dead) q → φ q = some x → x.1 ≠ b := fun q x ⟨oo, hq, hw'⟩ hx e => by
              by_cases eq : q = i
              · subst eq
                rw [List.getElem?_set] at hq; simp only [if_true] at hq
                split at hq
                · cases hq; cases hw'
                · cases hq
              · rw [List.getElem?_set_ne (Ne.symm eq)] at hq
                exact eq (hW.inj q i x _ ⟨oo, hq, hw'⟩ hOi hx hφ e)
            have hW1 : WR w0 Pr φ (H.set i .dead) (w.setCells b (o + k + len * P.cellsOf e0) nvs) :=
              (hW.kill (i := i)).turn hPr hno f1 f2 f3 f4 f5
            have hn' := (put_spec hW1 hp).1
            have hst : (storeCells ⟨b, o + k + len * P.cellsOf e0, none⟩ nvs).run P w = .ok () (w.setCells b (o + k + len * P.cellsOf e0) nvs) := by
              have := run_storeCells_cells (P := P) b (o + k + len * P.cellsOf e0) nvs 0 w (fun q hq => by
                rw [cellOf hheap, Array.getElem?_eq_getElem (by rw [hcz]; omega)]; rfl) (fun q hq => by simp [World.frozen?, hheap]) (fun v hv => by
                obtain ⟨q, hq⟩ := List.getElem?_of_mem hv
                have hql := lt_of_get hq
                obtain ⟨x', hx'⟩ : ∃ x', new[q]? = some x' := ⟨_, List.getElem?_eq_getElem (by rw [hnl2, ← hnl]; exact hql)⟩
                obtain ⟨v', hv', rv'⟩ := rnew.get q x' hx'
                rw [hq] at hv'; cases hv'
                exact one_spec (List.all_eq_true.1 hone x' (List.mem_of_getElem? hx')) rv')
              simpa using this
            obtain ⟨hle, hW2⟩ := hW1.adopt hp (b := b) (off := o + k) (z := zz) (by rw [f1]; exact hbsz) hPr hno
              ⟨b, o + k, zz, c', Env.set_self _ _ _, hc', by rw [hcs']; exact hcz, by simp only [List.length_append, hnl2, rold.length, hol]; omega, fun q y hq => by
                rcases Nat.lt_or_ge q old.length with hlt | hge
                · rw [List.getElem?_append_left hlt] at hq
                  have hqo : q < len * P.cellsOf e0 := by rw [rold.length, hol] at hlt; exact hlt
                  rw [hlo _ (by omega)]
                  -- the old cells
                  simp only [rdCells, hi] at hr
                  split at hr
                  · cases hr
                    rw [List.getElem?_take, if_pos hqo, List.getElem?_drop] at hq
                    obtain ⟨u, hu', ru⟩ := hcv (k + q) y hq
                    exact ⟨u, by rw [Nat.add_assoc]; exact hu', ru.mono (Env.le_set _ hn')⟩
                  · cases hr
                · rw [List.getElem?_append_right hge] at hq
                  obtain ⟨u, hu', ru⟩ := rnew.get _ y hq
                  have hol' : old.length = len * P.cellsOf e0 := by rw [rold.length, hol]
                  refine ⟨u, ?_, ru.mono (Env.le_set _ hn')⟩
                  have := hin _ u hu'
                  rw [show o + k + len * P.cellsOf e0 + (q - old.length) = o + k + q by omega] at this
                  exact this⟩ rfl
            refine ⟨_, _, _, hle, hW2, run_append_room (base := some ⟨b, o + k, none⟩) (w' := w.setCells b (o + k + len * P.cellsOf e0) nvs) h0 h1 ha0 ha1 hu hti hz' hlen hnrun hroom (by simpa [add_none] using hst), _, c, rfl, Nat.le_refl _, ⟨hroom, fun e => (by cases e)⟩, .inr ⟨b, o + k, zz, Env.set_self _ _ _, rfl, by omega⟩⟩
          · have hr' : rdCells H i k (len * P.cellsOf e0) = some old := hr
            obtain ⟨ovs, rold, hol, horun⟩ := holdrun _ _ old hWd hr'
            exact grow (H.set i .dead) (some a) len c old ovs j H2 rfl (hWd.kill) rold hol horun hroom hg hp
        · cases h
  · cases h

end
end Go.Dv

/- copy, maps, comparisons on abstract states, held against the model's own (own work). -/

namespace Go.Dv
set_option linter.unusedSimpArgs false
set_option linter.unusedVariables false

section
variable {P : Program} {w0 : World} {Pr : Nat → Prop} {φ : Env} {H : AH} {w : World}

theorem copyA_spec (hW : WR w0 Pr φ H w) {dT : TypeId} {argTypes : Array TypeId} {args : Array Value} {ty : TypeId} {d s v : AV} {ud us : Value} {H' : AH}
    (h0 : argTypes[0]? = some dT) (ha0 : args[0]? = some ud) (ha1 : args[1]? = some us) (rd : VR φ d ud) (rs : VR φ s us) (h : copyA P dT d s H = some (v, H')) :
    ∃ w' y, WR w0 Pr φ H' w' ∧ (Builtin.copy_ argTypes ty args).run P w = .ok y w' ∧ VR φ v y := by
  simp only [copyA, Option.bind_eq_some_iff] at h
  obtain ⟨elem, hel, ti, hti, ⟨m, f⟩, hsrc, h⟩ := h
  have hu := sliceElem_spec hel
  have hlen := srcA_len (P := P) (w := w) rs hsrc
  split at h
  · cases h
    simp only [VR] at rd; subst rd
    refine ⟨w, _, hW, ?_, rfl⟩
    have hf : (Builtin.firstCells (P.cellsOf elem) 0 us).run P w = .ok #[] w := by
      unfold srcA at hsrc
      split at hsrc
      · split at hsrc
        · obtain ⟨a, c, rfl, _⟩ := rs
          simp only [Builtin.firstCells, Nat.zero_mul]
          rfl
        · cases hsrc
      · simp only [VR] at rs; subst rs; rfl
      · simp only [VR] at rs; subst rs
        simp only [Builtin.firstCells, Sem.run_pure]
        congr 1
        apply Array.toList_inj.1
        simp
      · cases hsrc
    simp only [Builtin.copy_, h0, ha0, ha1, Sem.run_bind, run_und hu, Result.andThen_ok, hlen, run_size hti, Nat.min_zero, Nat.min_def, Nat.le_zero, hf, Sem.run_pure]
    split
    · rename_i h0; subst h0; simp [hf, goInt]
    · simp [hf, goInt]
  · rename_i i k es len cap ex
    split at h
    case isFalse => cases h
    rename_i hes
    subst hes
    simp only [Option.bind_eq_some_iff] at h
    obtain ⟨cs, hcs, h⟩ := h
    obtain ⟨a, c, rfl, hlc, hcap, ha⟩ := rd
    obtain ⟨vs, rvs, hvl, hrun⟩ := srcA_cells (P := P) hW rs hsrc (Nat.min_le_left m len) hcs
    split at h
    · rename_i hz
      cases h
      have hz' : min m len = 0 := hz
      rw [hz'] at hrun hvl
      have hvn : vs = [] := List.length_eq_zero_iff.1 (by rw [hvl, Nat.zero_mul])
      subst hvn
      refine ⟨w, _, hW, ?_, rfl⟩
      simp only [Builtin.copy_, h0, ha0, ha1, Sem.run_bind, run_und hu, Result.andThen_ok, hlen, run_size hti, hz, hrun, Sem.run_pure]
      simp [goInt]
      rfl
    · rename_i hz
      simp only [Option.map_eq_some_iff] at h
      obtain ⟨H2, hw, hv⟩ := h
      cases hv
      have hc0 : c ≠ 0 := by
        have : Nat.min m len ≤ len := Nat.min_le_right _ _
        omega
      obtain ⟨b, o, z, hφ, rfl, hb⟩ := ha.resolve_left hc0
      obtain ⟨w', hst, hW2⟩ := wrCells_spec (P := P) (o' := o + k) (n := 0) hW hφ hw rvs (by omega)
      refine ⟨w', _, hW2, ?_, rfl⟩
      simp only [Builtin.copy_, h0, ha0, ha1, Sem.run_bind, run_und hu, Result.andThen_ok, hlen, run_size hti, hrun, hst, Sem.run_pure]
      simp [goInt]
  · cases h

/-! clear, of a slice -/
def clearA (P : Program) (t : TypeId) (x : AV) (H : AH) : Option AH :=
  (sliceElem P t).bind fun elem => (zeroA P elem).bind fun z => match x with
    | .nilSlice => some H
    | .slice i k es len _ _ => if es = P.cellsOf elem ∧ z.cells.length = es ∧ z.cells ≠ [] then
        if len = 0 then some H else wrCells H i k (zrow z.cells (len * es)) else none
    | _ => none

theorem clearA_spec (hW : WR w0 Pr φ H w) {t : TypeId} {argTypes : Array TypeId} {args : Array Value} {ty : TypeId} {x : AV} {ux : Value} {H' : AH}
    (h0 : argTypes[0]? = some t) (ha0 : args[0]? = some ux) (rx : VR φ x ux) (h : clearA P t x H = some H') :
    ∃ w', WR w0 Pr φ H' w' ∧ (Builtin.clear_ argTypes ty args).run P w = .ok (.tuple #[]) w' := by
  simp only [clearA, Option.bind_eq_some_iff] at h
  obtain ⟨elem, hel, z, hz, h⟩ := h
  have hu := sliceElem_spec hel
  obtain ⟨ti, zv, hti, hzv, rz⟩ := zeroA_spec hz φ
  split at h
  · cases h
    simp only [VR] at rx; subst rx
    exact ⟨w, hW, by simp only [Builtin.clear_, h0, ha0, Sem.run_bind, run_und hu, Result.andThen_ok, Sem.run_pure]⟩
  · rename_i i k es len cap ex
    split at h
    case isFalse => cases h
    rename_i hc
    obtain ⟨hes, hzl, hne⟩ := hc
    obtain ⟨a, c, rfl, hlc, ⟨hcap, hex⟩, ha⟩ := rx
    split at h
    · rename_i hl
      cases h; subst hl
      exact ⟨w, hW, by simp only [Builtin.clear_, h0, ha0, Sem.run_bind, run_und hu, Result.andThen_ok, Sem.run_pure]⟩
    · rename_i hl
      obtain ⟨b, o, zz, hφ, rfl, hb⟩ := ha.resolve_left (by omega)
      have hzs : zv.cells.size = es := by have := rz.cells.length; rw [hzl] at this; simpa using this.symm
      have hrow := zrow_VRs (len * es) rz.cells hne
      obtain ⟨w', hst, hW2⟩ := wrCells_spec (P := P) (o' := o + k) (n := 0) hW hφ h hrow (by omega)
      refine ⟨w', hW2, ?_⟩
      obtain ⟨n, rfl⟩ : ∃ n, len = n + 1 := ⟨len - 1, by omega⟩
      have hzc : Builtin.zeroCells zv.cells (n + 1) = (Array.range ((n + 1) * es)).map (zv.cells[· % zv.cells.size]!) := by
        unfold Builtin.zeroCells; rw [hzs]
      simp only [Builtin.clear_, h0, ha0, Sem.run_bind, run_und hu, Result.andThen_ok, run_zero hti hzv, hzc, hst, Sem.run_pure]
  · cases h

/-! equality of values that lead to no block -/
/-- Equality of the fields of two structs. -/
def eqFsA (P : Program) (rec : TypeId → AV → AV → Option Bool) (xs ys : List AV) : List Field → Option Bool
  | [] => some true
  | f :: fs => if f.name == "_" then eqFsA P rec xs ys fs
    else (partA P f.type xs f.offset).bind fun a => (partA P f.type ys f.offset).bind fun b => (rec f.type a b).bind fun r => (eqFsA P rec xs ys fs).map fun s => r && s

/-- Equality of values that lead to no block: numbers, bools, strings, structs of such. -/
def eqVA (P : Program) : Nat → TypeId → AV → AV → Option Bool
  | 0, _, _, _ => none
  | d + 1, t, x, y => match P.underlying t with
    | some (.int _) => match x, y with
      | .int k a, .int k' b => if k = k' then some (a == b) else none
      | _, _ => none
    | some .bool => match x, y with
      | .bool a, .bool b => some (a == b)
      | _, _ => none
    | some .string => match x, y with
      | .str a, .str b => some (a == b)
      | _, _ => none
    | some (.struct fs) => match x, y with
      | .agg xs, .agg ys => if P.stoodInHeld t then none else eqFsA P (eqVA P d) xs ys fs.toList
      | _, _ => none
    | _ => none

theorem eqFsA_spec {d N : Nat} (ih : ∀ (t : TypeId) (x y : AV) (ux uy : Value) (r : Bool), VR φ x ux → VR φ y uy → eqVA P d t x y = some r → ∀ w, (Op.equalIn N t ux uy).run P w = .ok r w)
    {xs ys : List AV} {us vs : Array Value} (rx : VRs φ xs us.toList) (ry : VRs φ ys vs.toList) : ∀ (fs : List Field) (r : Bool), eqFsA P (eqVA P d) xs ys fs = some r → ∀ w, (Op.eqFields N us vs fs).run P w = .ok r w
  | [], r, h, w => by
    simp only [eqFsA, Option.some.injEq] at h
    subst h
    simp [Op.eqFields]
  | f :: fs, r, h, w => by
    simp only [eqFsA] at h
    split at h
    · rename_i hn
      have hn' : ¬ (f.name ≠ "_") := by simpa using hn
      rw [Op.eqFields, if_neg hn']
      exact eqFsA_spec ih rx ry fs r h w
    · rename_i hn
      have hn' : f.name ≠ "_" := by simpa using hn
      simp only [Option.bind_eq_some_iff, Option.map_eq_some_iff] at h
      obtain ⟨a, ha, b, hb, r0, h0, s, hs, rfl⟩ := h
      obtain ⟨ua, hua, ra⟩ := partA_spec (P := P) rx ha
      obtain ⟨ub, hub, rb⟩ := partA_spec (P := P) ry hb
      rw [Op.eqFields]
      simp only [if_pos hn', Sem.run_bind, hua w, hub w, Result.andThen_ok, ih _ _ _ _ _ _ ra rb h0 w]
      cases r0
      · simp
      · simpa using eqFsA_spec ih rx ry fs s hs w

theorem eqVA_spec : ∀ (d N : Nat), d ≤ N → ∀ (t : TypeId) (x y : AV) (ux uy : Value) (r : Bool), VR φ x ux → VR φ y uy → eqVA P d t x y = some r → ∀ w, (Op.equalIn N t ux uy).run P w = .ok r w
  | 0, _, _, _, _, _, _, _, _, _, _, h, _ => by simp [eqVA] at h
  | d + 1, 0, hN, _, _, _, _, _, _, _, _, _, _ => by omega
  | d + 1, N + 1, hN, t, x, y, ux, uy, r, rx, ry, h, w => by
    simp only [eqVA] at h
    split at h
    · rename_i k0 hu
      split at h
      · rename_i k a k' b
        split at h
        · rename_i hk; subst hk; cases h
          simp only [VR] at rx ry; subst rx; subst ry
          simp [Op.equalIn, run_und hu]
        · cases h
      · cases h
    · rename_i hu
      split at h
      · cases h
        simp only [VR] at rx ry; subst rx; subst ry
        simp [Op.equalIn, run_und hu]
      · cases h
    · rename_i hu
      split at h
      · cases h
        simp only [VR] at rx ry; subst rx; subst ry
        simp [Op.equalIn, run_und hu]
      · cases h
    · rename_i fs hu
      split at h
      · rename_i xs ys
        split at h
        · cases h
        · rename_i hp
          have hp' : P.stoodInHeld t = false := by simpa using hp
          obtain ⟨us, rfl, rus⟩ := rx
          obtain ⟨vs, rfl, rvs⟩ := ry
          have hf : P.fieldsOf t = fs := by simp [Program.fieldsOf, hu]
          rw [run_equalIn_struct (P := P) w N t us vs (by rw [hf]; exact hu) hp', hf]
          exact eqFsA_spec (fun t x y ux uy r rx ry h w => eqVA_spec d N (by omega) t x y ux uy r rx ry h w) rus rvs fs.toList r h w
      · cases h
    · cases h


def eqK (P : Program) (kt : TypeId) (k k' : Value) : Option Bool := (ofV 6 k).bind fun x => (ofV 6 k').bind fun y => eqVA P 6 kt x y

/-! maps -/
def sameK (P : Program) (kt : TypeId) (d : TypeDesc) (k k' : Value) : Option Bool :=
  match Instr.sameNow d k k' with
  | some b => some b
  | none => match eqK P kt k k' with
    | some b => some b
    | none => pureRun P (Op.equal kt k k')

def findA (P : Program) (kt : TypeId) (d : TypeDesc) (kv : Value) : List (AV × AV × Nat) → Nat → Option (Option (Nat × AV))
  | [], _ => some none
  | (k, v, _) :: es, i =>
    (toV k).bind fun kv' => match sameK P kt d kv kv' with
      | some true => some (some (i, v))
      | some false => findA P kt d kv es (i + 1)
      | none => none

def FR (φ : Env) : Option (Nat × AV) → Option (Nat × Value) → Prop
  | none, r => r = none
  | some (i, v), r => ∃ u, r = some (i, u) ∧ VR φ v u

theorem eqi (n : Nat) {t : TypeId} {j : IntKind} (hu : P.underlying t = some (.int j)) (k : IntKind) (a b : Int) : (Op.equalIn (n + 1) t (.int k a) (.int k b)).run P w = .ok (a == b) w := by
  simp only [Op.equalIn, Sem.run_bind, run_und hu, Result.andThen_ok, if_true, Sem.run_pure]
theorem eqs (n : Nat) {t : TypeId} (hu : P.underlying t = some .string) (a b : ByteArray) : (Op.equalIn (n + 1) t (.string a) (.string b)).run P w = .ok (a == b) w := by
  simp only [Op.equalIn, Sem.run_bind, run_und hu, Result.andThen_ok, Sem.run_pure]
theorem eqb (n : Nat) {t : TypeId} (hu : P.underlying t = some .bool) (a b : Bool) : (Op.equalIn (n + 1) t (.bool a) (.bool b)).run P w = .ok (a == b) w := by
  simp only [Op.equalIn, Sem.run_bind, run_und hu, Result.andThen_ok, Sem.run_pure]

theorem same_equal {kt : TypeId} {d : TypeDesc} (hu : P.underlying kt = some d) {k k' : Value} {b : Bool} (h : Instr.sameNow d k k' = some b) : (Op.equal kt k k').run P w = .ok b w := by
  unfold Instr.sameNow at h
  split at h
  · split at h
    · rename_i hk
      subst hk
      cases h
      exact eqi 9999 hu _ _ _
    · cases h
  · cases h; exact eqs 9999 hu _ _
  · cases h; exact eqb 9999 hu _ _
  · cases h

theorem sameK_equal {kt : TypeId} {d : TypeDesc} (hu : P.underlying kt = some d) {k k' : Value} {b : Bool} (h : sameK P kt d k k' = some b) : (Op.equal kt k k').run P w = .ok b w := by
  unfold sameK at h
  split at h
  · rename_i hs; cases h; exact same_equal hu hs
  · split at h
    · rename_i he
      cases h
      simp only [eqK, Option.bind_eq_some_iff] at he
      obtain ⟨x, hx, y, hy, he⟩ := he
      exact eqVA_spec (φ := fun _ => none) 6 Op.maxDepth (by unfold Op.maxDepth; omega) kt x y k k' _ (ofV_spec _ _ _ hx) (ofV_spec _ _ _ hy) he w
    · exact pureRun_spec _ _ h w

theorem findA_asking {kt : TypeId} {d : TypeDesc} (hu : P.underlying kt = some d) {kv : Value} : ∀ (es : List (AV × AV × Nat)) (es' : List MapEntry) (i : Nat) (r : Option (Nat × AV)), MR φ es es' → findA P kt d kv es i = some r →
    ∃ r', (Instr.findAsking kt kv es' i).run P w = .ok r' w ∧ FR φ r r'
  | [], es', i, r, hm, h => by
    rw [show es' = [] from hm]
    cases h
    exact ⟨none, rfl, rfl⟩
  | (k, v, n) :: es, es', i, r, ⟨e, l, he, rk, rv, _, rs⟩, h => by
    subst he
    simp only [findA, Option.bind_eq_some_iff] at h
    obtain ⟨kv', hk, h⟩ := h
    have hkv := toV_spec k kv' hk _ rk
    split at h
    · rename_i hs
      cases h
      refine ⟨some (i, e.val), ?_, e.val, rfl, rv⟩
      simp only [Instr.findAsking, Sem.run_bind, hkv, sameK_equal hu hs, Result.andThen_ok, if_true, Sem.run_pure]
    · rename_i hs
      obtain ⟨r', hr, hf⟩ := findA_asking hu es l (i + 1) r rs h
      refine ⟨r', ?_, hf⟩
      simp only [Instr.findAsking, Sem.run_bind, hkv, sameK_equal hu hs, Result.andThen_ok, Bool.false_eq_true, if_false, hr]
    · cases h

theorem findA_now {kt : TypeId} {d : TypeDesc} {kv : Value} : ∀ (es : List (AV × AV × Nat)) (es' : List MapEntry) (i : Nat) (r : Option (Nat × AV)) (r' : Option (Nat × Value)), MR φ es es' → findA P kt d kv es i = some r →
    Instr.findNow d kv es' i = some r' → FR φ r r'
  | [], es', i, r, r', hm, h, hn => by
    rw [show es' = [] from hm] at hn
    cases h; cases hn; rfl
  | (k, v, n) :: es, es', i, r, r', ⟨e, l, he, rk, rv, _, rs⟩, h, hn => by
    subst he
    simp only [findA, Option.bind_eq_some_iff] at h
    obtain ⟨kv', hk, h⟩ := h
    have hkv := toV_spec k kv' hk _ rk
    simp only [Instr.findNow, hkv] at hn
    unfold sameK at h
    split at hn
    · rename_i hs; rw [hs] at h; cases h; cases hn; exact ⟨e.val, rfl, rv⟩
    · rename_i hs; rw [hs] at h; exact findA_now es l (i + 1) r r' rs h hn
    · cases hn

theorem findKey_spec {kt : TypeId} {d : TypeDesc} (hu : P.underlying kt = some d) {kv : Value} {es : List (AV × AV × Nat)} {es' : List MapEntry} {r : Option (Nat × AV)} (hm : MR φ es es') (h : findA P kt d kv es 0 = some r) :
    ∃ r', (Instr.findKey kt kv es').run P w = .ok r' w ∧ FR φ r r' := by
  cases hn : Instr.findNow d kv es' 0 with
  | some r' =>
    refine ⟨r', ?_, findA_now es es' 0 r r' hm h hn⟩
    simp only [Instr.findKey, Sem.run_bind, run_und hu, Result.andThen_ok, hn, Sem.run_pure]
  | none =>
    obtain ⟨r', hr, hf⟩ := findA_asking (w := w) hu es es' 0 r hm h
    refine ⟨r', ?_, hf⟩
    simp only [Instr.findKey, Sem.run_bind, run_und hu, Result.andThen_ok, hn, hr]

def mapTypes (P : Program) (t : TypeId) : Option (TypeId × TypeId) :=
  match P.underlying t with
  | some (.map k e) => some (k, e)
  | _ => none
theorem mapTypes_spec {t k e : TypeId} (h : mapTypes P t = some (k, e)) : P.underlying t = some (.map k e) := by
  unfold mapTypes at h
  split at h
  · rename_i hu; cases h; exact hu
  · cases h

/-- the entries of a map, and whether the key can be asked for -/
def entriesA (H : AH) : AV → Option (List (AV × AV × Nat))
  | .nilMap => some []
  | .map i => match H[i]? with
    | some (.map es _) => some es
    | _ => none
  | _ => none

def askA (P : Program) (kt : TypeId) (empty : Bool) (k : AV) : Option (Value × TypeDesc) :=
  (toV k).bind fun kv => (P.underlying kt).bind fun d => (pureRun P (Instr.checkKey empty 10000 kt kv)).map fun _ => (kv, d)

theorem askA_spec {kt : TypeId} {empty : Bool} {k : AV} {uk kv : Value} {d : TypeDesc} (r : VR φ k uk) (h : askA P kt empty k = some (kv, d)) :
    uk = kv ∧ P.underlying kt = some d ∧ (Instr.checkKey empty 10000 kt uk).run P w = .ok () w := by
  simp only [askA, Option.bind_eq_some_iff, Option.map_eq_some_iff] at h
  obtain ⟨kv', hk, d', hd, u, hc, he⟩ := h
  cases he
  have := toV_spec k kv hk uk r
  subst this
  exact ⟨rfl, hd, pureRun_spec _ _ hc w⟩

def lookupA (P : Program) (t : TypeId) (m k : AV) (ok : Bool) (H : AH) : Option AV :=
  (mapTypes P t).bind fun (kt, et) => (entriesA H m).bind fun es => (askA P kt es.isEmpty k).bind fun (kv, d) => (findA P kt d kv es 0).bind fun r =>
    match r with
    | some (_, v) => some (if ok then .tuple [v, .bool true] else v)
    | none => (zeroA P et).map fun z => if ok then .tuple [z, .bool false] else z

theorem MR.isEmpty {es : List (AV × AV × Nat)} {es' : List MapEntry} (h : MR φ es es') : es.isEmpty = es'.isEmpty := by
  match es, h with
  | [], h => rw [show es' = [] from h]; rfl
  | (_, _, _) :: _, ⟨_, _, he, _⟩ => subst he; rfl

theorem MR.length {es : List (AV × AV × Nat)} {es' : List MapEntry} (h : MR φ es es') : es.length = es'.length := by
  match es, h with
  | [], h => rw [show es' = [] from h]; rfl
  | (_, _, _) :: es, ⟨_, l, he, _, _, _, hs⟩ => subst he; simp [MR.length hs]

theorem entriesA_spec (hW : WR w0 Pr φ H w) {m : AV} {um : Value} {es : List (AV × AV × Nat)} (rm : VR φ m um) (h : entriesA H m = some es) :
    (um = .map none ∧ es = []) ∨ ∃ (b : Nat) (es' : Array MapEntry) (c : Nat), um = .map (some b) ∧ w.heap[b]? = some (.map es' c) ∧ MR φ es es'.toList := by
  unfold entriesA at h
  split at h
  · cases h; simp only [VR] at rm; exact .inl ⟨rm, rfl⟩
  · split at h
    · rename_i hi
      cases h
      obtain ⟨b, z, hφ, rfl⟩ := rm
      obtain ⟨b', z', es', hφ', hheap, hmr⟩ := hW.obj _ _ hi
      rw [hφ] at hφ'; cases hφ'
      exact .inr ⟨b, es', _, rfl, hheap, hmr⟩
    · cases h
  · cases h

theorem run_getMap {b c : Nat} {es : Array MapEntry} (h : w.heap[b]? = some (.map es c)) : (getObj b).run P w = .ok (.map es c) w := by simp [getObj, Sem.run, h]

theorem isEmpty_toList (es : Array MapEntry) : es.toList.isEmpty = es.isEmpty := by cases es with | mk l => cases l <;> rfl

theorem lookupA_spec (hW : WR w0 Pr φ H w) {t : TypeId} {m k v : AV} {um uk : Value} {ok : Bool} (rm : VR φ m um) (rk : VR φ k uk) (h : lookupA P t m k ok H = some v) :
    ∃ y, (Instr.lookup t um uk ok).run P w = .ok y w ∧ VR φ v y := by
  simp only [lookupA, Option.bind_eq_some_iff] at h
  obtain ⟨⟨kt, et⟩, hmt, es, hes, ⟨kv, d⟩, hask, r, hf, h⟩ := h
  have hu := mapTypes_spec hmt
  obtain ⟨rfl, hd, hck⟩ := askA_spec (P := P) (w := w) rk hask
  rcases entriesA_spec hW rm hes with ⟨rfl, rfl⟩ | ⟨b, es', c, rfl, hheap, hm⟩
  · cases hf
    simp only [Option.map_eq_some_iff] at h
    obtain ⟨z, hz, rfl⟩ := h
    obtain ⟨ti, zv, hti, hzv, rz⟩ := zeroA_spec hz φ
    obtain ⟨r', hfk, hr⟩ := findKey_spec (P := P) (w := w) (φ := φ) (es' := []) hd rfl (kv := uk) (es := []) (r := none) rfl
    obtain rfl := hr
    refine ⟨if ok then .tuple #[zv, .bool false] else zv, ?_, ?_⟩
    · have hck' : (Instr.checkKey (#[] : Array MapEntry).isEmpty 10000 kt uk).run P w = .ok () w := hck
      simp only [Instr.lookup, Sem.run_bind, run_und hu, Result.andThen_ok, Sem.run_pure, hck', hfk, run_zero hti hzv]
    · cases ok
      · exact rz
      · exact ⟨_, rfl, .cons rz (.one rfl)⟩
  · obtain ⟨r', hfk, hr⟩ := findKey_spec (P := P) (w := w) hd hm hf
    have hemp : es.isEmpty = es'.isEmpty := by rw [hm.isEmpty, isEmpty_toList]
    rw [hemp] at hck
    cases r with
    | some iv =>
      obtain ⟨i, v'⟩ := iv
      obtain ⟨u, rfl, ru⟩ := hr
      simp only [Option.some.injEq] at h
      subst h
      refine ⟨if ok then .tuple #[u, .bool true] else u, ?_, ?_⟩
      · simp only [Instr.lookup, Sem.run_bind, run_und hu, Result.andThen_ok, run_getMap hheap, Sem.run_pure, hck, hfk]
      · cases ok
        · exact ru
        · exact ⟨_, rfl, .cons ru (.one rfl)⟩
    | none =>
      obtain rfl := hr
      simp only [Option.map_eq_some_iff] at h
      obtain ⟨z, hz, rfl⟩ := h
      obtain ⟨ti, zv, hti, hzv, rz⟩ := zeroA_spec hz φ
      refine ⟨if ok then .tuple #[zv, .bool false] else zv, ?_, ?_⟩
      · simp only [Instr.lookup, Sem.run_bind, run_und hu, Result.andThen_ok, run_getMap hheap, Sem.run_pure, hck, hfk, run_zero hti hzv]
      · cases ok
        · exact rz
        · exact ⟨_, rfl, .cons rz (.one rfl)⟩

/-! a map is written -/
def mapPutA (P : Program) (t : TypeId) (m k v : AV) (H : AH) : Option AH :=
  (mapTypes P t).bind fun (kt, _) => match m with
    | .map i => match H[i]? with
      | some (.map es clock) => (askA P kt false k).bind fun (kv, d) => (findA P kt d kv es 0).bind fun r =>
        match r with
        | some (j, _) => (es[j]?).bind fun (k0, _, n) => (toV k0).bind fun kv0 =>
          if Instr.sameBits 10000 kv0 kv = true then some (H.set i (.map (es.set j (k, v, n)) clock)) else none
        | none => some (H.set i (.map (es ++ [(k, v, clock)]) (clock + 1)))
      | _ => none
    | _ => none

theorem MR.get {es : List (AV × AV × Nat)} {es' : List MapEntry} (h : MR φ es es') : ∀ (j : Nat) (k v : AV) (n : Nat), es[j]? = some (k, v, n) → ∃ e, es'[j]? = some e ∧ VR φ k e.key ∧ VR φ v e.val ∧ e.born = n := by
  intro j
  induction j generalizing es es' with
  | zero =>
    intro k v n hj
    match es, h with
    | [], _ => simp at hj
    | (_, _, _) :: _, ⟨e, l, he, rk, rv, rn, _⟩ => subst he; simp at hj; obtain ⟨rfl, rfl, rfl⟩ := hj; exact ⟨e, rfl, rk, rv, rn⟩
  | succ j ih =>
    intro k v n hj
    match es, h with
    | [], _ => simp at hj
    | (_, _, _) :: _, ⟨e, l, he, _, _, _, rs⟩ => subst he; simpa using ih rs k v n (by simpa using hj)

theorem MR.push : ∀ {es : List (AV × AV × Nat)} {es' : List MapEntry}, MR φ es es' → ∀ {k v : AV} {n : Nat} {e : MapEntry}, VR φ k e.key → VR φ v e.val → e.born = n → MR φ (es ++ [(k, v, n)]) (es' ++ [e])
  | [], es', h, k, v, n, e, rk, rv, rn => by rw [show es' = [] from h]; exact ⟨e, [], rfl, rk, rv, rn, rfl⟩
  | (_, _, _) :: es, _, ⟨e0, l, he, a, b, c, rs⟩, k, v, n, e, rk, rv, rn => by subst he; exact ⟨e0, _, rfl, a, b, c, MR.push rs rk rv rn⟩

theorem MR.set : ∀ {es : List (AV × AV × Nat)} {es' : List MapEntry}, MR φ es es' → ∀ (j : Nat) {k v : AV} {n : Nat} {e : MapEntry}, VR φ k e.key → VR φ v e.val → e.born = n → MR φ (es.set j (k, v, n)) (es'.set j e)
  | [], es', h, j, k, v, n, e, rk, rv, rn => by rw [show es' = [] from h]; rfl
  | (_, _, _) :: es, _, ⟨e0, l, he, a, b, c, rs⟩, 0, k, v, n, e, rk, rv, rn => by subst he; exact ⟨e, l, rfl, rk, rv, rn, rs⟩
  | (_, _, _) :: es, _, ⟨e0, l, he, a, b, c, rs⟩, j + 1, k, v, n, e, rk, rv, rn => by subst he; exact ⟨e0, _, rfl, a, b, c, MR.set rs j rk rv rn⟩

theorem WR.putMap (hW : WR w0 Pr φ H w) {i b c z : Nat} {es : List (AV × AV × Nat)} {es' : Array MapEntry} (hi : H[i]? = some (.map es c)) (hφ : φ i = some (b, 0, z)) (hheap : w.heap[b]? = some (.map es' c))
    {fs : List (AV × AV × Nat)} {fs' : Array MapEntry} {c' : Nat} (hm : MR φ fs fs'.toList) :
    (setObj b (.map fs' c')).run P w = .ok () { w with heap := w.heap.setIfInBounds b (.map fs' c') } ∧ WR w0 Pr φ (H.set i (.map fs c')) { w with heap := w.heap.setIfInBounds b (.map fs' c') } := by
  refine ⟨by simp [setObj, Sem.run, hheap], hW.rewrite hi rfl rfl hφ (by simp) rfl rfl rfl (fun d hd => ?_) ⟨b, z, fs', hφ, ?_, hm⟩⟩
  · rw [Array.getElem?_setIfInBounds, if_neg (fun e => hd e.symm)]
  · have := hW.lt i _ hφ
    simp only at this
    simp [Array.getElem?_setIfInBounds, this]

theorem mapPutA_spec (hW : WR w0 Pr φ H w) {t : TypeId} {m k v : AV} {um uk uv : Value} {H' : AH} (rm : VR φ m um) (rk : VR φ k uk) (rv : VR φ v uv) (h : mapPutA P t m k v H = some H') :
    ∃ w', (Instr.mapUpdate t um uk uv).run P w = .ok () w' ∧ WR w0 Pr φ H' w' := by
  simp only [mapPutA, Option.bind_eq_some_iff] at h
  obtain ⟨⟨kt, et⟩, hmt, h⟩ := h
  have hu := mapTypes_spec hmt
  split at h
  case h_2 => cases h
  rename_i i
  split at h
  case h_2 => cases h
  rename_i es clock hi
  simp only [Option.bind_eq_some_iff] at h
  obtain ⟨⟨kv, d⟩, hask, r, hf, h⟩ := h
  obtain ⟨rfl, hd, hck⟩ := askA_spec (P := P) (w := w) rk hask
  obtain ⟨b, z, hφ, rfl⟩ := rm
  obtain ⟨b', z', es', hφ', hheap, hm⟩ := hW.obj _ _ hi
  rw [hφ] at hφ'; cases hφ'
  obtain ⟨r', hfk, hr⟩ := findKey_spec (P := P) (w := w) hd hm hf
  cases r with
  | some iv =>
    obtain ⟨j, v'⟩ := iv
    obtain ⟨u, rfl, ru⟩ := hr
    simp only [Option.bind_eq_some_iff] at h
    obtain ⟨⟨k0, v0, n⟩, hj, kv0, hk0, h⟩ := h
    split at h
    · rename_i hsb
      cases h
      obtain ⟨e, he, rke, rve, rne⟩ := hm.get j k0 v0 n hj
      have hkey := toV_spec k0 kv0 hk0 _ rke
      have hmod : (es'.modify j fun e => { e with key := uk, val := uv }).toList = es'.toList.set j { e with key := uk, val := uv } := by
        apply List.ext_getElem?
        intro q
        simp only [Array.getElem?_toList, Array.getElem?_modify, List.getElem?_set]
        have he' : es'[j]? = some e := by simpa using he
        by_cases hq : j = q
        · subst hq
          have hl := lt_of_get he
          simp at hl
          have hje : es'[j] = e := by simpa [Array.getElem?_eq_getElem hl] using he'
          simp [hl, hje]
        · simp [hq]
      obtain ⟨hrun, hW'⟩ := hW.putMap (P := P) hi hφ hheap (fs := es.set j (k, v, n)) (fs' := es'.modify j fun e => { e with key := uk, val := uv }) (c' := clock) (by rw [hmod]; exact hm.set j rk rv rne)
      refine ⟨_, ?_, hW'⟩
      have he' : es'[j]? = some e := by simpa using he
      rw [← hkey] at hsb
      simp only [Instr.mapUpdate, Sem.run_bind, run_und hu, Result.andThen_ok, run_getMap hheap, hck, hfk, he', Option.map_some, Option.getD_some, Instr.keyThatStays, hsb, if_true, Sem.run_pure, hrun]
    · cases h
  | none =>
    obtain rfl := hr
    cases h
    obtain ⟨hrun, hW'⟩ := hW.putMap (P := P) hi hφ hheap (fs := es ++ [(k, v, clock)]) (fs' := es'.push { key := uk, val := uv, born := clock }) (c' := clock + 1) (by simpa using hm.push (e := { key := uk, val := uv, born := clock }) rk rv rfl)
    refine ⟨_, ?_, hW'⟩
    simp only [Instr.mapUpdate, Sem.run_bind, run_und hu, Result.andThen_ok, run_getMap hheap, hck, hfk, hrun]

end
end Go.Dv

/- An entry of a map that is read and then written (own work). -/

namespace Go.Dv

def mapEntryA (P : Program) (t : TypeId) (m k : AV) (H : AH) : Option (AV × AH) :=
  (mapTypes P t).bind fun (kt, et) => match m with
    | .map i => match H[i]? with
      | some (.map es clock) => (askA P kt false k).bind fun (kv, d) => (findA P kt d kv es 0).bind fun r =>
        match r with
        | some (j, v) => (es[j]?).bind fun (k0, v0, n) => (toV k0).bind fun kv0 =>
          if Instr.sameBits 10000 kv0 kv = true then some (.tuple [v, .int .i64 n], H.set i (.map (es.set j (k, v0, n)) clock)) else none
        | none => (zeroA P et).map fun z => (.tuple [z, .int .i64 clock], H.set i (.map (es ++ [(k, z, clock)]) (clock + 1)))
      | _ => none
    | _ => none

def entryStoreA (m s v : AV) (H : AH) : Option AH :=
  match m, s with
  | .map i, .int _ born => match H[i]? with
    | some (.map es clock) => (es.findIdx? fun e => ((e.2.2 : Nat) : Int) == born).bind fun j => (es[j]?).map fun (k, _, n) => H.set i (.map (es.set j (k, v, n)) clock)
    | _ => none
  | _, _ => none

section
variable {P : Program} {w0 : World} {Pr : Nat → Prop} {φ : Env} {H : AH} {w : World}

theorem modify_set (es' : Array MapEntry) (j : Nat) (e : MapEntry) (f : MapEntry → MapEntry) (he : es'.toList[j]? = some e) : (es'.modify j f).toList = es'.toList.set j (f e) := by
  apply List.ext_getElem?
  intro q
  simp only [Array.getElem?_toList, Array.getElem?_modify, List.getElem?_set]
  have he' : es'[j]? = some e := by simpa using he
  by_cases hq : j = q
  · subst hq
    have hl := lt_of_get he
    simp at hl
    have hje : es'[j] = e := by simpa [Array.getElem?_eq_getElem hl] using he'
    simp [hl, hje]
  · simp [hq]

theorem mapEntryA_spec (hW : WR w0 Pr φ H w) {t : TypeId} {m k v : AV} {um uk : Value} {H' : AH} (rm : VR φ m um) (rk : VR φ k uk) (h : mapEntryA P t m k H = some (v, H')) :
    ∃ y w', (Instr.mapEntry t um uk).run P w = .ok y w' ∧ VR φ v y ∧ WR w0 Pr φ H' w' := by
  simp only [mapEntryA, Option.bind_eq_some_iff] at h
  obtain ⟨⟨kt, et⟩, hmt, h⟩ := h
  have hu := mapTypes_spec hmt
  split at h
  case h_2 => cases h
  rename_i i
  split at h
  case h_2 => cases h
  rename_i es clock hi
  simp only [Option.bind_eq_some_iff] at h
  obtain ⟨⟨kv, d⟩, hask, r, hf, h⟩ := h
  obtain ⟨rfl, hd, hck⟩ := askA_spec (P := P) (w := w) rk hask
  obtain ⟨b, z, hφ, rfl⟩ := rm
  obtain ⟨b', z', es', hφ', hheap, hm⟩ := hW.obj _ _ hi
  rw [hφ] at hφ'; cases hφ'
  obtain ⟨r', hfk, hr⟩ := findKey_spec (P := P) (w := w) hd hm hf
  cases r with
  | some iv =>
    obtain ⟨j, v'⟩ := iv
    obtain ⟨u, rfl, ru⟩ := hr
    simp only [Option.bind_eq_some_iff] at h
    obtain ⟨⟨k0, v0, n⟩, hj, kv0, hk0, h⟩ := h
    split at h
    · rename_i hsb
      cases h
      obtain ⟨e, he, rke, rve, rne⟩ := hm.get j k0 v0 n hj
      have hkey := toV_spec k0 kv0 hk0 _ rke
      obtain ⟨hrun, hW'⟩ := hW.putMap (P := P) hi hφ hheap (fs := es.set j (k, v0, n)) (fs' := es'.modify j fun e => { e with key := uk }) (c' := clock) (by rw [modify_set es' j e _ he]; exact hm.set j rk rve rne)
      have he' : es'[j]? = some e := by simpa using he
      rw [← hkey] at hsb
      refine ⟨.tuple #[u, goInt e.born], _, ?_, ⟨_, rfl, .cons ru (.one (by rw [rne]; rfl))⟩, hW'⟩
      simp only [Instr.mapEntry, Sem.run_bind, run_und hu, Result.andThen_ok, run_getMap hheap, hck, hfk, he', Option.map_some, Option.getD_some, Instr.keyThatStays, hsb, if_true, Sem.run_pure, hrun]
    · cases h
  | none =>
    obtain rfl := hr
    simp only [Option.map_eq_some_iff] at h
    obtain ⟨zv, hz, h⟩ := h
    cases h
    obtain ⟨ti, zu, hti, hzu, rz⟩ := zeroA_spec hz φ
    obtain ⟨hrun, hW'⟩ := hW.putMap (P := P) hi hφ hheap (fs := es ++ [(k, zv, clock)]) (fs' := es'.push { key := uk, val := zu, born := clock }) (c' := clock + 1) (by simpa using hm.push (e := { key := uk, val := zu, born := clock }) rk rz rfl)
    refine ⟨.tuple #[zu, goInt clock], _, ?_, ⟨_, rfl, .cons rz (.one rfl)⟩, hW'⟩
    simp only [Instr.mapEntry, Sem.run_bind, run_und hu, Result.andThen_ok, run_getMap hheap, hck, hfk, run_zero hti hzu, hrun, Sem.run_pure]

theorem MR.findIdx : ∀ {es : List (AV × AV × Nat)} {es' : List MapEntry}, MR φ es es' → ∀ (born : Int), es.findIdx? (fun e => ((e.2.2 : Nat) : Int) == born) = es'.findIdx? (fun e => (e.born : Int) == born)
  | [], es', h, _ => by rw [show es' = [] from h]; rfl
  | (_, _, _) :: es, _, ⟨e0, l, he, _, _, c, rs⟩, born => by
    subst he
    simp only [List.findIdx?_cons, c, MR.findIdx rs born]

theorem entryStoreA_spec (hW : WR w0 Pr φ H w) {t : TypeId} {m s v : AV} {um us uv : Value} {H' : AH} (rm : VR φ m um) (rs : VR φ s us) (rv : VR φ v uv) (h : entryStoreA m s v H = some H') :
    ∃ w', (Instr.entryStore t um us uv).run P w = .ok () w' ∧ WR w0 Pr φ H' w' := by
  unfold entryStoreA at h
  split at h
  · rename_i i kk born
    split at h
    · rename_i es clock hi
      simp only [Option.bind_eq_some_iff, Option.map_eq_some_iff] at h
      obtain ⟨j, hfi, ⟨k, v0, n⟩, hj, rfl⟩ := h
      obtain ⟨b, z, hφ, rfl⟩ := rm
      obtain ⟨b', z', es', hφ', hheap, hm⟩ := hW.obj _ _ hi
      rw [hφ] at hφ'; cases hφ'
      simp only [VR] at rs
      subst rs
      obtain ⟨e, he, rke, rve, rne⟩ := hm.get j k v0 n hj
      obtain ⟨hrun, hW'⟩ := hW.putMap (P := P) hi hφ hheap (fs := es.set j (k, v, n)) (fs' := es'.modify j fun e => { e with val := uv }) (c' := clock) (by rw [modify_set es' j e _ he]; exact hm.set j rke rv rne)
      refine ⟨_, ?_, hW'⟩
      have hfi' : es'.findIdx? (fun e => (e.born : Int) == born) = some j := by
        rw [hm.findIdx] at hfi
        rw [← hfi]
        obtain ⟨l⟩ := es'
        simp
      simp only [Instr.entryStore, Sem.run_bind, Result.andThen_ok, run_getMap hheap, asInt, asIntOf, Sem.run_pure, hfi', hrun]
    · cases h
  · cases h

end
end Go.Dv

/- One operation on an abstract state, and that the model's own does what it says (own work). -/

namespace Go.Dv

abbrev CallF := FuncId → List AV → AH → Option (AV × AH)

/-- A table of calls is right: what it answers the model's call answers, in every world. -/
def CallOk (P : Program) (w0 : World) (Pr : Nat → Prop) (call : CallF) : Prop :=
  ∀ f args H v H', call f args H = some (v, H') → ∀ φ w (vs : Array Value), WR w0 Pr φ H w → VRs φ args vs.toList →
    Calls P f vs w fun e w' => ∃ φ' u, φ.le φ' ∧ e = .returned u ∧ VR φ' v u ∧ WR w0 Pr φ' H' w'

/-- What a program's text fixes: which function a method's name means at a type; and calls whose answer is known. -/
structure Cfg (P : Program) where
  orc : CallF
  orcOk : ∀ w0 Pr, CallOk P w0 Pr orc
  meth : TypeId → String → Option FuncId
  methOk : ∀ t n f, meth t n = some f → ∀ (v : Value) (w : World), (method (P.types.size + Made.depth) t v n).run P w = .ok (f, v) w
  name : ∀ (f : Nat) (g : Func), P.funcs[f]? = some g → (g.name == "runtime.NumGoroutine") = false
  mixed : P.follows .mixedOrders = true

def intBinA (op : BinOp) (k : IntKind) (a b : Int) : Option AV :=
  match op with
  | .add => some (.int k (k.wrap (a + b)))
  | .sub => some (.int k (k.wrap (a - b)))
  | .mul => some (.int k (k.wrap (a * b)))
  | .quo => if b = 0 then none else some (.int k (k.wrap (a.tdiv b)))
  | .rem => if b = 0 then none else some (.int k (a.tmod b))
  | .eql => some (.bool (a == b))
  | .neq => some (.bool (a != b))
  | .lss => some (.bool (decide (a < b)))
  | .leq => some (.bool (decide (a ≤ b)))
  | .gtr => some (.bool (decide (a > b)))
  | .geq => some (.bool (decide (a ≥ b)))
  | _ => none

/-- The same, where the model compares without a further look. -/
def eqVG (P : Program) (t : TypeId) (x y : AV) : Option Bool :=
  match x, y with
  | .int _ _, _ => none
  | .str _, _ => none
  | _, _ => if P.eqGuardType P.depth t then none else eqVA P 6 t x y

def eqA (P : Program) (t : TypeId) (H : AH) (x y : AV) : Option Bool :=
  match P.underlying t with
  | some (.slice _) => match x, y with
    | .nilSlice, .nilSlice => some true
    | .nilSlice, .slice .. => some false
    | .slice .., .nilSlice => some false
    | _, _ => none
  | some (.map _ _) => match x, y with
    | .nilMap, .nilMap => some true
    | .nilMap, .map _ => some false
    | .map _, .nilMap => some false
    | _, _ => none
  | some (.func _ _ _) => match x, y with
    | .nilFunc, .nilFunc => some true
    | .nilFunc, .func .. => some false
    | .func .., .nilFunc => some false
    | _, _ => none
  | some (.interface _) => match x, y with
    | .nilIface, .iface .. => some false
    | .iface .., .nilIface => some false
    | .iface t _, .iface u _ => if t = u then none else some false
    | _, _ => none
  | some (.pointer e) => match x, y with
    | .nilPtr, .nilPtr => some true
    | .nilPtr, .ptr .. => some false
    | .ptr .., .nilPtr => some false
    | .ptr i k, .ptr j l => if P.cellsOf e = 0 then none else (P.info? e).bind fun _ =>
      if i = j then some (k == l) else match H[i]?, H[j]? with
        | some (.cells _ _), some (.cells _ _) => some false
        | _, _ => none
    | _, _ => none
  | _ => eqVG P t x y

def rhoOf (ev : Operand → Option AV) : Operand → Value := fun x => ((ev x).bind toV).getD undef

def notSelect : Op → Bool
  | .select .. => false
  | _ => true

/-- An operation on values that lead to no block, that touches no memory: the model's own. -/
def pureA (P : Program) (ev : Operand → Option AV) (o : Oper) : Option ANext :=
  if notSelect o.op && o.op.operands.toList.all (fun x => ((ev x).bind toV).isSome) then
    match pureRun P (execOp (rhoOf ev) o) with
    | some (.value v) => (ofV 6 v).map .val
    | _ => none
  else none

def evL (ev : Operand → Option AV) : List Operand → Option (List AV)
  | [] => some []
  | x :: xs => (ev x).bind fun v => (evL ev xs).map (v :: ·)

def evP (ev : Operand → Option AV) : List (Nat × Operand) → Option (List (Nat × AV))
  | [] => some []
  | (i, x) :: xs => (ev x).bind fun v => (evP ev xs).map ((i, v) :: ·)

def evO (ev : Operand → Option AV) : Option Operand → Option (Option AV)
  | none => some none
  | some x => (ev x).map some

def lenA (P : Program) (t : TypeId) (H : AH) (x : AV) : Option AV :=
  match P.underlying t with
  | some (.slice _) => match x with
    | .slice _ _ _ len _ _ => some (.int .i64 len)
    | .nilSlice => some (.int .i64 0)
    | _ => none
  | some .string => match x with
    | .str s => some (.int .i64 s.size)
    | _ => none
  | some (.map _ _) => (entriesA H x).map fun es => .int .i64 es.length
  | _ => none

def callA (P : Program) (C : Cfg P) (slot : Option Nat) (ev : Operand → Option AV) (o : Oper) (c : Call) (H : AH) : Option (ANext × AH) :=
  match c.callee with
  | .value f => (ev f).bind fun fv => (evL ev c.args.toList).bind fun as =>
    match fv with
    | .func (.func g) first cap => (P.funcs[g]?).bind fun fn => if fn.body.isSome then some (.enter g (first ++ as ++ cap), H) else none
    | _ => none
  | .invoke r name => (ev r).bind fun rv => (evL ev c.args.toList).bind fun as =>
    match rv with
    | .iface t v => (C.meth t name).bind fun g => (P.funcs[g]?).bind fun fn => if fn.body.isSome then some (.enter g (v :: as), H) else none
    | _ => none
  | .builtin b => (evL ev c.args.toList).bind fun as =>
    match b, as with
    | .len, [x] => ((c.argTypes[0]?).bind fun t => lenA P t H x).map fun v => (.val v, H)
    | .append, [s, x] => ((c.argTypes[0]?).bind fun t => appendA P slot t c.argTypes[1]? s x H).map fun (v, H') => (.val v, H')
    | .clear, [x] => ((c.argTypes[0]?).bind fun t => clearA P t x H).map fun H' => (.val (.tuple []), H')
    | .copy, [d, s] => ((c.argTypes[0]?).bind fun t => copyA P t d s H).map fun (v, H') => (.val v, H')
    | _, _ => (pureA P ev o).map fun n => (n, H)

def nilCheckA : AV → Option AV
  | .nilPtr | .nilIface | .nilFunc => none
  | .func (.method _) _ _ => none
  | .junk => none
  | v => some v

/-- the bytes of cells -/
def bytesOfA : List AV → Option (List Int)
  | [] => some []
  | .int .u8 n :: l => (bytesOfA l).map (n :: ·)
  | _ => none
def packB (ns : List Int) : ByteArray := ns.foldl (fun r n => r.push (UInt8.ofNat n.toNat)) ByteArray.empty
/-- a slice of bytes as a string -/
def strA (P : Program) (H : AH) (t u : TypeId) (v : AV) : Option ByteArray :=
  match P.underlying t, P.underlying u with
  | some (.slice e), some .string => match P.underlying e with
    | some (.int .u8) => match v with
      | .nilSlice => some .empty
      | .slice i k es len _ _ => if es = 1 ∧ 0 < len then (rdCells H i k len).bind fun cs => (bytesOfA cs).map packB else none
      | _ => none
    | _ => none
  | _, _ => none

def aop (P : Program) (C : Cfg P) (slot : Option Nat) (ev : Operand → Option AV) (o : Oper) (H : AH) : Option (ANext × AH) :=
  match o.op with
  | .move x => (ev x).map fun v => (.val v, H)
  | .assign x => (ev x).map fun v => (.val v, H)
  | .pick c a b => (ev c).bind fun cv => match cv with
    | .bool true => (ev a).map fun v => (.val v, H)
    | .bool false => (ev b).map fun v => (.val v, H)
    | _ => none
  | .alloc elem => (zeroA P elem).bind fun z => (put slot H (.cells z.cells elem)).map fun (i, H') => (.val (.ptr i 0), H')
  | .box elem x => (ev x).bind fun v => (put slot H (.cells v.cells elem)).map fun (i, H') => (.val (.ptr i 0), H')
  | .build t ps => (evP ev ps.toList).bind fun qs => (buildA P t qs).map fun v => (.val v, H)
  | .buildSlice t len ps => (evP ev ps.toList).bind fun qs => (buildSliceA P slot t len qs H).map fun (v, H') => (.val v, H')
  | .load t a => (ev a).bind fun av => match av with
    | .ptr i k => (ldA P t H i k).map fun v => (.val v, H)
    | _ => none
  | .store t a x => (ev a).bind fun av => (ev x).bind fun xv => match av with
    | .ptr i k => (stA P t H i k xv).map fun H' => (.skip, H')
    | _ => none
  | .nilCheck x => (ev x).bind fun v => (nilCheckA v).map fun v => (.val v, H)
  | .binOp op t x y _ => (ev x).bind fun xv => (ev y).bind fun yv =>
    match xv, yv with
    | .int k a, .int k' b => match (if k = k' then intBinA op k a b else none) with
      | some v => some (.val v, H)
      | none => (pureA P ev o).map fun n => (n, H)
    | _, _ => match op, eqA P t H xv yv with
      | .eql, some r => some (.val (.bool r), H)
      | .neq, some r => some (.val (.bool (!r)), H)
      | _, _ => (pureA P ev o).map fun n => (n, H)
  | .makeInterface t x => (ev x).bind fun v => match P.underlying t with
    | some (.interface _) => none
    | some _ => some (.val (.iface t v), H)
    | none => none
  | .makeFunc fn first cap => (evL ev first.toList).bind fun f => (evL ev cap.toList).map fun c => (.val (.func fn f c), H)
  | .makeMap _ none => (put slot H (.map [] 0)).map fun (i, H') => (.val (.map i), H')
  | .makeSlice t l c => (ev l).bind fun lv => (ev c).bind fun cv => (makeSliceA P slot t lv cv H).map fun (v, H') => (.val v, H')
  | .slice t x lo hi mx => (ev x).bind fun xv => (evO ev lo).bind fun l => (evO ev hi).bind fun h => (evO ev mx).bind fun m =>
    match sliceA P t H xv l h m with
    | some v => some (.val v, H)
    | none => (pureA P ev o).map fun n => (n, H)
  | .fieldAddr t x f => (ev x).bind fun xv => (fieldAddrA P t xv f).map fun v => (.val v, H)
  | .field t x f => (ev x).bind fun xv => (fieldA P t xv f).map fun v => (.val v, H)
  | .indexAddr t x ix => (ev x).bind fun xv => (ev ix).bind fun iv => (indexAddrA P t xv iv).map fun v => (.val v, H)
  | .lookup t m k ok => (ev m).bind fun mv => (ev k).bind fun kv => (lookupA P t mv kv ok H).map fun v => (.val v, H)
  | .mapEntry t m k => (ev m).bind fun mv => (ev k).bind fun kv => (mapEntryA P t mv kv H).map fun (v, H') => (.val v, H')
  | .entryStore _ m s x => (ev m).bind fun mv => (ev s).bind fun sv => (ev x).bind fun xv => (entryStoreA mv sv xv H).map fun H' => (.skip, H')
  | .mapUpdate t m k v => (ev m).bind fun mv => (ev k).bind fun kv => (ev v).bind fun vv => (mapPutA P t mv kv vv H).map fun H' => (.skip, H')
  | .insert t m k v => (ev m).bind fun mv => (ev k).bind fun kv => (ev v).bind fun vv => (mapPutA P t mv kv vv H).map fun H' => (.skip, H')
  | .extract t ix => (ev t).bind fun tv => match tv with
    | .tuple vs => (vs[ix]?).map fun v => (.val v, H)
    | _ => none
  | .call c => callA P C slot ev o c H
  | .convert t u x => match pureA P ev o with
    | some n => some (n, H)
    | none => (ev x).bind fun v => (strA P H t u v).map fun s => (.val (.str s), H)
  | _ => (pureA P ev o).map fun n => (n, H)

end Go.Dv
