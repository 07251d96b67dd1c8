/- Abstract values and heaps over the model's worlds: the relation between an abstract state and a world (own work). -/
import Derived.Orders
import Derived.Below
import Derived.Laws.Sem

namespace Go.Dv

/-- Abstract values: blocks by an abstract number; a slice's capacity may be left open. -/
inductive AV where
  | int (k : IntKind) (n : Int)
  | bool (b : Bool)
  | str (s : ByteArray)
  | nilPtr
  | ptr (i k : Nat)
  | nilSlice
  | slice (i k es len cap : Nat) (ex : Bool)
  | nilMap
  | map (i : Nat)
  | func (fn : Fn) (first captured : List AV)
  | nilFunc
  | iface (t : TypeId) (v : AV)
  | nilIface
  | agg (cs : List AV)
  | tuple (vs : List AV)
  | junk
  deriving Inhabited

def undefA : AV := .tuple []

def AV.cells : AV → List AV
  | .agg cs => cs
  | v => [v]

/-- Where an abstract block lies: block, offset, the block's cells. -/
abbrev Env := Nat → Option (Nat × Nat × Nat)

mutual
def VR (φ : Env) : AV → Value → Prop
  | .int k n, v => v = .int k n
  | .bool b, v => v = .bool b
  | .str s, v => v = .string s
  | .nilPtr, v => v = .pointer none
  | .ptr i k, v => ∃ b o z, φ i = some (b, o, z) ∧ v = .pointer (some ⟨b, o + k, none⟩)
  | .nilSlice, v => v = .slice none 0 0
  | .slice i k es len cap ex, v => ∃ a c, v = .slice (some a) len c ∧ len ≤ cap ∧ (cap ≤ c ∧ (ex = true → c = cap)) ∧
      (c = 0 ∨ ∃ b o z, φ i = some (b, o, z) ∧ a = ⟨b, o + k, none⟩ ∧ o + k + c * es ≤ z)
  | .nilMap, v => v = .map none
  | .map i, v => ∃ b z, φ i = some (b, 0, z) ∧ v = .map (some b)
  | .func fn f c, v => ∃ f' c' : Array Value, v = .func fn f' c' ∧ VRs φ f f'.toList ∧ VRs φ c c'.toList
  | .nilFunc, v => v = .nilFunc
  | .iface t x, v => ∃ u, v = .iface t u ∧ VR φ x u
  | .nilIface, v => v = .nilIface
  | .agg cs, v => ∃ us : Array Value, v = .agg us ∧ VRs φ cs us.toList
  | .tuple cs, v => ∃ us : Array Value, v = .tuple us ∧ VRs φ cs us.toList
  | .junk, v => v.oneCell' = true ∧ ∀ b, v ≠ .bool b
def VRs (φ : Env) : List AV → List Value → Prop
  | [], l => l = []
  | x :: xs, l => ∃ u us, l = u :: us ∧ VR φ x u ∧ VRs φ xs us
end

def Env.le (φ ψ : Env) : Prop := ∀ i x, φ i = some x → ψ i = some x
theorem Env.le_refl (φ : Env) : φ.le φ := fun _ _ h => h
theorem Env.le_trans {φ ψ χ : Env} (h : φ.le ψ) (k : ψ.le χ) : φ.le χ := fun i x e => k i x (h i x e)

mutual
theorem VR.mono {φ ψ : Env} (h : φ.le ψ) : ∀ (x : AV) (v : Value), VR φ x v → VR ψ x v
  | .int .., _, r => r
  | .bool .., _, r => r
  | .str .., _, r => r
  | .nilPtr, _, r => r
  | .ptr .., _, ⟨b, o, z, e, r⟩ => ⟨b, o, z, h _ _ e, r⟩
  | .nilSlice, _, r => r
  | .slice .., _, ⟨a, c, r, s, t, u⟩ => ⟨a, c, r, s, t, u.imp id fun ⟨b, o, z, e, q⟩ => ⟨b, o, z, h _ _ e, q⟩⟩
  | .nilMap, _, r => r
  | .map .., _, ⟨b, z, e, r⟩ => ⟨b, z, h _ _ e, r⟩
  | .func _ f c, _, ⟨f', c', e, r, s⟩ => ⟨f', c', e, VRs.mono h f _ r, VRs.mono h c _ s⟩
  | .nilFunc, _, r => r
  | .iface _ x, _, ⟨u, e, r⟩ => ⟨u, e, VR.mono h x _ r⟩
  | .nilIface, _, r => r
  | .agg cs, _, ⟨us, e, r⟩ => ⟨us, e, VRs.mono h cs _ r⟩
  | .tuple cs, _, ⟨us, e, r⟩ => ⟨us, e, VRs.mono h cs _ r⟩
  | .junk, _, r => r
theorem VRs.mono {φ ψ : Env} (h : φ.le ψ) : ∀ (xs : List AV) (l : List Value), VRs φ xs l → VRs ψ xs l
  | [], _, r => r
  | x :: xs, _, ⟨u, us, e, r, s⟩ => ⟨u, us, e, VR.mono h x _ r, VRs.mono h xs _ s⟩
end

theorem VRs.nil (φ : Env) : VRs φ [] [] := rfl
theorem VRs.cons {φ : Env} {x : AV} {v : Value} {xs : List AV} {vs : List Value} (h : VR φ x v) (hs : VRs φ xs vs) : VRs φ (x :: xs) (v :: vs) := ⟨v, vs, rfl, h, hs⟩
theorem VRs.one {φ : Env} {x : AV} {v : Value} (h : VR φ x v) : VRs φ [x] [v] := .cons h (.nil φ)
theorem VRs.length {φ : Env} : ∀ {xs : List AV} {vs : List Value}, VRs φ xs vs → xs.length = vs.length
  | [], _, h => by rw [show _ = [] from h]; rfl
  | _ :: _, _, ⟨_, _, e, _, hs⟩ => by rw [e, List.length_cons, List.length_cons, hs.length]
theorem VRs.get {φ : Env} : ∀ {xs : List AV} {vs : List Value}, VRs φ xs vs → ∀ (i : Nat) (x : AV), xs[i]? = some x → ∃ v, vs[i]? = some v ∧ VR φ x v
  | [], _, _, i, x, hi => by simp at hi
  | y :: xs, _, ⟨u, us, e, r, hs⟩, 0, x, hi => by subst e; simp at hi; subst hi; exact ⟨u, rfl, r⟩
  | y :: xs, _, ⟨u, us, e, r, hs⟩, i + 1, x, hi => by subst e; simp at hi; simpa using hs.get i x hi
theorem VRs.of_get {φ : Env} : ∀ {xs : List AV} {vs : List Value}, xs.length = vs.length → (∀ (i : Nat) (x : AV) (v : Value), xs[i]? = some x → vs[i]? = some v → VR φ x v) → VRs φ xs vs
  | [], [], _, _ => rfl
  | [], _ :: _, h, _ => by simp at h
  | _ :: _, [], h, _ => by simp at h
  | x :: xs, v :: vs, h, g => .cons (g 0 x v rfl rfl) (VRs.of_get (by simpa using h) fun i y u hy hu => g (i + 1) y u (by simpa using hy) (by simpa using hu))
theorem VRs.append {φ : Env} : ∀ {xs : List AV} {vs : List Value} {ys : List AV} {us : List Value}, VRs φ xs vs → VRs φ ys us → VRs φ (xs ++ ys) (vs ++ us)
  | [], _, _, _, h, k => by rw [show _ = [] from h]; exact k
  | _ :: _, _, _, _, ⟨u, us, e, r, hs⟩, k => by subst e; exact .cons r (hs.append k)
theorem VRs.take {φ : Env} {xs : List AV} {vs : List Value} (h : VRs φ xs vs) (n : Nat) : VRs φ (xs.take n) (vs.take n) :=
  .of_get (by simp [h.length]) fun i x v hx hv => by
    rw [List.getElem?_take] at hx hv
    split at hx
    · rename_i hlt
      rw [if_pos hlt] at hv
      obtain ⟨u, hu, r⟩ := h.get i x hx
      rw [hu] at hv; cases hv; exact r
    · cases hx
theorem VRs.drop {φ : Env} {xs : List AV} {vs : List Value} (h : VRs φ xs vs) (n : Nat) : VRs φ (xs.drop n) (vs.drop n) :=
  .of_get (by simp [h.length]) fun i x v hx hv => by
    rw [List.getElem?_drop] at hx hv
    obtain ⟨u, hu, r⟩ := h.get _ x hx
    rw [hu] at hv; cases hv; exact r
theorem VRs.set {φ : Env} {xs : List AV} {vs : List Value} (h : VRs φ xs vs) (n : Nat) {x : AV} {v : Value} (hx : VR φ x v) : VRs φ (xs.set n x) (vs.set n v) :=
  .of_get (by simp [h.length]) fun i y u hy hu => by
    rw [List.getElem?_set] at hy hu
    split at hy
    · rename_i e; subst e
      rw [if_pos rfl] at hu
      split at hy
      · rename_i hl; rw [if_pos (h.length ▸ hl)] at hu; cases hy; cases hu; exact hx
      · cases hy
    · rename_i e
      rw [if_neg e] at hu
      obtain ⟨v', hv', r⟩ := h.get i y hy
      rw [hv'] at hu; cases hu; exact r

theorem VR.cells {φ : Env} {x : AV} {v : Value} (h : VR φ x v) : VRs φ x.cells v.cells.toList := by
  cases x <;> simp only [AV.cells]
  case agg cs => obtain ⟨us, rfl, r⟩ := h; exact r
  all_goals (have h' := h; simp only [VR] at h)
  case int => subst h; exact .one h'
  case bool => subst h; exact .one h'
  case str => subst h; exact .one h'
  case nilPtr => subst h; exact .one h'
  case nilSlice => subst h; exact .one h'
  case nilMap => subst h; exact .one h'
  case nilFunc => subst h; exact .one h'
  case nilIface => subst h; exact .one h'
  case ptr => obtain ⟨b, o, z, e, rfl⟩ := h; exact .one h'
  case slice => obtain ⟨a, c, rfl, _⟩ := h; exact .one h'
  case junk => cases v <;> first | exact .one h' | (simp [Value.oneCell'] at h)
  case map => obtain ⟨b, z, e, rfl⟩ := h; exact .one h'
  case func => obtain ⟨f', c', rfl, _⟩ := h; exact .one h'
  case iface => obtain ⟨u, rfl, _⟩ := h; exact .one h'
  case tuple => obtain ⟨us, rfl, _⟩ := h; exact .one h'

mutual
/-- The value of an abstract value that leads to no block. -/
def toV : AV → Option Value
  | .int k n => some (.int k n)
  | .bool b => some (.bool b)
  | .str s => some (.string s)
  | .nilPtr => some (.pointer none)
  | .nilSlice => some (.slice none 0 0)
  | .nilMap => some (.map none)
  | .nilFunc => some .nilFunc
  | .nilIface => some .nilIface
  | .iface t x => (toV x).map (.iface t)
  | .agg cs => (toVs cs).map fun l => .agg l.toArray
  | .tuple cs => (toVs cs).map fun l => .tuple l.toArray
  | .func fn f c => (toVs f).bind fun l => (toVs c).map fun m => .func fn l.toArray m.toArray
  | .ptr .. | .slice .. | .map .. | .junk => none
def toVs : List AV → Option (List Value)
  | [] => some []
  | x :: xs => (toV x).bind fun v => (toVs xs).map (v :: ·)
end

mutual
theorem toV_spec {φ : Env} : ∀ (x : AV) (v : Value), toV x = some v → ∀ u, VR φ x u → u = v
  | .int .., v, h, u, r => by simp only [toV, Option.some.injEq] at h; subst h; exact r
  | .bool .., v, h, u, r => by simp only [toV, Option.some.injEq] at h; subst h; exact r
  | .str .., v, h, u, r => by simp only [toV, Option.some.injEq] at h; subst h; exact r
  | .nilPtr, v, h, u, r => by simp only [toV, Option.some.injEq] at h; subst h; exact r
  | .nilSlice, v, h, u, r => by simp only [toV, Option.some.injEq] at h; subst h; exact r
  | .nilMap, v, h, u, r => by simp only [toV, Option.some.injEq] at h; subst h; exact r
  | .nilFunc, v, h, u, r => by simp only [toV, Option.some.injEq] at h; subst h; exact r
  | .nilIface, v, h, u, r => by simp only [toV, Option.some.injEq] at h; subst h; exact r
  | .ptr .., v, h, u, r => by simp [toV] at h
  | .slice .., v, h, u, r => by simp [toV] at h
  | .map .., v, h, u, r => by simp [toV] at h
  | .junk, v, h, u, r => by simp [toV] at h
  | .iface t x, v, h, u, ⟨u', e, r⟩ => by
    simp only [toV, Option.map_eq_some_iff] at h
    obtain ⟨y, hy, rfl⟩ := h
    rw [e, toV_spec x y hy u' r]
  | .agg cs, v, h, u, ⟨us, e, r⟩ => by
    simp only [toV, Option.map_eq_some_iff] at h
    obtain ⟨y, hy, rfl⟩ := h
    rw [e, ← toVs_spec cs y hy _ r]
  | .tuple cs, v, h, u, ⟨us, e, r⟩ => by
    simp only [toV, Option.map_eq_some_iff] at h
    obtain ⟨y, hy, rfl⟩ := h
    rw [e, ← toVs_spec cs y hy _ r]
  | .func fn f c, v, h, u, ⟨f', c', e, r, s⟩ => by
    simp only [toV, Option.bind_eq_some_iff, Option.map_eq_some_iff] at h
    obtain ⟨y, hy, z, hz, rfl⟩ := h
    rw [e, ← toVs_spec f y hy _ r, ← toVs_spec c z hz _ s]
theorem toVs_spec {φ : Env} : ∀ (xs : List AV) (l : List Value), toVs xs = some l → ∀ m, VRs φ xs m → m = l
  | [], l, h, m, r => by simp only [toVs, Option.some.injEq] at h; subst h; exact r
  | x :: xs, l, h, m, ⟨u, us, e, r, s⟩ => by
    simp only [toVs, Option.bind_eq_some_iff, Option.map_eq_some_iff] at h
    obtain ⟨y, hy, z, hz, rfl⟩ := h
    rw [e, toV_spec x y hy u r, toVs_spec xs z hz us s]
end

/-- The abstract value of a value that leads to no block. -/
def ofV : Nat → Value → Option AV
  | 0, _ => none
  | n + 1, v => match v with
    | .int k n => some (.int k n)
    | .bool b => some (.bool b)
    | .string s => some (.str s)
    | .pointer none => some .nilPtr
    | .slice none 0 0 => some .nilSlice
    | .map none => some .nilMap
    | .nilFunc => some .nilFunc
    | .nilIface => some .nilIface
    | .iface t x => (ofV n x).map (.iface t)
    | .agg cs => (ofVs (ofV n) cs.toList).map .agg
    | .tuple cs => (ofVs (ofV n) cs.toList).map .tuple
    | .func fn f c => (ofVs (ofV n) f.toList).bind fun l => (ofVs (ofV n) c.toList).map fun m => .func fn l m
    | _ => none
where ofVs (g : Value → Option AV) : List Value → Option (List AV)
  | [] => some []
  | x :: xs => (g x).bind fun v => (ofVs g xs).map (v :: ·)

theorem ofVs_spec {φ : Env} {g : Value → Option AV} (hg : ∀ v x, g v = some x → VR φ x v) : ∀ (l : List Value) (xs : List AV), ofV.ofVs g l = some xs → VRs φ xs l
  | [], xs, h => by simp only [ofV.ofVs, Option.some.injEq] at h; subst h; exact .nil φ
  | v :: l, xs, h => by
    simp only [ofV.ofVs, Option.bind_eq_some_iff, Option.map_eq_some_iff] at h
    obtain ⟨y, hy, z, hz, rfl⟩ := h
    exact .cons (hg v y hy) (ofVs_spec hg l z hz)

theorem ofV_spec {φ : Env} : ∀ (n : Nat) (v : Value) (x : AV), ofV n v = some x → VR φ x v
  | 0, _, _, h => by simp [ofV] at h
  | n + 1, v, x, h => by
    have ih := ofV_spec (φ := φ) n
    unfold ofV at h
    split at h
    case h_9 => 
      simp only [Option.map_eq_some_iff] at h
      obtain ⟨y, hy, rfl⟩ := h
      exact ⟨_, rfl, ih _ _ hy⟩
    case h_10 => 
      simp only [Option.map_eq_some_iff] at h
      obtain ⟨y, hy, rfl⟩ := h
      exact ⟨_, rfl, ofVs_spec ih _ _ hy⟩
    case h_11 => 
      simp only [Option.map_eq_some_iff] at h
      obtain ⟨y, hy, rfl⟩ := h
      exact ⟨_, rfl, ofVs_spec ih _ _ hy⟩
    case h_12 => 
      simp only [Option.bind_eq_some_iff, Option.map_eq_some_iff] at h
      obtain ⟨y, hy, z, hz, rfl⟩ := h
      exact ⟨_, _, rfl, ofVs_spec ih _ _ hy, ofVs_spec ih _ _ hz⟩
    all_goals first
      | (simp only [Option.some.injEq] at h; subst h; rfl)
      | cases h

end Go.Dv
