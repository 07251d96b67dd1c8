/- Texts of the evaluator and of the laws' walks, put together in the order of their build: T76, T77, T78, T79, T80 (own work). -/
import Derived.Test.YtepcdjpenahnpaaM12

/- The plain law of the groups: both number the classes that the races make, by first occurrence (own work). -/
namespace Go.Dv
open Go.Proofs
set_option linter.unusedSimpArgs false
set_option linter.unusedVariables false

def rc (l : List E6) (i k : Nat) : Bool := match l[i]?, l[k]? with
  | some x, some y => x.race y
  | _, _ => false
theorem stepG_rc {l : List E6} {k i : Nat} (xs : List Nat) (hi : i < l.length) (hk : k < l.length) : stepG l k xs i = if xs.getD i 0 ≠ xs.getD k 0 ∧ rc l i k = true then joinS xs i k else xs := by
  simp only [stepG, rc, List.getElem?_eq_getElem hi, List.getElem?_eq_getElem hk]
  by_cases h : xs.getD i 0 = xs.getD k 0
  · rw [if_neg (by rw [h]; simp), if_neg fun e => e.1 h]
  · have : (((xs.getD i 0 : Nat) : Int) != ((xs.getD k 0 : Nat) : Int)) = true := bne_iff_ne.2 fun e => h (by omega)
    rw [this, Bool.true_and]
    by_cases hr : l[i].race l[k] = true
    · rw [if_pos hr, if_pos ⟨h, hr⟩]
    · rw [if_neg hr, if_neg fun e => hr e.2]

/-- joined by races -/
def Conn (l : List E6) (a b : Nat) : Prop := ∀ f : Nat → Nat, (∀ i k, i < k → k < l.length → rc l i k = true → f i = f k) → f a = f b
theorem Conn.refl (l : List E6) (a : Nat) : Conn l a a := fun _ _ => rfl
theorem Conn.symm {l : List E6} {a b : Nat} (h : Conn l a b) : Conn l b a := fun f hf => (h f hf).symm
theorem Conn.trans {l : List E6} {a b c : Nat} (h : Conn l a b) (h' : Conn l b c) : Conn l a c := fun f hf => (h f hf).trans (h' f hf)
theorem Conn.base {l : List E6} {i k : Nat} (hik : i < k) (hk : k < l.length) (hr : rc l i k = true) : Conn l i k := fun f hf => hf i k hik hk hr

/-! race.Groups -/
structure GInv (l : List E6) (D : Nat → Nat → Prop) (xs : List Nat) : Prop where
  len : xs.length = l.length
  snd : ∀ a b, a < l.length → b < l.length → xs.getD a 0 = xs.getD b 0 → Conn l a b
  cpl : ∀ i k, D i k → i < k → k < l.length → rc l i k = true → xs.getD i 0 = xs.getD k 0
theorem joinS_getD {xs : List Nat} {i k a : Nat} (ha : a < xs.length) : (joinS xs i k).getD a 0 = jf (xs.getD k 0) (xs.getD i 0) (xs.getD a 0) := by
  simp only [joinS, List.getD_eq_getElem?_getD, List.getElem?_map, List.getElem?_eq_getElem ha, Option.map_some, Option.getD_some]
theorem GInv.mono {l : List E6} {D E : Nat → Nat → Prop} {xs : List Nat} (h : GInv l D xs) (hE : ∀ a b, E a b → D a b) : GInv l E xs := ⟨h.len, h.snd, fun i k e => h.cpl i k (hE i k e)⟩
theorem GInv.step {l : List E6} {D : Nat → Nat → Prop} {xs : List Nat} (h : GInv l D xs) {i k : Nat} (hik : i < k) (hk : k < l.length) : GInv l (fun a b => D a b ∨ (b = k ∧ a = i)) (stepG l k xs i) := by
  rw [stepG_rc xs (by omega) hk]
  split
  · rename_i hc
    have hl := h.len
    have cik := Conn.base hik hk hc.2
    refine ⟨by simp [joinS, hl], fun a b ha hb he => ?_, fun a b hD hab hb hr => ?_⟩
    · rw [joinS_getD (by omega), joinS_getD (by omega)] at he
      unfold jf at he
      split at he <;> split at he
      · rename_i e1 e2; exact h.snd a b ha hb (e1.trans e2.symm)
      · rename_i e1 e2
        exact ((h.snd a k ha hk e1).trans cik.symm).trans (h.snd i b (by omega) hb he)
      · rename_i e1 e2
        exact ((h.snd a i ha (by omega) he).trans cik).trans (h.snd k b hk hb e2.symm)
      · exact h.snd a b ha hb he
    · rw [joinS_getD (by omega), joinS_getD (by omega)]
      rcases hD with hD | ⟨rfl, rfl⟩
      · rw [h.cpl a b hD hab hb hr]
      · unfold jf; split <;> simp
  · rename_i hc
    refine ⟨h.len, h.snd, fun a b hD hab hb hr => ?_⟩
    rcases hD with hD | ⟨rfl, rfl⟩
    · exact h.cpl a b hD hab hb hr
    · exact Decidable.byContradiction fun hne => hc ⟨hne, hr⟩
theorem GInv.row {l : List E6} {k : Nat} (hk : k < l.length) : ∀ (is : List Nat) {D : Nat → Nat → Prop} {xs : List Nat}, GInv l D xs → (∀ i ∈ is, i < k) → GInv l (fun a b => D a b ∨ (b = k ∧ a ∈ is)) (rowG l k is xs)
  | [], D, xs, h, _ => h.mono fun a b hD => by simpa using hD
  | i :: is, D, xs, h, hi => by
    have h1 := h.step (hi i (by simp)) hk
    have h2 := GInv.row hk is h1 fun j hj => hi j (by simp [hj])
    refine GInv.mono (xs := rowG l k is (stepG l k xs i)) h2 fun a b hD => ?_
    rcases hD with hD | ⟨hb, ha⟩
    · exact .inl (.inl hD)
    · rcases List.mem_cons.1 ha with ha | ha
      · exact .inl (.inr ⟨hb, ha⟩)
      · exact .inr ⟨hb, ha⟩
theorem GInv.all {l : List E6} : ∀ (ks : List Nat) {D : Nat → Nat → Prop} {xs : List Nat}, GInv l D xs → (∀ k ∈ ks, k < l.length) → GInv l (fun a b => D a b ∨ (b ∈ ks ∧ a < b)) (allG l ks xs)
  | [], D, xs, h, _ => h.mono fun a b hD => by simpa using hD
  | k :: ks, D, xs, h, hk => by
    have h1 := h.row (hk k (by simp)) (List.range k) fun i hi => by simpa using hi
    have h2 := GInv.all ks h1 fun j hj => hk j (by simp [hj])
    refine GInv.mono (xs := allG l ks (rowG l k (List.range k) xs)) h2 fun a b hD => ?_
    rcases hD with hD | ⟨hb, hab⟩
    · exact .inl (.inl hD)
    · rcases List.mem_cons.1 hb with hb | hb
      · exact .inl (.inr ⟨hb, by simp; omega⟩)
      · exact .inr ⟨hb, hab⟩
theorem range_getD {n a : Nat} (h : a < n) : (List.range n).getD a 0 = a := by rw [List.getD_eq_getElem?_getD]; simp [h]
theorem groups_conn (l : List E6) : (allG l (List.range l.length) (List.range l.length)).length = l.length ∧ ∀ a b, a < l.length → b < l.length → ((allG l (List.range l.length) (List.range l.length)).getD a 0 = (allG l (List.range l.length) (List.range l.length)).getD b 0 ↔ Conn l a b) := by
  have h0 : GInv l (fun _ _ => False) (List.range l.length) := ⟨by simp, fun a b ha hb he => by rw [range_getD ha, range_getD hb] at he; subst he; exact .refl l a, fun _ _ h => h.elim⟩
  have h1 := h0.all (List.range l.length) fun k hk => by simpa using hk
  refine ⟨h1.len, fun a b ha hb => ⟨h1.snd a b ha hb, fun hc => hc (fun a => (allG l (List.range l.length) (List.range l.length)).getD a 0) fun i k hik hk hr => h1.cpl i k (.inr ⟨by simpa using hk, hik⟩) hik hk hr⟩⟩

/-! ref21.Groups: the fixed point -/
def stepR (l : List E6) (k : Nat) (s : List Nat × Bool) (i : Nat) : List Nat × Bool :=
  if (((s.1.getD i 0 : Nat) : Int) != ((s.1.getD k 0 : Nat) : Int) && rc l i k) = true then ((s.1.set i (min (s.1.getD i 0) (s.1.getD k 0))).set k (min (s.1.getD i 0) (s.1.getD k 0)), true) else s
def rowR (l : List E6) (k : Nat) (is : List Nat) (s : List Nat × Bool) : List Nat × Bool := is.foldl (stepR l k) s
def allR (l : List E6) (ks : List Nat) (s : List Nat × Bool) : List Nat × Bool := ks.foldl (fun s k => rowR l k (List.range k) s) s

structure InvR (l : List E6) (xs : List Nat) : Prop where
  len : xs.length = l.length
  le : ∀ a, a < l.length → xs.getD a 0 ≤ a
  con : ∀ a, a < l.length → Conn l (xs.getD a 0) a
structure PInv (l : List E6) (x0 : List Nat) (D : Nat → Nat → Prop) (s : List Nat × Bool) : Prop where
  inv : InvR l s.1
  no : s.2 = false → s.1 = x0 ∧ ∀ i k, D i k → i < k → k < l.length → rc l i k = true → s.1.getD i 0 = s.1.getD k 0
  yes : s.2 = true → s.1.sum < x0.sum
theorem sum_set : ∀ (xs : List Nat) (i v : Nat), i < xs.length → (xs.set i v).sum + xs.getD i 0 = xs.sum + v
  | [], i, v, h => by simp at h
  | x :: xs, 0, v, h => by simp; omega
  | x :: xs, i + 1, v, h => by
    have := sum_set xs i v (by simpa using h)
    simp at this ⊢; omega
theorem getD_set {xs : List Nat} {i v a : Nat} (hi : i < xs.length) : (xs.set i v).getD a 0 = if i = a then v else xs.getD a 0 := by
  simp only [List.getD_eq_getElem?_getD, List.getElem?_set]
  split
  · first | rfl | (rw [if_pos hi]; rfl)
  · rfl
theorem PInv.mono {l : List E6} {x0 : List Nat} {D E : Nat → Nat → Prop} {s : List Nat × Bool} (h : PInv l x0 D s) (hE : ∀ a b, E a b → D a b) : PInv l x0 E s := ⟨h.inv, fun hc => ⟨(h.no hc).1, fun i k e => (h.no hc).2 i k (hE i k e)⟩, h.yes⟩
theorem PInv.step {l : List E6} {x0 : List Nat} {D : Nat → Nat → Prop} {s : List Nat × Bool} (h : PInv l x0 D s) {i k : Nat} (hik : i < k) (hk : k < l.length) : PInv l x0 (fun a b => D a b ∨ (b = k ∧ a = i)) (stepR l k s i) := by
  obtain ⟨xs, c⟩ := s
  have hl : xs.length = l.length := h.inv.len
  simp only [stepR]
  split
  · rename_i hc
    rw [Bool.and_eq_true] at hc
    have hne : xs.getD i 0 ≠ xs.getD k 0 := by have := hc.1; simp only [bne_iff_ne, ne_eq] at this; omega
    have cik := Conn.base hik hk hc.2
    have li : xs.getD i 0 ≤ i := h.inv.le i (by omega)
    have lk : xs.getD k 0 ≤ k := h.inv.le k hk
    have ci : Conn l (xs.getD i 0) i := h.inv.con i (by omega)
    have ck : Conn l (xs.getD k 0) k := h.inv.con k hk
    have hm : min (xs.getD i 0) (xs.getD k 0) = xs.getD i 0 ∨ min (xs.getD i 0) (xs.getD k 0) = xs.getD k 0 := by omega
    have cmi : Conn l (min (xs.getD i 0) (xs.getD k 0)) i := by
      rcases hm with e | e <;> rw [e]
      · exact ci
      · exact ck.trans cik.symm
    refine ⟨⟨by simp [hl], fun a ha => ?_, fun a ha => ?_⟩, fun hc' => by simp at hc', fun _ => ?_⟩
    · simp only []
      rw [getD_set (by simp; omega), getD_set (by omega)]
      split
      · omega
      · split
        · omega
        · exact h.inv.le a ha
    · simp only []
      rw [getD_set (by simp; omega), getD_set (by omega)]
      split
      · rename_i e; subst e; exact cmi.trans cik
      · split
        · rename_i e; subst e; exact cmi
        · exact h.inv.con a ha
    · have s1 := sum_set xs i (min (xs.getD i 0) (xs.getD k 0)) (by omega)
      have s2 := sum_set (xs.set i (min (xs.getD i 0) (xs.getD k 0))) k (min (xs.getD i 0) (xs.getD k 0)) (by simp; omega)
      rw [getD_set (by omega), if_neg (by omega)] at s2
      have hle : xs.sum ≤ x0.sum := by
        cases c with
        | false => exact Nat.le_of_eq (congrArg List.sum (show xs = x0 from (h.no rfl).1))
        | true => exact Nat.le_of_lt (h.yes rfl)
      simp only []
      omega
  · rename_i hc
    refine ⟨h.inv, fun hf => ⟨(h.no hf).1, fun a b hD hab hb hr => ?_⟩, h.yes⟩
    rcases hD with hD | ⟨rfl, rfl⟩
    · exact (h.no hf).2 a b hD hab hb hr
    · refine Decidable.byContradiction fun hne => hc ?_
      simp only [hr, Bool.and_true, bne_iff_ne, ne_eq]
      intro e; exact hne (by simp only []; omega)
theorem PInv.row {l : List E6} {x0 : List Nat} {k : Nat} (hk : k < l.length) : ∀ (is : List Nat) {D : Nat → Nat → Prop} {s : List Nat × Bool}, PInv l x0 D s → (∀ i ∈ is, i < k) → PInv l x0 (fun a b => D a b ∨ (b = k ∧ a ∈ is)) (rowR l k is s)
  | [], D, s, h, _ => h.mono fun a b hD => by simpa using hD
  | i :: is, D, s, h, hi => by
    have h1 := h.step (hi i (by simp)) hk
    have h2 := PInv.row hk is h1 fun j hj => hi j (by simp [hj])
    refine PInv.mono (s := rowR l k is (stepR l k s i)) h2 fun a b hD => ?_
    rcases hD with hD | ⟨hb, ha⟩
    · exact .inl (.inl hD)
    · rcases List.mem_cons.1 ha with ha | ha
      · exact .inl (.inr ⟨hb, ha⟩)
      · exact .inr ⟨hb, ha⟩
theorem PInv.all {l : List E6} {x0 : List Nat} : ∀ (ks : List Nat) {D : Nat → Nat → Prop} {s : List Nat × Bool}, PInv l x0 D s → (∀ k ∈ ks, k < l.length) → PInv l x0 (fun a b => D a b ∨ (b ∈ ks ∧ a < b)) (allR l ks s)
  | [], D, s, h, _ => h.mono fun a b hD => by simpa using hD
  | k :: ks, D, s, h, hk => by
    have h1 := h.row (hk k (by simp)) (List.range k) fun i hi => by simpa using hi
    have h2 := PInv.all ks h1 fun j hj => hk j (by simp [hj])
    refine PInv.mono (s := allR l ks (rowR l k (List.range k) s)) h2 fun a b hD => ?_
    rcases hD with hD | ⟨hb, hab⟩
    · exact .inl (.inl hD)
    · rcases List.mem_cons.1 hb with hb | hb
      · exact .inl (.inr ⟨hb, by simp; omega⟩)
      · exact .inr ⟨hb, hab⟩
/-- one whole pass -/
def passR (l : List E6) (xs : List Nat) : List Nat × Bool := allR l (List.range l.length) (xs, false)
structure FixR (l : List E6) (xs : List Nat) : Prop where
  inv : InvR l xs
  eq : ∀ i k, i < k → k < l.length → rc l i k = true → xs.getD i 0 = xs.getD k 0
theorem pass_inv {l : List E6} {xs : List Nat} (h : InvR l xs) : InvR l (passR l xs).1 ∧ ((passR l xs).2 = false → FixR l (passR l xs).1) ∧ ((passR l xs).2 = true → (passR l xs).1.sum < xs.sum) := by
  have h0 : PInv l xs (fun _ _ => False) (xs, false) := ⟨h, fun _ => ⟨rfl, fun _ _ h => h.elim⟩, fun hc => by simp at hc⟩
  have h1 := h0.all (List.range l.length) fun k hk => by simpa using hk
  exact ⟨h1.inv, fun hc => ⟨h1.inv, fun i k hik hk hr => (h1.no hc).2 i k (.inr ⟨by simpa using hk, hik⟩) hik hk hr⟩, h1.yes⟩
theorem inv_range (l : List E6) : InvR l (List.range l.length) := ⟨by simp, fun a ha => by rw [range_getD ha]; exact Nat.le_refl _, fun a ha => by rw [range_getD ha]; exact .refl l a⟩
theorem FixR.conn {l : List E6} {xs : List Nat} (h : FixR l xs) {a b : Nat} (ha : a < l.length) (hb : b < l.length) : xs.getD a 0 = xs.getD b 0 ↔ Conn l a b := by
  refine ⟨fun he => ?_, fun hc => hc (fun a => xs.getD a 0) h.eq⟩
  have := h.inv.con a ha
  rw [he] at this
  exact this.symm.trans (h.inv.con b hb)
theorem FixR.idem {l : List E6} {xs : List Nat} (h : FixR l xs) {a : Nat} (ha : a < l.length) : xs.getD (xs.getD a 0) 0 = xs.getD a 0 :=
  (h.conn (by have := h.inv.le a ha; omega) ha).2 (h.inv.con a ha)

/-! the numbers -/
def nub (N xs : List Nat) : List Nat := xs.foldl addN N
theorem addN_pre (N : List Nat) (g : Nat) : ∃ M, addN N g = N ++ M := by unfold addN; split; exact ⟨[], by simp⟩; exact ⟨[g], rfl⟩
theorem nub_pre : ∀ (xs N : List Nat), ∃ M, nub N xs = N ++ M
  | [], N => ⟨[], by simp [nub]⟩
  | g :: xs, N => by
    obtain ⟨M, hM⟩ := nub_pre xs (addN N g)
    obtain ⟨M', hM'⟩ := addN_pre N g
    exact ⟨M' ++ M, by rw [nub, List.foldl_cons]; exact hM.trans (by rw [hM', List.append_assoc])⟩
theorem mem_addN (N : List Nat) (g : Nat) : g ∈ addN N g := by unfold addN; split <;> simp_all
theorem idx_pre {N M : List Nat} {g : Nat} (h : g ∈ N) : (N ++ M).idxOf g = N.idxOf g := by rw [List.idxOf_append]; simp [h]
theorem numL_nub : ∀ (xs N : List Nat), numL N xs = xs.map fun g => (nub N xs).idxOf g
  | [], N => rfl
  | g :: xs, N => by
    obtain ⟨M, hM⟩ := nub_pre xs (addN N g)
    rw [numL, numL_nub xs, List.map_cons]
    rw [show nub N (g :: xs) = nub (addN N g) xs from rfl]
    congr 1
    rw [hM, idx_pre (mem_addN N g)]
theorem addN_map {φ : Nat → Nat} {N : List Nat} {g : Nat} (hi : ∀ a ∈ N, φ a = φ g → a = g) : addN (N.map φ) (φ g) = (addN N g).map φ := by
  unfold addN
  by_cases h : g ∈ N
  · rw [if_pos h, if_pos (List.mem_map_of_mem h)]
  · rw [if_neg h, if_neg]
    · simp
    · intro hm
      obtain ⟨a, ha, he⟩ := List.mem_map.1 hm
      exact h (hi a ha he ▸ ha)
theorem mem_addN' {N : List Nat} {g a : Nat} (h : a ∈ addN N g) : a ∈ N ∨ a = g := by
  unfold addN at h
  split at h
  · exact .inl h
  · simpa using h
theorem nub_map {φ : Nat → Nat} {S : List Nat} (hi : ∀ a ∈ S, ∀ b ∈ S, φ a = φ b → a = b) : ∀ (xs N : List Nat), (∀ a ∈ N, a ∈ S) → (∀ a ∈ xs, a ∈ S) → nub (N.map φ) (xs.map φ) = (nub N xs).map φ
  | [], N, _, _ => rfl
  | g :: xs, N, hN, hx => by
    rw [List.map_cons, nub, List.foldl_cons, addN_map fun a ha => hi a (hN a ha) g (hx g (by simp))]
    exact nub_map hi xs (addN N g) (fun a ha => (mem_addN' ha).elim (hN a) fun e => e ▸ hx g (by simp)) fun a ha => hx a (by simp [ha])
theorem nub_mem : ∀ (xs N : List Nat) {a : Nat}, a ∈ nub N xs → a ∈ N ∨ a ∈ xs
  | [], N, a, h => .inl h
  | g :: xs, N, a, h => by
    rcases nub_mem xs (addN N g) h with h | h
    · rcases mem_addN' h with h | h
      · exact .inl h
      · exact .inr (by simp [h])
    · exact .inr (by simp [h])
theorem idx_map {φ : Nat → Nat} {g : Nat} : ∀ (M : List Nat), (∀ a ∈ M, φ a = φ g → a = g) → (M.map φ).idxOf (φ g) = M.idxOf g
  | [], _ => rfl
  | a :: M, h => by
    rw [List.map_cons, List.idxOf_cons, List.idxOf_cons, idx_map M fun b hb => h b (by simp [hb])]
    by_cases e : a = g
    · subst e; simp
    · have : φ a ≠ φ g := fun he => e (h a (by simp) he)
      rw [beq_false_of_ne this, beq_false_of_ne e]
/-- lists with the same pattern have the same numbers -/
theorem numL_same {xs ys : List Nat} (hl : xs.length = ys.length) (h : ∀ a b, a < xs.length → b < xs.length → (xs.getD a 0 = xs.getD b 0 ↔ ys.getD a 0 = ys.getD b 0)) : numL [] xs = numL [] ys := by
  let φ : Nat → Nat := fun g => ys.getD (xs.idxOf g) 0
  have hφ : ∀ a, a < xs.length → φ (xs.getD a 0) = ys.getD a 0 := by
    intro a ha
    have hm : xs.getD a 0 ∈ xs := by rw [List.getD_eq_getElem?_getD, List.getElem?_eq_getElem ha]; exact List.getElem_mem ha
    have hlt := List.idxOf_lt_length_of_mem hm
    refine (h _ a hlt ha).1 ?_
    rw [List.getD_eq_getElem?_getD, List.getElem?_eq_getElem hlt, Option.getD_some, List.getElem_idxOf hlt]
  have hy : ys = xs.map φ := by
    apply List.ext_getElem?
    intro a
    by_cases ha : a < xs.length
    · have := hφ a ha
      rw [List.getElem?_map, List.getElem?_eq_getElem ha, List.getElem?_eq_getElem (by omega), Option.map_some]
      rw [List.getD_eq_getElem?_getD, List.getElem?_eq_getElem ha, List.getD_eq_getElem?_getD, List.getElem?_eq_getElem (by omega : a < ys.length)] at this
      exact congrArg some this.symm
    · rw [List.getElem?_eq_none (by omega), List.getElem?_eq_none (by simp; omega)]
  have hinj : ∀ a ∈ xs, ∀ b ∈ xs, φ a = φ b → a = b := by
    intro a ha b hb he
    obtain ⟨i, hi, rfl⟩ := List.getElem_of_mem ha
    obtain ⟨j, hj, rfl⟩ := List.getElem_of_mem hb
    have e1 : xs.getD i 0 = xs[i] := by rw [List.getD_eq_getElem?_getD, List.getElem?_eq_getElem hi]; rfl
    have e2 : xs.getD j 0 = xs[j] := by rw [List.getD_eq_getElem?_getD, List.getElem?_eq_getElem hj]; rfl
    rw [← e1, ← e2] at he ⊢
    rw [hφ i hi, hφ j hj] at he
    exact (h i j hi hj).2 he
  rw [numL_nub, numL_nub, hy]
  have hn : nub [] (xs.map φ) = (nub [] xs).map φ := nub_map hinj xs [] (by simp) (fun a ha => ha)
  rw [hn, List.map_map]
  apply List.map_congr_left
  intro g hg
  simp only [Function.comp]
  rw [idx_map]
  intro a ha he
  rcases nub_mem xs [] ha with h' | h'
  · simp at h'
  · exact hinj a h' g hg he

/-- the firsts -/
def firsts (xs : List Nat) (n : Nat) : List Nat := (List.range n).filter fun k => xs.getD k 0 = k
theorem nub_firsts {xs : List Nat} (hle : ∀ a, a < xs.length → xs.getD a 0 ≤ a) (hid : ∀ a, a < xs.length → xs.getD (xs.getD a 0) 0 = xs.getD a 0) : ∀ k, k ≤ xs.length → nub [] (xs.take k) = firsts xs k
  | 0, _ => by simp [nub, firsts]
  | k + 1, h => by
    have ih := nub_firsts hle hid k (by omega)
    have hk : k < xs.length := by omega
    have e : xs.getD k 0 = xs[k] := by rw [List.getD_eq_getElem?_getD, List.getElem?_eq_getElem hk]; rfl
    rw [List.take_add_one, List.getElem?_eq_getElem hk, Option.toList_some, nub, List.foldl_append]
    rw [show List.foldl addN [] (xs.take k) = firsts xs k from ih]
    simp only [List.foldl_cons, List.foldl_nil]
    rw [← e]
    have hf : firsts xs (k + 1) = firsts xs k ++ if xs.getD k 0 = k then [k] else [] := by
      simp only [firsts, List.range_succ, List.filter_append]
      congr 1
      by_cases hh : xs.getD k 0 = k
      · rw [if_pos hh, List.filter_cons, if_pos (decide_eq_true hh)]; rfl
      · rw [if_neg hh, List.filter_cons, if_neg (by simpa using hh)]; rfl
    rw [hf]
    by_cases hh : xs.getD k 0 = k
    · rw [if_pos hh]
      unfold addN
      rw [hh, if_neg]
      intro hm
      simp [firsts] at hm
    · rw [if_neg hh, List.append_nil]
      unfold addN
      rw [if_pos]
      have := hle k hk
      simp only [firsts, List.mem_filter, List.mem_range, decide_eq_true_eq]
      exact ⟨by omega, hid k hk⟩
/-- what ref21.Groups yields from the fixed point -/
def numR (xs : List Nat) : List Nat := xs.map fun g => (firsts xs xs.length).idxOf g
theorem fix_mem {l : List E6} {xs : List Nat} (h : FixR l xs) {k : Nat} (hk : k < l.length) : xs.getD k 0 ∈ firsts xs xs.length := by
  have hl := h.inv.len
  have := h.inv.le k hk
  simp only [firsts, List.mem_filter, List.mem_range, decide_eq_true_eq]
  exact ⟨by omega, h.idem hk⟩
theorem groups_law {l : List E6} {xs : List Nat} (h : FixR l xs) : groupsS l = numR xs := by
  obtain ⟨gl, gc⟩ := groups_conn l
  have hl := h.inv.len
  rw [groupsS, numL_same (ys := xs) (by omega) fun a b ha hb => (gc a b (by omega) (by omega)).trans (h.conn (by omega) (by omega)).symm, numL_nub, numR]
  have := nub_firsts (xs := xs) (fun a ha => h.inv.le a (by omega)) (fun a ha => h.idem (by omega)) xs.length (Nat.le_refl _)
  rw [List.take_length] at this
  rw [this]
end Go.Dv

/- ref21.Groups: its drawn regions (printed by t77.py, own work). -/
namespace Go.Dv
open Go.Proofs
set_option maxRecDepth 100000
set_option linter.unusedSimpArgs false
set_option linter.unusedVariables false
attribute [local congr] bind_congr_first

theorem minI_nat (p q : Nat) : minI (p : Int) (q : Int) = ((min p q : Nat) : Int) := by simp only [minI]; split <;> omega
set_option maxHeartbeats 8000000 in
theorem reg36_15 {G : AH} {tm : List AV} {v : AV} {bo n i k ix kx iy ky p q : Nat} {xs : List Nat} {x y : E6} (hlen : tm.length = 123) (h0 : tm.getD 0 undefA = v) (h3 : tm.getD 3 undefA = isl bo n true) (h6 : tm.getD 6 undefA = I k) (h7 : tm.getD 7 undefA = I i) (hin : i < n) (hkn : k < n) (hc : G[bo]? = some (.cells (ic xs) 3)) (hp : xs[i]? = some p) (hq : xs[k]? = some q)
    (hi : indexAddrA Try.prog 22 v (I i) = some (.ptr ix kx)) (hx : rdCells G ix kx 6 = some x.cells) (hk : indexAddrA Try.prog 22 v (I k) = some (.ptr iy ky)) (hy : rdCells G iy ky 6 = some y.cells) :
    ∃ tm', EvC Try.prog C4 d36_15 (tm, G) = some (.normal, (tm', G)) ∧ tm'.length = 123 ∧ tm'.getD 56 undefA = .bool (((p : Int) != (q : Int)) && x.race y) ∧ (∀ t ∈ [0, 3, 5, 6, 7], tm'.getD t undefA = tm.getD t undefA) := by
  have i1 : indexAddrA Try.prog 46 (isl bo n true) (I i) = some (.ptr bo i) := isl_ix hin
  have i2 : indexAddrA Try.prog 46 (isl bo n true) (I k) = some (.ptr bo k) := isl_ix hkn
  have r1 := rdI hc hp
  have r2 := rdI hc hq
  have hx6 : rdCells G ix kx 6 = some [I x.sp, I x.bl, I x.ce, I x.th, I x.ki, I x.ph] := hx
  have hy6 : rdCells G iy ky 6 = some [I y.sp, I y.bl, I y.ce, I y.th, I y.ki, I y.ph] := hy
  have hr : Ev Try.prog C4 24 [evt x.sp x.bl x.ce x.th x.ki x.ph, evt y.sp y.bl y.ce y.th y.ki y.ph] G = some (.bool (x.race y), G) := k4_race ..
  have dd := ed36_15
  simp only [d36_15, opsAt, atPath, Try.f36, Option.getD_some] at dd ⊢
  rw [dd]
  cases hb : ((p : Int) != (q : Int))
  · simp -implicitDefEqProofs only [hlen, h0, h3, h6, h7, i1, i2, r1, r2, hb, Bool.not_true, Bool.not_false, Bool.true_and, Bool.and_true, Bool.false_and, Bool.and_false, Bool.true_or, Bool.or_true, Bool.false_or, Bool.or_false, cond_true, cond_false, boolOf_undef, nb, beq_self_eq_true, Bool.and_self, ↓ld36, ↓ld34, ↓ld38, ↓ld89, ↓ld3, ↓st36, ↓st34, ↓st89, ↓st3, z36, z34, z89, fa36_0, fa36_1, fa38_0, fa38_1, boolOf_undef, nb, ↓q_not, ↓aop_lookup, ↓aop_makeFunc, ↓aop_makeMap, ↓aop_mapUpdate, ↓aop_mapEntry, ↓aop_entryStore, ↓aop_buildSlice, ↓aop_extract, ↓EvC_seq, ↓EvC_skip, ↓EvC_exit, ↓EvC_ret, ↓EvC_block, ↓EvC_cond, ↓ev_region, ↓runL_cons, ↓runL_nil, ↓stepO_none, ↓stepO_guard, ↓aop_move, ↓aop_assign, ↓aop_load, ↓aop_store, ↓aop_alloc, ↓aop_box, ↓aop_nilCheck, ↓aop_fieldAddr, ↓aop_field, ↓aop_indexAddr, ↓aop_binOp, ↓aop_pick, ↓aop_extract, ↓aop_buildSlice, ↓aop_slice, ↓aop_not, ↓aop_call, ↓callA_len, ↓callA_append, ev_tmp, ev_const, ofV_int, ofV_bool, ofV_str, ofV_nilSlice, ofV_nilPtr, putA_some, putA_none, gs_self, gs_ne, List.length_set, Option.bind_some, Option.map_some, intBinA, evL, evO, evP, ne_eq, not_false_eq_true, if_true, if_false, reduceCtorEq, ite_true, ite_false, reduceIte, put_app, AV.cells, and_true, true_and, and_self, decide_true, decide_false, ↓yielded_eq, yv_some, boolOf_bool, List.getElem?_toArray, List.getElem?_cons_zero, List.getElem?_cons_succ, Nat.reduceLT, Nat.reduceEqDiff, beq_self_eq_true, Option.some_beq_some, wr_app, wr_app0, rd_app, rd_app0, rdL_here, rdL_next, wrL_here, wrL_next, spl, List.all_cons, List.all_nil, AV.one, Bool.and_self, Bool.true_and, List.drop_zero, List.take_succ_cons, List.take_zero, List.drop_succ_cons, List.head?_cons, Nat.reduceAdd, Nat.reduceLeDiff, List.length_cons, List.length_nil, List.nil_append, List.cons_append, List.set_cons_zero, List.set_cons_succ, Int.toNat_natCast, Nat.add_zero, b_ft, b_tf, Bool.false_eq_true, ↓rp_done, ↓rp_take, ↓rp_all, ↓ra_nil, ↓ra_first, ↓ra_next, ↓quietO_none, ↓quietO_guard, ↓q_move, ↓q_assign, ↓q_pick, ↓q_binOp, ↓q_field, ↓q_fieldAddr, ↓q_indexAddr, ↓q_nilCheck, set_order, keepV_eq, stBeq_self, ↓rp_graft, put_slot, put_slot_app, List.length_append, List.append_assoc, Nat.add_assoc, ↓aop_build, evP, Bool.true_and, Bool.and_true, Bool.false_and, Bool.and_false, Bool.true_or, Bool.or_true, Bool.false_or, Bool.or_false, Bool.not_true, Bool.not_false]
    refine ⟨_, rfl, by simp only [List.length_set, hlen], by simp only [hlen, gs_self, gs_ne, List.length_set, ne_eq, Nat.reduceEqDiff, Nat.reduceLT, not_false_eq_true], fun t ht => ?_⟩
    simp only [List.mem_cons, List.not_mem_nil, or_false] at ht
    rcases ht with rfl | rfl | rfl | rfl | rfl <;> simp only [hlen, gs_self, gs_ne, List.length_set, ne_eq, Nat.reduceEqDiff, Nat.reduceLT, not_false_eq_true]

  · simp -implicitDefEqProofs only [hlen, h0, h3, h6, h7, hi, hk, hx6, hy6, hr, ↓fc24, i1, i2, r1, r2, hb, Bool.not_true, Bool.not_false, Bool.true_and, Bool.and_true, Bool.false_and, Bool.and_false, Bool.true_or, Bool.or_true, Bool.false_or, Bool.or_false, cond_true, cond_false, boolOf_undef, nb, beq_self_eq_true, Bool.and_self, ↓ld36, ↓ld34, ↓ld38, ↓ld89, ↓ld3, ↓st36, ↓st34, ↓st89, ↓st3, z36, z34, z89, fa36_0, fa36_1, fa38_0, fa38_1, boolOf_undef, nb, ↓q_not, ↓aop_lookup, ↓aop_makeFunc, ↓aop_makeMap, ↓aop_mapUpdate, ↓aop_mapEntry, ↓aop_entryStore, ↓aop_buildSlice, ↓aop_extract, ↓EvC_seq, ↓EvC_skip, ↓EvC_exit, ↓EvC_ret, ↓EvC_block, ↓EvC_cond, ↓ev_region, ↓runL_cons, ↓runL_nil, ↓stepO_none, ↓stepO_guard, ↓aop_move, ↓aop_assign, ↓aop_load, ↓aop_store, ↓aop_alloc, ↓aop_box, ↓aop_nilCheck, ↓aop_fieldAddr, ↓aop_field, ↓aop_indexAddr, ↓aop_binOp, ↓aop_pick, ↓aop_extract, ↓aop_buildSlice, ↓aop_slice, ↓aop_not, ↓aop_call, ↓callA_len, ↓callA_append, ev_tmp, ev_const, ofV_int, ofV_bool, ofV_str, ofV_nilSlice, ofV_nilPtr, putA_some, putA_none, gs_self, gs_ne, List.length_set, Option.bind_some, Option.map_some, intBinA, evL, evO, evP, ne_eq, not_false_eq_true, if_true, if_false, reduceCtorEq, ite_true, ite_false, reduceIte, put_app, AV.cells, and_true, true_and, and_self, decide_true, decide_false, ↓yielded_eq, yv_some, boolOf_bool, List.getElem?_toArray, List.getElem?_cons_zero, List.getElem?_cons_succ, Nat.reduceLT, Nat.reduceEqDiff, beq_self_eq_true, Option.some_beq_some, wr_app, wr_app0, rd_app, rd_app0, rdL_here, rdL_next, wrL_here, wrL_next, spl, List.all_cons, List.all_nil, AV.one, Bool.and_self, Bool.true_and, List.drop_zero, List.take_succ_cons, List.take_zero, List.drop_succ_cons, List.head?_cons, Nat.reduceAdd, Nat.reduceLeDiff, List.length_cons, List.length_nil, List.nil_append, List.cons_append, List.set_cons_zero, List.set_cons_succ, Int.toNat_natCast, Nat.add_zero, b_ft, b_tf, Bool.false_eq_true, ↓rp_done, ↓rp_take, ↓rp_all, ↓ra_nil, ↓ra_first, ↓ra_next, ↓quietO_none, ↓quietO_guard, ↓q_move, ↓q_assign, ↓q_pick, ↓q_binOp, ↓q_field, ↓q_fieldAddr, ↓q_indexAddr, ↓q_nilCheck, set_order, keepV_eq, stBeq_self, ↓rp_graft, put_slot, put_slot_app, List.length_append, List.append_assoc, Nat.add_assoc, ↓aop_build, evP, Bool.true_and, Bool.and_true, Bool.false_and, Bool.and_false, Bool.true_or, Bool.or_true, Bool.false_or, Bool.or_false, Bool.not_true, Bool.not_false]
    refine ⟨_, rfl, by simp only [List.length_set, hlen], by simp only [hlen, gs_self, gs_ne, List.length_set, ne_eq, Nat.reduceEqDiff, Nat.reduceLT, not_false_eq_true], fun t ht => ?_⟩
    simp only [List.mem_cons, List.not_mem_nil, or_false] at ht
    rcases ht with rfl | rfl | rfl | rfl | rfl <;> simp only [hlen, gs_self, gs_ne, List.length_set, ne_eq, Nat.reduceEqDiff, Nat.reduceLT, not_false_eq_true]

theorem reg36_15' {G : AH} {tm : List AV} {v : AV} {bo n i k ix kx iy ky p q : Nat} {xs : List Nat} {x y : E6} {X : Option (AExit × St)} (hX : EvC Try.prog C4 d36_15 (tm, G) = X) (hlen : tm.length = 123) (h0 : tm.getD 0 undefA = v) (h3 : tm.getD 3 undefA = isl bo n true) (h6 : tm.getD 6 undefA = I k) (h7 : tm.getD 7 undefA = I i) (hin : i < n) (hkn : k < n) (hc : G[bo]? = some (.cells (ic xs) 3)) (hp : xs[i]? = some p) (hq : xs[k]? = some q)
    (hi : indexAddrA Try.prog 22 v (I i) = some (.ptr ix kx)) (hx : rdCells G ix kx 6 = some x.cells) (hk : indexAddrA Try.prog 22 v (I k) = some (.ptr iy ky)) (hy : rdCells G iy ky 6 = some y.cells) : ∃ tm', X = some (.normal, (tm', G)) ∧ tm'.length = 123 ∧ tm'.getD 56 undefA = .bool (((p : Int) != (q : Int)) && x.race y) ∧ (∀ t ∈ [0, 3, 5, 6, 7], tm'.getD t undefA = tm.getD t undefA) := by
  subst hX; exact reg36_15 hlen h0 h3 h6 h7 hin hkn hc hp hq hi hx hk hy
set_option maxHeartbeats 32000000 in
theorem reg36_16 {G : AH} {tm : List AV} {bo n i k p q : Nat} {xs : List Nat} (hlen : tm.length = 123) (h3 : tm.getD 3 undefA = isl bo n true) (h6 : tm.getD 6 undefA = I k) (h7 : tm.getD 7 undefA = I i) (hin : i < n) (hkn : k < n) (hxl : xs.length = n) (hc : G[bo]? = some (.cells (ic xs) 3)) (hp : xs[i]? = some p) (hq : xs[k]? = some q) :
    ∃ tm', EvC Try.prog C4 d36_16 (tm, G) = some (.normal, (tm', G.set bo (.cells (ic ((xs.set i (min p q)).set k (min p q))) 3))) ∧ tm'.length = 123 ∧ (∀ t ∈ [0, 3, 6, 7], tm'.getD t undefA = tm.getD t undefA) := by
  have i1 : indexAddrA Try.prog 46 (isl bo n true) (I i) = some (.ptr bo i) := isl_ix hin
  have i2 : indexAddrA Try.prog 46 (isl bo n true) (I k) = some (.ptr bo k) := isl_ix hkn
  have r1 := rdI hc hp
  have r2 := rdI hc hq
  have hm := minI_nat p q
  have w1 := wrI hc (j := i) (by omega) (min p q)
  have hc1 : (G.set bo (.cells (ic (xs.set i (min p q))) 3))[bo]? = some (.cells (ic (xs.set i (min p q))) 3) := by rw [List.getElem?_set_self (lt_of_get hc)]
  have w2 := wrI hc1 (j := k) (by simp; omega) (min p q)
  rw [List.set_set] at w2
  generalize G.set bo (.cells (ic (xs.set i (min p q))) 3) = G1 at *
  have dd := ed36_16
  simp only [d36_16, opsAt, atPath, Try.f36, Option.getD_some] at dd ⊢
  rw [dd]
  simp -implicitDefEqProofs only [hlen, h3, h6, h7, i1, i2, r1, r2, hm, w1, w2, ↓callA_min, ↓callA_max, Bool.not_true, Bool.not_false, Bool.true_and, Bool.and_true, Bool.false_and, Bool.and_false, Bool.true_or, Bool.or_true, Bool.false_or, Bool.or_false, cond_true, cond_false, boolOf_undef, nb, beq_self_eq_true, Bool.and_self, ↓ld36, ↓ld34, ↓ld38, ↓ld89, ↓ld3, ↓st36, ↓st34, ↓st89, ↓st3, z36, z34, z89, fa36_0, fa36_1, fa38_0, fa38_1, boolOf_undef, nb, ↓q_not, ↓aop_lookup, ↓aop_makeFunc, ↓aop_makeMap, ↓aop_mapUpdate, ↓aop_mapEntry, ↓aop_entryStore, ↓aop_buildSlice, ↓aop_extract, ↓EvC_seq, ↓EvC_skip, ↓EvC_exit, ↓EvC_ret, ↓EvC_block, ↓EvC_cond, ↓ev_region, ↓runL_cons, ↓runL_nil, ↓stepO_none, ↓stepO_guard, ↓aop_move, ↓aop_assign, ↓aop_load, ↓aop_store, ↓aop_alloc, ↓aop_box, ↓aop_nilCheck, ↓aop_fieldAddr, ↓aop_field, ↓aop_indexAddr, ↓aop_binOp, ↓aop_pick, ↓aop_extract, ↓aop_buildSlice, ↓aop_slice, ↓aop_not, ↓aop_call, ↓callA_len, ↓callA_append, ev_tmp, ev_const, ofV_int, ofV_bool, ofV_str, ofV_nilSlice, ofV_nilPtr, putA_some, putA_none, gs_self, gs_ne, List.length_set, Option.bind_some, Option.map_some, intBinA, evL, evO, evP, ne_eq, not_false_eq_true, if_true, if_false, reduceCtorEq, ite_true, ite_false, reduceIte, put_app, AV.cells, and_true, true_and, and_self, decide_true, decide_false, ↓yielded_eq, yv_some, boolOf_bool, List.getElem?_toArray, List.getElem?_cons_zero, List.getElem?_cons_succ, Nat.reduceLT, Nat.reduceEqDiff, beq_self_eq_true, Option.some_beq_some, wr_app, wr_app0, rd_app, rd_app0, rdL_here, rdL_next, wrL_here, wrL_next, spl, List.all_cons, List.all_nil, AV.one, Bool.and_self, Bool.true_and, List.drop_zero, List.take_succ_cons, List.take_zero, List.drop_succ_cons, List.head?_cons, Nat.reduceAdd, Nat.reduceLeDiff, List.length_cons, List.length_nil, List.nil_append, List.cons_append, List.set_cons_zero, List.set_cons_succ, Int.toNat_natCast, Nat.add_zero, b_ft, b_tf, Bool.false_eq_true, ↓rp_done, ↓rp_take, ↓rp_all, ↓ra_nil, ↓ra_first, ↓ra_next, ↓quietO_none, ↓quietO_guard, ↓q_move, ↓q_assign, ↓q_pick, ↓q_binOp, ↓q_field, ↓q_fieldAddr, ↓q_indexAddr, ↓q_nilCheck, set_order, keepV_eq, stBeq_self, ↓rp_graft, put_slot, put_slot_app, List.length_append, List.append_assoc, Nat.add_assoc, ↓aop_build, evP, Bool.true_and, Bool.and_true, Bool.false_and, Bool.and_false, Bool.true_or, Bool.or_true, Bool.false_or, Bool.or_false, Bool.not_true, Bool.not_false]
  refine ⟨_, rfl, by simp only [List.length_set, hlen], fun t ht => ?_⟩
  simp only [List.mem_cons, List.not_mem_nil, or_false] at ht
  rcases ht with rfl | rfl | rfl | rfl <;> simp only [hlen, gs_self, gs_ne, List.length_set, ne_eq, Nat.reduceEqDiff, Nat.reduceLT, not_false_eq_true]

theorem reg36_16' {G : AH} {tm : List AV} {bo n i k p q : Nat} {xs : List Nat} {X : Option (AExit × St)} (hX : EvC Try.prog C4 d36_16 (tm, G) = X) (hlen : tm.length = 123) (h3 : tm.getD 3 undefA = isl bo n true) (h6 : tm.getD 6 undefA = I k) (h7 : tm.getD 7 undefA = I i) (hin : i < n) (hkn : k < n) (hxl : xs.length = n) (hc : G[bo]? = some (.cells (ic xs) 3)) (hp : xs[i]? = some p) (hq : xs[k]? = some q) : ∃ tm', X = some (.normal, (tm', G.set bo (.cells (ic ((xs.set i (min p q)).set k (min p q))) 3))) ∧ tm'.length = 123 ∧ (∀ t ∈ [0, 3, 6, 7], tm'.getD t undefA = tm.getD t undefA) := by
  subst hX; exact reg36_16 hlen h3 h6 h7 hin hkn hxl hc hp hq

end Go.Dv

/- ref21.Groups: the loops up to the fixed point (printed by t78.py, own work). -/
namespace Go.Dv
open Go.Proofs
set_option maxRecDepth 100000
set_option linter.unusedSimpArgs false
set_option linter.unusedVariables false
attribute [local congr] bind_congr_first

set_option maxHeartbeats 4000000 in
theorem pr_round {H0 G : AH} {v : AV} {l : List E6} {bo n i k : Nat} {s : List Nat × Bool} {tm : List AV} (hn : n < 2 ^ 40) (hl : l.length = n) (hkn : k < n) (hik : i < k) (hv : EvS H0 v l) (hI : Nums H0 G bo s.1) (hxl : s.1.length = n)
    (hlen : tm.length = 123) (h0 : tm.getD 0 undefA = v) (h3 : tm.getD 3 undefA = isl bo n true) (h5 : tm.getD 5 undefA = .bool s.2) (h6 : tm.getD 6 undefA = I k) (h7 : tm.getD 7 undefA = I i) :
    ∃ tm1 G1, EvC Try.prog C4 l36_1 (tm, G) = EvC Try.prog C4 l36_1 (tm1, G1) ∧ tm1.length = 123 ∧ tm1.getD 7 undefA = I ((i + 1 : Nat) : Int) ∧ tm1.getD 5 undefA = .bool (stepR l k s i).2 ∧ (∀ t ∈ [0, 3, 6], tm1.getD t undefA = tm.getD t undefA) ∧ Nums H0 G1 bo (stepR l k s i).1 ∧ (stepR l k s i).1.length = n := by
  obtain ⟨xs, c⟩ := s
  simp only [] at hI hxl h5
  obtain ⟨x, hx⟩ : ∃ x, l[i]? = some x := ⟨_, List.getElem?_eq_getElem (by omega)⟩
  obtain ⟨y, hy⟩ : ∃ y, l[k]? = some y := ⟨_, List.getElem?_eq_getElem (by omega)⟩
  obtain ⟨ix, kx, hix, hrx⟩ := (hv.same hI.keep).evs.ix i x hx
  obtain ⟨iy, ky, hiy, hry⟩ := (hv.same hI.keep).evs.ix k y hy
  obtain ⟨p, hp⟩ : ∃ p, xs[i]? = some p := ⟨_, List.getElem?_eq_getElem (by omega)⟩
  obtain ⟨q, hq⟩ : ∃ q, xs[k]? = some q := ⟨_, List.getElem?_eq_getElem (by omega)⟩
  have hlt : decide ((i : Int) < (k : Int)) = true := by simp; omega
  have hw : IntKind.i64.wrap ((i : Int) + 1) = ((i + 1 : Nat) : Int) := by rw [IntWalk.i64_in _ (by omega)]; omega
  have hs : stepR l k (xs, c) i = if (((p : Int) != (q : Int)) && x.race y) = true then ((xs.set i (min p q)).set k (min p q), true) else (xs, c) := by simp only [stepR, rc, hx, hy, getD_of hp, getD_of hq]
  rw [el36_1]
  simp -implicitDefEqProofs only [b36_1, atPath, Try.f36, Option.getD_some, hlen, h6, h7, hlt, Bool.not_true, Bool.not_false, Bool.true_and, Bool.and_true, Bool.false_and, Bool.and_false, Bool.true_or, Bool.or_true, Bool.false_or, Bool.or_false, cond_true, cond_false, boolOf_undef, nb, beq_self_eq_true, Bool.and_self, ↓ld36, ↓ld34, ↓ld38, ↓ld89, ↓ld3, ↓st36, ↓st34, ↓st89, ↓st3, z36, z34, z89, fa36_0, fa36_1, fa38_0, fa38_1, boolOf_undef, nb, ↓EvC_seq, ↓EvC_skip, ↓EvC_exit, ↓EvC_ret, ↓EvC_block, ↓EvC_cond, ↓ev_region, ↓runL_cons, ↓runL_nil, ↓stepO_none, ↓stepO_guard, ↓aop_move, ↓aop_assign, ↓aop_load, ↓aop_store, ↓aop_alloc, ↓aop_box, ↓aop_nilCheck, ↓aop_fieldAddr, ↓aop_field, ↓aop_indexAddr, ↓aop_binOp, ↓aop_pick, ↓aop_extract, ↓aop_buildSlice, ↓aop_slice, ↓aop_not, ↓aop_call, ↓callA_len, ↓callA_append, ev_tmp, ev_const, ofV_int, ofV_bool, ofV_str, ofV_nilSlice, ofV_nilPtr, putA_some, putA_none, gs_self, gs_ne, List.length_set, Option.bind_some, Option.map_some, intBinA, evL, evO, evP, ne_eq, not_false_eq_true, if_true, if_false, reduceCtorEq, ite_true, ite_false, reduceIte, put_app, AV.cells, and_true, true_and, and_self, decide_true, decide_false, ↓yielded_eq, yv_some, boolOf_bool, List.getElem?_toArray, List.getElem?_cons_zero, List.getElem?_cons_succ, Nat.reduceLT, Nat.reduceEqDiff, beq_self_eq_true, Option.some_beq_some, wr_app, wr_app0, rd_app, rd_app0, rdL_here, rdL_next, wrL_here, wrL_next, spl, List.all_cons, List.all_nil, AV.one, Bool.and_self, Bool.true_and, List.drop_zero, List.take_succ_cons, List.take_zero, List.drop_succ_cons, List.head?_cons, Nat.reduceAdd, Nat.reduceLeDiff, List.length_cons, List.length_nil, List.nil_append, List.cons_append, List.set_cons_zero, List.set_cons_succ, Int.toNat_natCast, Nat.add_zero, b_ft, b_tf, Bool.false_eq_true]
  generalize hX : EvC Try.prog C4 (Code.region 15 _ true) _ = X
  obtain ⟨tm1, he, hl1, g56, hk⟩ := reg36_15' (v := v) (bo := bo) (n := n) (i := i) (k := k) hX (by simp only [List.length_set, hlen]) (by simp only [hlen, h0, gs_self, gs_ne, List.length_set, ne_eq, Nat.reduceEqDiff, Nat.reduceLT, not_false_eq_true]) (by simp only [hlen, h3, gs_self, gs_ne, List.length_set, ne_eq, Nat.reduceEqDiff, Nat.reduceLT, not_false_eq_true]) (by simp only [hlen, h6, gs_self, gs_ne, List.length_set, ne_eq, Nat.reduceEqDiff, Nat.reduceLT, not_false_eq_true]) (by simp only [hlen, h7, gs_self, gs_ne, List.length_set, ne_eq, Nat.reduceEqDiff, Nat.reduceLT, not_false_eq_true]) (by omega) hkn hI.hc hp hq hix hrx hiy hry
  subst he
  have z0 := hk 0 (by simp)
  have z3 := hk 3 (by simp)
  have z5 := hk 5 (by simp)
  have z6 := hk 6 (by simp)
  have z7 := hk 7 (by simp)
  simp only [hlen, h0, h3, h5, h6, h7, gs_self, gs_ne, List.length_set, ne_eq, Nat.reduceEqDiff, Nat.reduceLT, not_false_eq_true] at z0 z3 z5 z6 z7
  cases hb : (((p : Int) != (q : Int)) && x.race y)
  · rw [hb] at g56
    rw [hs, if_neg (by rw [hb]; simp)]
    simp -implicitDefEqProofs only [hl1, g56, z7, hw, Bool.not_true, Bool.not_false, Bool.true_and, Bool.and_true, Bool.false_and, Bool.and_false, Bool.true_or, Bool.or_true, Bool.false_or, Bool.or_false, cond_true, cond_false, boolOf_undef, nb, beq_self_eq_true, Bool.and_self, ↓EvC_seq, ↓EvC_skip, ↓EvC_exit, ↓EvC_ret, ↓EvC_block, ↓EvC_cond, ↓ev_region, ↓runL_cons, ↓runL_nil, ↓stepO_none, ↓stepO_guard, ↓aop_move, ↓aop_assign, ↓aop_load, ↓aop_store, ↓aop_alloc, ↓aop_box, ↓aop_nilCheck, ↓aop_fieldAddr, ↓aop_field, ↓aop_indexAddr, ↓aop_binOp, ↓aop_pick, ↓aop_extract, ↓aop_buildSlice, ↓aop_slice, ↓aop_not, ↓aop_call, ↓callA_len, ↓callA_append, ev_tmp, ev_const, ofV_int, ofV_bool, ofV_str, ofV_nilSlice, ofV_nilPtr, putA_some, putA_none, gs_self, gs_ne, List.length_set, Option.bind_some, Option.map_some, intBinA, evL, evO, evP, ne_eq, not_false_eq_true, if_true, if_false, reduceCtorEq, ite_true, ite_false, reduceIte, put_app, AV.cells, and_true, true_and, and_self, decide_true, decide_false, ↓yielded_eq, yv_some, boolOf_bool, List.getElem?_toArray, List.getElem?_cons_zero, List.getElem?_cons_succ, Nat.reduceLT, Nat.reduceEqDiff, beq_self_eq_true, Option.some_beq_some, wr_app, wr_app0, rd_app, rd_app0, rdL_here, rdL_next, wrL_here, wrL_next, spl, List.all_cons, List.all_nil, AV.one, Bool.and_self, Bool.true_and, List.drop_zero, List.take_succ_cons, List.take_zero, List.drop_succ_cons, List.head?_cons, Nat.reduceAdd, Nat.reduceLeDiff, List.length_cons, List.length_nil, List.nil_append, List.cons_append, List.set_cons_zero, List.set_cons_succ, Int.toNat_natCast, Nat.add_zero, b_ft, b_tf, Bool.false_eq_true]
    refine ⟨_, _, rfl, by simp only [List.length_set, hl1], by simp only [hl1, gs_self, gs_ne, List.length_set, ne_eq, Nat.reduceEqDiff, Nat.reduceLT, not_false_eq_true], by simp only [hl1, z5, gs_self, gs_ne, List.length_set, ne_eq, Nat.reduceEqDiff, Nat.reduceLT, not_false_eq_true], fun t ht => ?_, hI, hxl⟩
    simp only [List.mem_cons, List.not_mem_nil, or_false] at ht
    rcases ht with rfl | rfl | rfl <;> simp only [hl1, z0, z3, z6, h0, h3, h6, gs_self, gs_ne, List.length_set, ne_eq, Nat.reduceEqDiff, Nat.reduceLT, not_false_eq_true]
  · rw [hb] at g56
    rw [hs, if_pos hb]
    simp -implicitDefEqProofs only [hl1, g56, Bool.not_true, Bool.not_false, Bool.true_and, Bool.and_true, Bool.false_and, Bool.and_false, Bool.true_or, Bool.or_true, Bool.false_or, Bool.or_false, cond_true, cond_false, boolOf_undef, nb, beq_self_eq_true, Bool.and_self, ↓EvC_seq, ↓EvC_skip, ↓EvC_exit, ↓EvC_ret, ↓EvC_block, ↓EvC_cond, ↓ev_region, ↓runL_cons, ↓runL_nil, ↓stepO_none, ↓stepO_guard, ↓aop_move, ↓aop_assign, ↓aop_load, ↓aop_store, ↓aop_alloc, ↓aop_box, ↓aop_nilCheck, ↓aop_fieldAddr, ↓aop_field, ↓aop_indexAddr, ↓aop_binOp, ↓aop_pick, ↓aop_extract, ↓aop_buildSlice, ↓aop_slice, ↓aop_not, ↓aop_call, ↓callA_len, ↓callA_append, ev_tmp, ev_const, ofV_int, ofV_bool, ofV_str, ofV_nilSlice, ofV_nilPtr, putA_some, putA_none, gs_self, gs_ne, List.length_set, Option.bind_some, Option.map_some, intBinA, evL, evO, evP, ne_eq, not_false_eq_true, if_true, if_false, reduceCtorEq, ite_true, ite_false, reduceIte, put_app, AV.cells, and_true, true_and, and_self, decide_true, decide_false, ↓yielded_eq, yv_some, boolOf_bool, List.getElem?_toArray, List.getElem?_cons_zero, List.getElem?_cons_succ, Nat.reduceLT, Nat.reduceEqDiff, beq_self_eq_true, Option.some_beq_some, wr_app, wr_app0, rd_app, rd_app0, rdL_here, rdL_next, wrL_here, wrL_next, spl, List.all_cons, List.all_nil, AV.one, Bool.and_self, Bool.true_and, List.drop_zero, List.take_succ_cons, List.take_zero, List.drop_succ_cons, List.head?_cons, Nat.reduceAdd, Nat.reduceLeDiff, List.length_cons, List.length_nil, List.nil_append, List.cons_append, List.set_cons_zero, List.set_cons_succ, Int.toNat_natCast, Nat.add_zero, b_ft, b_tf, Bool.false_eq_true]
    generalize hX : EvC Try.prog C4 (Code.region 16 _ true) _ = X
    obtain ⟨tm2, he, hl2, hk2⟩ := reg36_16' (bo := bo) (n := n) (i := i) (k := k) hX hl1 z3 z6 z7 (by omega) hkn hxl hI.hc hp hq
    subst he
    have y0 := (hk2 0 (by simp)).trans z0
    have y3 := (hk2 3 (by simp)).trans z3
    have y6 := (hk2 6 (by simp)).trans z6
    have y7 := (hk2 7 (by simp)).trans z7
    simp -implicitDefEqProofs only [hl2, y7, hw, Bool.not_true, Bool.not_false, Bool.true_and, Bool.and_true, Bool.false_and, Bool.and_false, Bool.true_or, Bool.or_true, Bool.false_or, Bool.or_false, cond_true, cond_false, boolOf_undef, nb, beq_self_eq_true, Bool.and_self, ↓EvC_seq, ↓EvC_skip, ↓EvC_exit, ↓EvC_ret, ↓EvC_block, ↓EvC_cond, ↓ev_region, ↓runL_cons, ↓runL_nil, ↓stepO_none, ↓stepO_guard, ↓aop_move, ↓aop_assign, ↓aop_load, ↓aop_store, ↓aop_alloc, ↓aop_box, ↓aop_nilCheck, ↓aop_fieldAddr, ↓aop_field, ↓aop_indexAddr, ↓aop_binOp, ↓aop_pick, ↓aop_extract, ↓aop_buildSlice, ↓aop_slice, ↓aop_not, ↓aop_call, ↓callA_len, ↓callA_append, ev_tmp, ev_const, ofV_int, ofV_bool, ofV_str, ofV_nilSlice, ofV_nilPtr, putA_some, putA_none, gs_self, gs_ne, List.length_set, Option.bind_some, Option.map_some, intBinA, evL, evO, evP, ne_eq, not_false_eq_true, if_true, if_false, reduceCtorEq, ite_true, ite_false, reduceIte, put_app, AV.cells, and_true, true_and, and_self, decide_true, decide_false, ↓yielded_eq, yv_some, boolOf_bool, List.getElem?_toArray, List.getElem?_cons_zero, List.getElem?_cons_succ, Nat.reduceLT, Nat.reduceEqDiff, beq_self_eq_true, Option.some_beq_some, wr_app, wr_app0, rd_app, rd_app0, rdL_here, rdL_next, wrL_here, wrL_next, spl, List.all_cons, List.all_nil, AV.one, Bool.and_self, Bool.true_and, List.drop_zero, List.take_succ_cons, List.take_zero, List.drop_succ_cons, List.head?_cons, Nat.reduceAdd, Nat.reduceLeDiff, List.length_cons, List.length_nil, List.nil_append, List.cons_append, List.set_cons_zero, List.set_cons_succ, Int.toNat_natCast, Nat.add_zero, b_ft, b_tf, Bool.false_eq_true]
    refine ⟨_, _, rfl, by simp only [List.length_set, hl2], by simp only [hl2, gs_self, gs_ne, List.length_set, ne_eq, Nat.reduceEqDiff, Nat.reduceLT, not_false_eq_true], by simp only [hl2, gs_self, gs_ne, List.length_set, ne_eq, Nat.reduceEqDiff, Nat.reduceLT, not_false_eq_true], fun t ht => ?_, hI.set _, by simp [hxl]⟩
    simp only [List.mem_cons, List.not_mem_nil, or_false] at ht
    rcases ht with rfl | rfl | rfl <;> simp only [hl2, y0, y3, y6, h0, h3, h6, gs_self, gs_ne, List.length_set, ne_eq, Nat.reduceEqDiff, Nat.reduceLT, not_false_eq_true]
theorem pr_in_end {G : AH} {tm : List AV} {k : Nat} (hlen : tm.length = 123) (h6 : tm.getD 6 undefA = I k) (h7 : tm.getD 7 undefA = I k) : ∃ tm', EvC Try.prog C4 l36_1 (tm, G) = some (.exit 6, (tm', G)) ∧ tm'.length = 123 ∧ (∀ t ∈ [0, 3, 5, 6], tm'.getD t undefA = tm.getD t undefA) := by
  have hlt : decide ((k : Int) < (k : Int)) = false := by simp
  rw [el36_1]
  simp -implicitDefEqProofs only [b36_1, atPath, Try.f36, Option.getD_some, hlen, h6, h7, hlt, ↓EvC_seq, ↓EvC_skip, ↓EvC_exit, ↓EvC_ret, ↓EvC_block, ↓EvC_cond, ↓ev_region, ↓runL_cons, ↓runL_nil, ↓stepO_none, ↓stepO_guard, ↓aop_move, ↓aop_assign, ↓aop_load, ↓aop_store, ↓aop_alloc, ↓aop_box, ↓aop_nilCheck, ↓aop_fieldAddr, ↓aop_field, ↓aop_indexAddr, ↓aop_binOp, ↓aop_pick, ↓aop_extract, ↓aop_buildSlice, ↓aop_slice, ↓aop_not, ↓aop_call, ↓callA_len, ↓callA_append, ev_tmp, ev_const, ofV_int, ofV_bool, ofV_str, ofV_nilSlice, ofV_nilPtr, putA_some, putA_none, gs_self, gs_ne, List.length_set, Option.bind_some, Option.map_some, intBinA, evL, evO, evP, ne_eq, not_false_eq_true, if_true, if_false, reduceCtorEq, ite_true, ite_false, reduceIte, put_app, AV.cells, and_true, true_and, and_self, decide_true, decide_false, ↓yielded_eq, yv_some, boolOf_bool, List.getElem?_toArray, List.getElem?_cons_zero, List.getElem?_cons_succ, Nat.reduceLT, Nat.reduceEqDiff, beq_self_eq_true, Option.some_beq_some, wr_app, wr_app0, rd_app, rd_app0, rdL_here, rdL_next, wrL_here, wrL_next, spl, List.all_cons, List.all_nil, AV.one, Bool.and_self, Bool.true_and, List.drop_zero, List.take_succ_cons, List.take_zero, List.drop_succ_cons, List.head?_cons, Nat.reduceAdd, Nat.reduceLeDiff, List.length_cons, List.length_nil, List.nil_append, List.cons_append, List.set_cons_zero, List.set_cons_succ, Int.toNat_natCast, Nat.add_zero, b_ft, b_tf, Bool.false_eq_true]
  refine ⟨_, rfl, by simp only [List.length_set, hlen], fun t ht => ?_⟩
  simp only [List.mem_cons, List.not_mem_nil, or_false] at ht
  rcases ht with rfl | rfl | rfl | rfl <;> simp only [hlen, gs_self, gs_ne, List.length_set, ne_eq, Nat.reduceEqDiff, Nat.reduceLT, not_false_eq_true]

theorem pr_inner {H0 : AH} {v : AV} {l : List E6} {bo n k : Nat} (hn : n < 2 ^ 40) (hl : l.length = n) (hkn : k < n) (hv : EvS H0 v l) : ∀ (d i : Nat) (tm : List AV) (s : List Nat × Bool) (G : AH), k - i = d → i ≤ k → Nums H0 G bo s.1 → s.1.length = n →
    tm.length = 123 → tm.getD 0 undefA = v → tm.getD 3 undefA = isl bo n true → tm.getD 5 undefA = .bool s.2 → tm.getD 6 undefA = I k → tm.getD 7 undefA = I i →
    ∃ tm' G', EvC Try.prog C4 l36_1 (tm, G) = some (.exit 6, (tm', G')) ∧ tm'.length = 123 ∧ tm'.getD 5 undefA = .bool (rowR l k ((List.range k).drop i) s).2 ∧ (∀ t ∈ [0, 3, 6], tm'.getD t undefA = tm.getD t undefA) ∧ Nums H0 G' bo (rowR l k ((List.range k).drop i) s).1 ∧ (rowR l k ((List.range k).drop i) s).1.length = n := by
  intro d
  induction d with
  | zero =>
    intro i tm s G hd hi hI hxl hlen h0 h3 h5 h6 h7
    obtain rfl : i = k := by omega
    obtain ⟨tm', he, hl', hk⟩ := pr_in_end (G := G) hlen h6 h7
    rw [List.drop_of_length_le (by simp)]
    exact ⟨tm', G, he, hl', (hk 5 (by simp)).trans h5, fun t ht => hk t (by simp at ht ⊢; omega), hI, hxl⟩
  | succ d ih =>
    intro i tm s G hd hi hI hxl hlen h0 h3 h5 h6 h7
    obtain ⟨tm1, G1, he, hl1, g7, g5, hk, hI1, hx1⟩ := pr_round hn hl hkn (by omega : i < k) hv hI hxl hlen h0 h3 h5 h6 h7
    obtain ⟨tm', G', he2, hl', g5', hk', hI', hx'⟩ := ih (i + 1) tm1 _ G1 (by omega) (by omega) hI1 hx1 hl1 ((hk 0 (by simp)).trans h0) ((hk 3 (by simp)).trans h3) g5 ((hk 6 (by simp)).trans h6) g7
    rw [range_drop (by omega), rowR, List.foldl_cons]
    exact ⟨tm', G', he.trans he2, hl', g5', fun t ht => (hk' t ht).trans (hk t ht), hI', hx'⟩
theorem pr_inner' {H0 G : AH} {v : AV} {l : List E6} {bo n k : Nat} {tm : List AV} {s : List Nat × Bool} {X : Option (AExit × St)} (hX : EvC Try.prog C4 l36_1 (tm, G) = X) (hn : n < 2 ^ 40) (hl : l.length = n) (hkn : k < n) (hv : EvS H0 v l) (hI : Nums H0 G bo s.1) (hxl : s.1.length = n)
    (hlen : tm.length = 123) (h0 : tm.getD 0 undefA = v) (h3 : tm.getD 3 undefA = isl bo n true) (h5 : tm.getD 5 undefA = .bool s.2) (h6 : tm.getD 6 undefA = I k) (h7 : tm.getD 7 undefA = I ((0 : Nat) : Int)) :
    ∃ tm' G', X = some (.exit 6, (tm', G')) ∧ tm'.length = 123 ∧ tm'.getD 5 undefA = .bool (rowR l k (List.range k) s).2 ∧ (∀ t ∈ [0, 3, 6], tm'.getD t undefA = tm.getD t undefA) ∧ Nums H0 G' bo (rowR l k (List.range k) s).1 ∧ (rowR l k (List.range k) s).1.length = n := by
  subst hX
  exact pr_inner hn hl hkn hv k 0 tm s G (by omega) (by omega) hI hxl hlen h0 h3 h5 h6 h7

theorem pr_mid {H0 : AH} {v : AV} {l : List E6} {bo n : Nat} (hn : n < 2 ^ 40) (hl : l.length = n) (hv : EvS H0 v l) : ∀ (d k : Nat) (tm : List AV) (s : List Nat × Bool) (G : AH), n - k = d → k ≤ n → Nums H0 G bo s.1 → s.1.length = n →
    tm.length = 123 → tm.getD 0 undefA = v → tm.getD 3 undefA = isl bo n true → tm.getD 5 undefA = .bool s.2 → tm.getD 6 undefA = I k →
    ∃ tm' G', EvC Try.prog C4 l36_2 (tm, G) = some (.exit 4, (tm', G')) ∧ tm'.length = 123 ∧ tm'.getD 5 undefA = .bool (allR l ((List.range n).drop k) s).2 ∧ (∀ t ∈ [0, 3], tm'.getD t undefA = tm.getD t undefA) ∧ Nums H0 G' bo (allR l ((List.range n).drop k) s).1 ∧ (allR l ((List.range n).drop k) s).1.length = n := by
  intro d
  induction d with
  | zero =>
    intro k tm s G hd hk hI hxl hlen h0 h3 h5 h6
    obtain rfl : k = n := by omega
    have hla := (hv.same hI.keep).evs.len
    rw [hl] at hla
    have hlt : decide ((k : Int) < (k : Int)) = false := by simp
    rw [List.drop_of_length_le (by simp), el36_2]
    simp -implicitDefEqProofs only [b36_2, atPath, Try.f36, Option.getD_some, hlen, h0, h6, hla, hlt, ↓EvC_seq, ↓EvC_skip, ↓EvC_exit, ↓EvC_ret, ↓EvC_block, ↓EvC_cond, ↓ev_region, ↓runL_cons, ↓runL_nil, ↓stepO_none, ↓stepO_guard, ↓aop_move, ↓aop_assign, ↓aop_load, ↓aop_store, ↓aop_alloc, ↓aop_box, ↓aop_nilCheck, ↓aop_fieldAddr, ↓aop_field, ↓aop_indexAddr, ↓aop_binOp, ↓aop_pick, ↓aop_extract, ↓aop_buildSlice, ↓aop_slice, ↓aop_not, ↓aop_call, ↓callA_len, ↓callA_append, ev_tmp, ev_const, ofV_int, ofV_bool, ofV_str, ofV_nilSlice, ofV_nilPtr, putA_some, putA_none, gs_self, gs_ne, List.length_set, Option.bind_some, Option.map_some, intBinA, evL, evO, evP, ne_eq, not_false_eq_true, if_true, if_false, reduceCtorEq, ite_true, ite_false, reduceIte, put_app, AV.cells, and_true, true_and, and_self, decide_true, decide_false, ↓yielded_eq, yv_some, boolOf_bool, List.getElem?_toArray, List.getElem?_cons_zero, List.getElem?_cons_succ, Nat.reduceLT, Nat.reduceEqDiff, beq_self_eq_true, Option.some_beq_some, wr_app, wr_app0, rd_app, rd_app0, rdL_here, rdL_next, wrL_here, wrL_next, spl, List.all_cons, List.all_nil, AV.one, Bool.and_self, Bool.true_and, List.drop_zero, List.take_succ_cons, List.take_zero, List.drop_succ_cons, List.head?_cons, Nat.reduceAdd, Nat.reduceLeDiff, List.length_cons, List.length_nil, List.nil_append, List.cons_append, List.set_cons_zero, List.set_cons_succ, Int.toNat_natCast, Nat.add_zero, b_ft, b_tf, Bool.false_eq_true]
    refine ⟨_, _, rfl, by simp only [List.length_set, hlen], by simp only [hlen, h5, gs_self, gs_ne, List.length_set, ne_eq, Nat.reduceEqDiff, Nat.reduceLT, not_false_eq_true]; rfl, fun t ht => ?_, hI, hxl⟩
    simp only [List.mem_cons, List.not_mem_nil, or_false] at ht
    rcases ht with rfl | rfl <;> simp only [hlen, gs_self, gs_ne, List.length_set, ne_eq, Nat.reduceEqDiff, Nat.reduceLT, not_false_eq_true]
  | succ d ih =>
    intro k tm s G hd hk hI hxl hlen h0 h3 h5 h6
    have hla := (hv.same hI.keep).evs.len
    rw [hl] at hla
    have hlt : decide ((k : Int) < (n : Int)) = true := by simp; omega
    have hw : IntKind.i64.wrap ((k : Int) + 1) = ((k + 1 : Nat) : Int) := by rw [IntWalk.i64_in _ (by omega)]; omega
    have key : ∃ tm1 G1, EvC Try.prog C4 l36_2 (tm, G) = EvC Try.prog C4 l36_2 (tm1, G1) ∧ tm1.length = 123 ∧ tm1.getD 6 undefA = I ((k + 1 : Nat) : Int) ∧ tm1.getD 5 undefA = .bool (rowR l k (List.range k) s).2 ∧ (∀ t ∈ [0, 3], tm1.getD t undefA = tm.getD t undefA) ∧ Nums H0 G1 bo (rowR l k (List.range k) s).1 ∧ (rowR l k (List.range k) s).1.length = n := by
      rw [el36_2]
      simp -implicitDefEqProofs only [b36_2, atPath, Try.f36, Option.getD_some, hlen, h0, h6, hla, hlt, ↓EvC_seq, ↓EvC_skip, ↓EvC_exit, ↓EvC_ret, ↓EvC_block, ↓EvC_cond, ↓ev_region, ↓runL_cons, ↓runL_nil, ↓stepO_none, ↓stepO_guard, ↓aop_move, ↓aop_assign, ↓aop_load, ↓aop_store, ↓aop_alloc, ↓aop_box, ↓aop_nilCheck, ↓aop_fieldAddr, ↓aop_field, ↓aop_indexAddr, ↓aop_binOp, ↓aop_pick, ↓aop_extract, ↓aop_buildSlice, ↓aop_slice, ↓aop_not, ↓aop_call, ↓callA_len, ↓callA_append, ev_tmp, ev_const, ofV_int, ofV_bool, ofV_str, ofV_nilSlice, ofV_nilPtr, putA_some, putA_none, gs_self, gs_ne, List.length_set, Option.bind_some, Option.map_some, intBinA, evL, evO, evP, ne_eq, not_false_eq_true, if_true, if_false, reduceCtorEq, ite_true, ite_false, reduceIte, put_app, AV.cells, and_true, true_and, and_self, decide_true, decide_false, ↓yielded_eq, yv_some, boolOf_bool, List.getElem?_toArray, List.getElem?_cons_zero, List.getElem?_cons_succ, Nat.reduceLT, Nat.reduceEqDiff, beq_self_eq_true, Option.some_beq_some, wr_app, wr_app0, rd_app, rd_app0, rdL_here, rdL_next, wrL_here, wrL_next, spl, List.all_cons, List.all_nil, AV.one, Bool.and_self, Bool.true_and, List.drop_zero, List.take_succ_cons, List.take_zero, List.drop_succ_cons, List.head?_cons, Nat.reduceAdd, Nat.reduceLeDiff, List.length_cons, List.length_nil, List.nil_append, List.cons_append, List.set_cons_zero, List.set_cons_succ, Int.toNat_natCast, Nat.add_zero, b_ft, b_tf, Bool.false_eq_true]
      generalize hX : EvC Try.prog C4 (Code.loop _) _ = X
      obtain ⟨tm1, G1, he, hl1, g5, hk1, hI1, hx1⟩ := pr_inner' (v := v) (bo := bo) (n := n) (k := k) (s := s) hX hn hl (by omega) hv hI hxl (by simp only [List.length_set, hlen]) (by simp only [hlen, h0, gs_self, gs_ne, List.length_set, ne_eq, Nat.reduceEqDiff, Nat.reduceLT, not_false_eq_true]) (by simp only [hlen, h3, gs_self, gs_ne, List.length_set, ne_eq, Nat.reduceEqDiff, Nat.reduceLT, not_false_eq_true]) (by simp only [hlen, h5, gs_self, gs_ne, List.length_set, ne_eq, Nat.reduceEqDiff, Nat.reduceLT, not_false_eq_true]) (by simp only [hlen, h6, gs_self, gs_ne, List.length_set, ne_eq, Nat.reduceEqDiff, Nat.reduceLT, not_false_eq_true]) (by simp only [hlen, gs_self, gs_ne, List.length_set, ne_eq, Nat.reduceEqDiff, Nat.reduceLT, not_false_eq_true] <;> rfl)
      subst he
      have z0 := hk1 0 (by simp)
      have z3 := hk1 3 (by simp)
      have z6 := hk1 6 (by simp)
      simp only [hlen, h0, h3, h6, gs_self, gs_ne, List.length_set, ne_eq, Nat.reduceEqDiff, Nat.reduceLT, not_false_eq_true] at z0 z3 z6
      simp -implicitDefEqProofs only [hl1, z6, hw, ↓EvC_seq, ↓EvC_skip, ↓EvC_exit, ↓EvC_ret, ↓EvC_block, ↓EvC_cond, ↓ev_region, ↓runL_cons, ↓runL_nil, ↓stepO_none, ↓stepO_guard, ↓aop_move, ↓aop_assign, ↓aop_load, ↓aop_store, ↓aop_alloc, ↓aop_box, ↓aop_nilCheck, ↓aop_fieldAddr, ↓aop_field, ↓aop_indexAddr, ↓aop_binOp, ↓aop_pick, ↓aop_extract, ↓aop_buildSlice, ↓aop_slice, ↓aop_not, ↓aop_call, ↓callA_len, ↓callA_append, ev_tmp, ev_const, ofV_int, ofV_bool, ofV_str, ofV_nilSlice, ofV_nilPtr, putA_some, putA_none, gs_self, gs_ne, List.length_set, Option.bind_some, Option.map_some, intBinA, evL, evO, evP, ne_eq, not_false_eq_true, if_true, if_false, reduceCtorEq, ite_true, ite_false, reduceIte, put_app, AV.cells, and_true, true_and, and_self, decide_true, decide_false, ↓yielded_eq, yv_some, boolOf_bool, List.getElem?_toArray, List.getElem?_cons_zero, List.getElem?_cons_succ, Nat.reduceLT, Nat.reduceEqDiff, beq_self_eq_true, Option.some_beq_some, wr_app, wr_app0, rd_app, rd_app0, rdL_here, rdL_next, wrL_here, wrL_next, spl, List.all_cons, List.all_nil, AV.one, Bool.and_self, Bool.true_and, List.drop_zero, List.take_succ_cons, List.take_zero, List.drop_succ_cons, List.head?_cons, Nat.reduceAdd, Nat.reduceLeDiff, List.length_cons, List.length_nil, List.nil_append, List.cons_append, List.set_cons_zero, List.set_cons_succ, Int.toNat_natCast, Nat.add_zero, b_ft, b_tf, Bool.false_eq_true]
      refine ⟨_, _, rfl, by simp only [List.length_set, hl1], by simp only [hl1, gs_self, gs_ne, List.length_set, ne_eq, Nat.reduceEqDiff, Nat.reduceLT, not_false_eq_true], by simp only [hl1, g5, gs_self, gs_ne, List.length_set, ne_eq, Nat.reduceEqDiff, Nat.reduceLT, not_false_eq_true], fun t ht => ?_, hI1, hx1⟩
      simp only [List.mem_cons, List.not_mem_nil, or_false] at ht
      rcases ht with rfl | rfl <;> simp only [hl1, z0, z3, h0, h3, gs_self, gs_ne, List.length_set, ne_eq, Nat.reduceEqDiff, Nat.reduceLT, not_false_eq_true]
    obtain ⟨tm1, G1, he, hl1, g6, g5, hk1, hI1, hx1⟩ := key
    obtain ⟨tm', G', he2, hl', g5', hk', hI', hx'⟩ := ih (k + 1) tm1 _ G1 (by omega) (by omega) hI1 hx1 hl1 ((hk1 0 (by simp)).trans h0) ((hk1 3 (by simp)).trans h3) g5 g6
    rw [range_drop (by omega), allR, List.foldl_cons]
    exact ⟨tm', G', he.trans he2, hl', g5', fun t ht => (hk' t ht).trans (hk1 t ht), hI', hx'⟩
theorem pr_mid' {H0 G : AH} {v : AV} {l : List E6} {bo : Nat} {tm : List AV} {xs : List Nat} {X : Option (AExit × St)} (hX : EvC Try.prog C4 l36_2 (tm, G) = X) (hn : l.length < 2 ^ 40) (hv : EvS H0 v l) (hI : Nums H0 G bo xs) (hxl : xs.length = l.length)
    (hlen : tm.length = 123) (h0 : tm.getD 0 undefA = v) (h3 : tm.getD 3 undefA = isl bo l.length true) (h5 : tm.getD 5 undefA = .bool false) (h6 : tm.getD 6 undefA = I ((0 : Nat) : Int)) :
    ∃ tm' G', X = some (.exit 4, (tm', G')) ∧ tm'.length = 123 ∧ tm'.getD 5 undefA = .bool (passR l xs).2 ∧ (∀ t ∈ [0, 3], tm'.getD t undefA = tm.getD t undefA) ∧ Nums H0 G' bo (passR l xs).1 ∧ (passR l xs).1.length = l.length := by
  subst hX
  exact pr_mid hn rfl hv l.length 0 tm (xs, false) G (by omega) (by omega) hI hxl hlen h0 h3 h5 h6

/-! until nothing changes -/
theorem pr_out {H0 : AH} {v : AV} {l : List E6} {bo : Nat} (hn : l.length < 2 ^ 40) (hv : EvS H0 v l) : ∀ (d : Nat) (tm : List AV) (xs : List Nat) (c : Bool) (G : AH), xs.sum ≤ d → Nums H0 G bo xs → InvR l xs → (c = false → FixR l xs) →
    tm.length = 123 → tm.getD 0 undefA = v → tm.getD 3 undefA = isl bo l.length true → tm.getD 5 undefA = .bool c →
    ∃ tm' G' xs', EvC Try.prog C4 l36_3 (tm, G) = some (.exit 2, (tm', G')) ∧ tm'.length = 123 ∧ (∀ t ∈ [0, 3], tm'.getD t undefA = tm.getD t undefA) ∧ Nums H0 G' bo xs' ∧ FixR l xs' := by
  have stop : ∀ (tm : List AV) (xs : List Nat) (G : AH), Nums H0 G bo xs → FixR l xs → tm.length = 123 → tm.getD 5 undefA = .bool false →
      ∃ tm' G' xs', EvC Try.prog C4 l36_3 (tm, G) = some (.exit 2, (tm', G')) ∧ tm'.length = 123 ∧ (∀ t ∈ [0, 3], tm'.getD t undefA = tm.getD t undefA) ∧ Nums H0 G' bo xs' ∧ FixR l xs' := by
    intro tm xs G hI hf hlen h5
    rw [el36_3]
    simp -implicitDefEqProofs only [b36_3, atPath, Try.f36, Option.getD_some, hlen, h5, ↓EvC_seq, ↓EvC_skip, ↓EvC_exit, ↓EvC_ret, ↓EvC_block, ↓EvC_cond, ↓ev_region, ↓runL_cons, ↓runL_nil, ↓stepO_none, ↓stepO_guard, ↓aop_move, ↓aop_assign, ↓aop_load, ↓aop_store, ↓aop_alloc, ↓aop_box, ↓aop_nilCheck, ↓aop_fieldAddr, ↓aop_field, ↓aop_indexAddr, ↓aop_binOp, ↓aop_pick, ↓aop_extract, ↓aop_buildSlice, ↓aop_slice, ↓aop_not, ↓aop_call, ↓callA_len, ↓callA_append, ev_tmp, ev_const, ofV_int, ofV_bool, ofV_str, ofV_nilSlice, ofV_nilPtr, putA_some, putA_none, gs_self, gs_ne, List.length_set, Option.bind_some, Option.map_some, intBinA, evL, evO, evP, ne_eq, not_false_eq_true, if_true, if_false, reduceCtorEq, ite_true, ite_false, reduceIte, put_app, AV.cells, and_true, true_and, and_self, decide_true, decide_false, ↓yielded_eq, yv_some, boolOf_bool, List.getElem?_toArray, List.getElem?_cons_zero, List.getElem?_cons_succ, Nat.reduceLT, Nat.reduceEqDiff, beq_self_eq_true, Option.some_beq_some, wr_app, wr_app0, rd_app, rd_app0, rdL_here, rdL_next, wrL_here, wrL_next, spl, List.all_cons, List.all_nil, AV.one, Bool.and_self, Bool.true_and, List.drop_zero, List.take_succ_cons, List.take_zero, List.drop_succ_cons, List.head?_cons, Nat.reduceAdd, Nat.reduceLeDiff, List.length_cons, List.length_nil, List.nil_append, List.cons_append, List.set_cons_zero, List.set_cons_succ, Int.toNat_natCast, Nat.add_zero, b_ft, b_tf, Bool.false_eq_true]
    refine ⟨_, _, xs, rfl, by simp only [List.length_set, hlen], fun t ht => ?_, hI, hf⟩
    simp only [List.mem_cons, List.not_mem_nil, or_false] at ht
    rcases ht with rfl | rfl <;> simp only [hlen, gs_self, gs_ne, List.length_set, ne_eq, Nat.reduceEqDiff, Nat.reduceLT, not_false_eq_true]
  have round : ∀ (tm : List AV) (xs : List Nat) (G : AH), Nums H0 G bo xs → xs.length = l.length → tm.length = 123 → tm.getD 0 undefA = v → tm.getD 3 undefA = isl bo l.length true → tm.getD 5 undefA = .bool true →
      ∃ tm1 G1, EvC Try.prog C4 l36_3 (tm, G) = EvC Try.prog C4 l36_3 (tm1, G1) ∧ tm1.length = 123 ∧ tm1.getD 5 undefA = .bool (passR l xs).2 ∧ (∀ t ∈ [0, 3], tm1.getD t undefA = tm.getD t undefA) ∧ Nums H0 G1 bo (passR l xs).1 := by
    intro tm xs G hI hxl hlen h0 h3 h5
    rw [el36_3]
    simp -implicitDefEqProofs only [b36_3, atPath, Try.f36, Option.getD_some, hlen, h5, ↓EvC_seq, ↓EvC_skip, ↓EvC_exit, ↓EvC_ret, ↓EvC_block, ↓EvC_cond, ↓ev_region, ↓runL_cons, ↓runL_nil, ↓stepO_none, ↓stepO_guard, ↓aop_move, ↓aop_assign, ↓aop_load, ↓aop_store, ↓aop_alloc, ↓aop_box, ↓aop_nilCheck, ↓aop_fieldAddr, ↓aop_field, ↓aop_indexAddr, ↓aop_binOp, ↓aop_pick, ↓aop_extract, ↓aop_buildSlice, ↓aop_slice, ↓aop_not, ↓aop_call, ↓callA_len, ↓callA_append, ev_tmp, ev_const, ofV_int, ofV_bool, ofV_str, ofV_nilSlice, ofV_nilPtr, putA_some, putA_none, gs_self, gs_ne, List.length_set, Option.bind_some, Option.map_some, intBinA, evL, evO, evP, ne_eq, not_false_eq_true, if_true, if_false, reduceCtorEq, ite_true, ite_false, reduceIte, put_app, AV.cells, and_true, true_and, and_self, decide_true, decide_false, ↓yielded_eq, yv_some, boolOf_bool, List.getElem?_toArray, List.getElem?_cons_zero, List.getElem?_cons_succ, Nat.reduceLT, Nat.reduceEqDiff, beq_self_eq_true, Option.some_beq_some, wr_app, wr_app0, rd_app, rd_app0, rdL_here, rdL_next, wrL_here, wrL_next, spl, List.all_cons, List.all_nil, AV.one, Bool.and_self, Bool.true_and, List.drop_zero, List.take_succ_cons, List.take_zero, List.drop_succ_cons, List.head?_cons, Nat.reduceAdd, Nat.reduceLeDiff, List.length_cons, List.length_nil, List.nil_append, List.cons_append, List.set_cons_zero, List.set_cons_succ, Int.toNat_natCast, Nat.add_zero, b_ft, b_tf, Bool.false_eq_true]
    generalize hX : EvC Try.prog C4 (Code.loop _) _ = X
    obtain ⟨tm1, G1, he, hl1, g5, hk1, hI1, _⟩ := pr_mid' (v := v) (bo := bo) hX hn hv hI hxl (by simp only [List.length_set, hlen]) (by simp only [hlen, h0, gs_self, gs_ne, List.length_set, ne_eq, Nat.reduceEqDiff, Nat.reduceLT, not_false_eq_true]) (by simp only [hlen, h3, gs_self, gs_ne, List.length_set, ne_eq, Nat.reduceEqDiff, Nat.reduceLT, not_false_eq_true]) (by simp only [hlen, gs_self, gs_ne, List.length_set, ne_eq, Nat.reduceEqDiff, Nat.reduceLT, not_false_eq_true]) (by simp only [hlen, gs_self, gs_ne, List.length_set, ne_eq, Nat.reduceEqDiff, Nat.reduceLT, not_false_eq_true] <;> rfl)
    subst he
    have z0 := hk1 0 (by simp)
    have z3 := hk1 3 (by simp)
    simp only [hlen, h0, h3, gs_self, gs_ne, List.length_set, ne_eq, Nat.reduceEqDiff, Nat.reduceLT, not_false_eq_true] at z0 z3
    simp -implicitDefEqProofs only [hl1, ↓EvC_seq, ↓EvC_skip, ↓EvC_exit, ↓EvC_ret, ↓EvC_block, ↓EvC_cond, ↓ev_region, ↓runL_cons, ↓runL_nil, ↓stepO_none, ↓stepO_guard, ↓aop_move, ↓aop_assign, ↓aop_load, ↓aop_store, ↓aop_alloc, ↓aop_box, ↓aop_nilCheck, ↓aop_fieldAddr, ↓aop_field, ↓aop_indexAddr, ↓aop_binOp, ↓aop_pick, ↓aop_extract, ↓aop_buildSlice, ↓aop_slice, ↓aop_not, ↓aop_call, ↓callA_len, ↓callA_append, ev_tmp, ev_const, ofV_int, ofV_bool, ofV_str, ofV_nilSlice, ofV_nilPtr, putA_some, putA_none, gs_self, gs_ne, List.length_set, Option.bind_some, Option.map_some, intBinA, evL, evO, evP, ne_eq, not_false_eq_true, if_true, if_false, reduceCtorEq, ite_true, ite_false, reduceIte, put_app, AV.cells, and_true, true_and, and_self, decide_true, decide_false, ↓yielded_eq, yv_some, boolOf_bool, List.getElem?_toArray, List.getElem?_cons_zero, List.getElem?_cons_succ, Nat.reduceLT, Nat.reduceEqDiff, beq_self_eq_true, Option.some_beq_some, wr_app, wr_app0, rd_app, rd_app0, rdL_here, rdL_next, wrL_here, wrL_next, spl, List.all_cons, List.all_nil, AV.one, Bool.and_self, Bool.true_and, List.drop_zero, List.take_succ_cons, List.take_zero, List.drop_succ_cons, List.head?_cons, Nat.reduceAdd, Nat.reduceLeDiff, List.length_cons, List.length_nil, List.nil_append, List.cons_append, List.set_cons_zero, List.set_cons_succ, Int.toNat_natCast, Nat.add_zero, b_ft, b_tf, Bool.false_eq_true]
    refine ⟨_, _, rfl, hl1, g5, fun t ht => ?_, hI1⟩
    simp only [List.mem_cons, List.not_mem_nil, or_false] at ht
    rcases ht with rfl | rfl <;> simp only [z0, z3, h0, h3]
  intro d
  induction d with
  | zero =>
    intro tm xs c G hd hI hi hc hlen h0 h3 h5
    cases c with
    | false => exact stop tm xs G hI (hc rfl) hlen h5
    | true =>
      obtain ⟨tm1, G1, he, hl1, g5, hk, hI1⟩ := round tm xs G hI hi.len hlen h0 h3 h5
      obtain ⟨p1, p2, p3⟩ := pass_inv hi
      cases hb : (passR l xs).2 with
      | true => have := p3 hb; omega
      | false =>
        obtain ⟨tm', G', xs', he2, hl', hk', hI', hf'⟩ := stop tm1 _ G1 hI1 (p2 hb) hl1 (by rw [g5, hb])
        exact ⟨tm', G', xs', he.trans he2, hl', fun t ht => (hk' t ht).trans (hk t ht), hI', hf'⟩
  | succ d ih =>
    intro tm xs c G hd hI hi hc hlen h0 h3 h5
    cases c with
    | false => exact stop tm xs G hI (hc rfl) hlen h5
    | true =>
      obtain ⟨tm1, G1, he, hl1, g5, hk, hI1⟩ := round tm xs G hI hi.len hlen h0 h3 h5
      obtain ⟨p1, p2, p3⟩ := pass_inv hi
      cases hb : (passR l xs).2 with
      | true =>
        obtain ⟨tm', G', xs', he2, hl', hk', hI', hf'⟩ := ih tm1 _ true G1 (by have := p3 hb; omega) hI1 p1 (by simp) hl1 ((hk 0 (by simp)).trans h0) ((hk 3 (by simp)).trans h3) (by rw [g5, hb])
        exact ⟨tm', G', xs', he.trans he2, hl', fun t ht => (hk' t ht).trans (hk t ht), hI', hf'⟩
      | false =>
        obtain ⟨tm', G', xs', he2, hl', hk', hI', hf'⟩ := stop tm1 _ G1 hI1 (p2 hb) hl1 (by rw [g5, hb])
        exact ⟨tm', G', xs', he.trans he2, hl', fun t ht => (hk' t ht).trans (hk t ht), hI', hf'⟩
theorem pr_out' {H0 G : AH} {v : AV} {l : List E6} {bo : Nat} {tm : List AV} {xs : List Nat} {X : Option (AExit × St)} (hX : EvC Try.prog C4 l36_3 (tm, G) = X) (hn : l.length < 2 ^ 40) (hv : EvS H0 v l) (hI : Nums H0 G bo xs) (hi : InvR l xs)
    (hlen : tm.length = 123) (h0 : tm.getD 0 undefA = v) (h3 : tm.getD 3 undefA = isl bo l.length true) (h5 : tm.getD 5 undefA = .bool true) :
    ∃ tm' G' xs', X = some (.exit 2, (tm', G')) ∧ tm'.length = 123 ∧ (∀ t ∈ [0, 3], tm'.getD t undefA = tm.getD t undefA) ∧ Nums H0 G' bo xs' ∧ FixR l xs' := by
  subst hX
  exact pr_out hn hv _ tm xs true G (Nat.le_refl _) hI hi (by simp) hlen h0 h3 h5

/-! the first loop -/
theorem rr_ini {H0 : AH} {v : AV} {l : List E6} {bo n : Nat} (hn : n < 2 ^ 40) (hln : l.length = n) (hv : EvS H0 v l) : ∀ (d j : Nat) (tm : List AV) (ys : List Nat) (G : AH), n - j = d → j ≤ n → ys.length = n → (∀ a, a < j → ys[a]? = some a) → G[bo]? = some (.cells (ic ys) 3) →
    tm.length = 123 → tm.getD 0 undefA = v → tm.getD 3 undefA = isl bo n true → tm.getD 4 undefA = I j →
    ∃ tm', EvC Try.prog C4 l36_0 (tm, G) = some (.exit 0, (tm', G.set bo (.cells (ic (List.range n)) 3))) ∧ tm'.length = 123 ∧ (∀ t ∈ [0, 3], tm'.getD t undefA = tm.getD t undefA) := by
  have hla := hv.evs.len
  rw [hln] at hla
  intro d
  induction d with
  | zero =>
    intro j tm ys G hd hj hl ha hc hlen h0 h3 h4
    obtain rfl : j = n := by omega
    have hlt : decide ((j : Int) < (j : Int)) = false := by simp
    have hys : ys = List.range j := by
      apply List.ext_getElem?
      intro a
      by_cases h : a < j
      · rw [ha a h]; simp [h]
      · rw [List.getElem?_eq_none (by omega), List.getElem?_eq_none (by simp; omega)]
    subst hys
    rw [el36_0, set_sameG hc]
    simp -implicitDefEqProofs only [b36_0, atPath, Try.f36, Option.getD_some, hlen, h0, h4, hla, hlt, ↓EvC_seq, ↓EvC_skip, ↓EvC_exit, ↓EvC_ret, ↓EvC_block, ↓EvC_cond, ↓ev_region, ↓runL_cons, ↓runL_nil, ↓stepO_none, ↓stepO_guard, ↓aop_move, ↓aop_assign, ↓aop_load, ↓aop_store, ↓aop_alloc, ↓aop_box, ↓aop_nilCheck, ↓aop_fieldAddr, ↓aop_field, ↓aop_indexAddr, ↓aop_binOp, ↓aop_pick, ↓aop_extract, ↓aop_buildSlice, ↓aop_slice, ↓aop_not, ↓aop_call, ↓callA_len, ↓callA_append, ev_tmp, ev_const, ofV_int, ofV_bool, ofV_str, ofV_nilSlice, ofV_nilPtr, putA_some, putA_none, gs_self, gs_ne, List.length_set, Option.bind_some, Option.map_some, intBinA, evL, evO, evP, ne_eq, not_false_eq_true, if_true, if_false, reduceCtorEq, ite_true, ite_false, reduceIte, put_app, AV.cells, and_true, true_and, and_self, decide_true, decide_false, ↓yielded_eq, yv_some, boolOf_bool, List.getElem?_toArray, List.getElem?_cons_zero, List.getElem?_cons_succ, Nat.reduceLT, Nat.reduceEqDiff, beq_self_eq_true, Option.some_beq_some, wr_app, wr_app0, rd_app, rd_app0, rdL_here, rdL_next, wrL_here, wrL_next, spl, List.all_cons, List.all_nil, AV.one, Bool.and_self, Bool.true_and, List.drop_zero, List.take_succ_cons, List.take_zero, List.drop_succ_cons, List.head?_cons, Nat.reduceAdd, Nat.reduceLeDiff, List.length_cons, List.length_nil, List.nil_append, List.cons_append, List.set_cons_zero, List.set_cons_succ, Int.toNat_natCast, Nat.add_zero, b_ft, b_tf, Bool.false_eq_true]
    refine ⟨_, rfl, by simp only [List.length_set, hlen], fun t ht => ?_⟩
    simp only [List.mem_cons, List.not_mem_nil, or_false] at ht
    rcases ht with rfl | rfl <;> simp only [hlen, gs_self, gs_ne, List.length_set, ne_eq, Nat.reduceEqDiff, Nat.reduceLT, not_false_eq_true]

  | succ d ih =>
    intro j tm ys G hd hj hl ha hc hlen h0 h3 h4
    have hlt : decide ((j : Int) < (n : Int)) = true := by simp; omega
    have hw : IntKind.i64.wrap ((j : Int) + 1) = ((j + 1 : Nat) : Int) := by rw [IntWalk.i64_in _ (by omega)]; omega
    have i1 : indexAddrA Try.prog 46 (isl bo n true) (I j) = some (.ptr bo j) := isl_ix (by omega)
    have w1 := wrI hc (j := j) (by omega) j
    have key : ∃ tm1, EvC Try.prog C4 l36_0 (tm, G) = EvC Try.prog C4 l36_0 (tm1, G.set bo (.cells (ic (ys.set j j)) 3)) ∧ tm1.length = 123 ∧ tm1.getD 4 undefA = I ((j + 1 : Nat) : Int) ∧ (∀ t ∈ [0, 3], tm1.getD t undefA = tm.getD t undefA) := by
      rw [el36_0]
      simp -implicitDefEqProofs only [b36_0, atPath, Try.f36, Option.getD_some, hlen, h0, h3, h4, hla, hlt, i1, w1, hw, Bool.not_true, Bool.not_false, Bool.true_and, Bool.and_true, Bool.false_and, Bool.and_false, Bool.true_or, Bool.or_true, Bool.false_or, Bool.or_false, cond_true, cond_false, boolOf_undef, nb, beq_self_eq_true, Bool.and_self, ↓ld36, ↓ld34, ↓ld38, ↓ld89, ↓ld3, ↓st36, ↓st34, ↓st89, ↓st3, z36, z34, z89, fa36_0, fa36_1, fa38_0, fa38_1, boolOf_undef, nb, ↓EvC_seq, ↓EvC_skip, ↓EvC_exit, ↓EvC_ret, ↓EvC_block, ↓EvC_cond, ↓ev_region, ↓runL_cons, ↓runL_nil, ↓stepO_none, ↓stepO_guard, ↓aop_move, ↓aop_assign, ↓aop_load, ↓aop_store, ↓aop_alloc, ↓aop_box, ↓aop_nilCheck, ↓aop_fieldAddr, ↓aop_field, ↓aop_indexAddr, ↓aop_binOp, ↓aop_pick, ↓aop_extract, ↓aop_buildSlice, ↓aop_slice, ↓aop_not, ↓aop_call, ↓callA_len, ↓callA_append, ev_tmp, ev_const, ofV_int, ofV_bool, ofV_str, ofV_nilSlice, ofV_nilPtr, putA_some, putA_none, gs_self, gs_ne, List.length_set, Option.bind_some, Option.map_some, intBinA, evL, evO, evP, ne_eq, not_false_eq_true, if_true, if_false, reduceCtorEq, ite_true, ite_false, reduceIte, put_app, AV.cells, and_true, true_and, and_self, decide_true, decide_false, ↓yielded_eq, yv_some, boolOf_bool, List.getElem?_toArray, List.getElem?_cons_zero, List.getElem?_cons_succ, Nat.reduceLT, Nat.reduceEqDiff, beq_self_eq_true, Option.some_beq_some, wr_app, wr_app0, rd_app, rd_app0, rdL_here, rdL_next, wrL_here, wrL_next, spl, List.all_cons, List.all_nil, AV.one, Bool.and_self, Bool.true_and, List.drop_zero, List.take_succ_cons, List.take_zero, List.drop_succ_cons, List.head?_cons, Nat.reduceAdd, Nat.reduceLeDiff, List.length_cons, List.length_nil, List.nil_append, List.cons_append, List.set_cons_zero, List.set_cons_succ, Int.toNat_natCast, Nat.add_zero, b_ft, b_tf, Bool.false_eq_true]
      refine ⟨_, rfl, by simp only [List.length_set, hlen], by simp only [hlen, gs_self, gs_ne, List.length_set, ne_eq, Nat.reduceEqDiff, Nat.reduceLT, not_false_eq_true], fun t ht => ?_⟩
      simp only [List.mem_cons, List.not_mem_nil, or_false] at ht
      rcases ht with rfl | rfl <;> simp only [hlen, gs_self, gs_ne, List.length_set, ne_eq, Nat.reduceEqDiff, Nat.reduceLT, not_false_eq_true]

    obtain ⟨tm1, he, hl1, g4, hk⟩ := key
    obtain ⟨tm', he2, hl', hk'⟩ := ih (j + 1) tm1 (ys.set j j) (G.set bo (.cells (ic (ys.set j j)) 3)) (by omega) (by omega) (by simp [hl]) (fun a hlt' => by
        rw [List.getElem?_set]
        split
        · rename_i e; subst e; rw [if_pos (by omega)]
        · exact ha a (by omega)) (by rw [List.getElem?_set_self (lt_of_get hc)]) hl1 ((hk 0 (by simp)).trans h0) ((hk 3 (by simp)).trans h3) g4
    exact ⟨tm', by rw [he, he2, List.set_set], hl', fun t ht => (hk' t ht).trans (hk t ht)⟩
theorem rr_ini' {H0 : AH} {v : AV} {l : List E6} {bo n : Nat} {tm : List AV} {ys : List Nat} {G : AH} {X : Option (AExit × St)} (hX : EvC Try.prog C4 l36_0 (tm, G) = X) (hn : n < 2 ^ 40) (hln : l.length = n) (hv : EvS H0 v l) (hl : ys.length = n) (hc : G[bo]? = some (.cells (ic ys) 3))
    (hlen : tm.length = 123) (h0 : tm.getD 0 undefA = v) (h3 : tm.getD 3 undefA = isl bo n true) (h4 : tm.getD 4 undefA = I ((0 : Nat) : Int)) :
    ∃ tm', X = some (.exit 0, (tm', G.set bo (.cells (ic (List.range n)) 3))) ∧ tm'.length = 123 ∧ (∀ t ∈ [0, 3], tm'.getD t undefA = tm.getD t undefA) := by
  subst hX
  exact rr_ini hn hln hv n 0 tm ys G (by omega) (by omega) hl (by omega) hc hlen h0 h3 h4

end Go.Dv

/- ref21.Groups, whole (printed by t79.py, own work). -/
namespace Go.Dv
open Go.Proofs
set_option maxRecDepth 100000
set_option linter.unusedSimpArgs false
set_option linter.unusedVariables false
attribute [local congr] bind_congr_first

set_option maxHeartbeats 8000000 in
theorem reg36_30 {G : AH} {tm : List AV} {bo n j m g f : Nat} {fv : AV} {bf kf : Nat} {ys : List Nat} (hlen : tm.length = 123) (h3 : tm.getD 3 undefA = isl bo n true) (h8 : tm.getD 8 undefA = fv) (h10 : tm.getD 10 undefA = I j) (h11 : tm.getD 11 undefA = I m) (hjn : j < n) (hc : G[bo]? = some (.cells (ic ys) 3)) (hg : ys[j]? = some g) (hi : indexAddrA Try.prog 46 fv (I m) = some (.ptr bf kf)) (hf : rdCells G bf kf 1 = some [I f]) :
    ∃ tm', EvC Try.prog C4 d36_30 (tm, G) = some (.normal, (tm', G)) ∧ tm'.length = 123 ∧ tm'.getD 117 undefA = .bool ((g : Int) == (f : Int)) ∧ (∀ t ∈ [0, 3, 8, 10, 11], tm'.getD t undefA = tm.getD t undefA) := by
  have i1 : indexAddrA Try.prog 46 (isl bo n true) (I j) = some (.ptr bo j) := isl_ix hjn
  have r1 := rdI hc hg
  have dd := ed36_30
  simp only [d36_30, opsAt, atPath, Try.f36, Option.getD_some] at dd ⊢
  rw [dd]
  simp -implicitDefEqProofs only [hlen, h3, h8, h10, h11, i1, r1, hi, hf, Bool.not_true, Bool.not_false, Bool.true_and, Bool.and_true, Bool.false_and, Bool.and_false, Bool.true_or, Bool.or_true, Bool.false_or, Bool.or_false, cond_true, cond_false, boolOf_undef, nb, beq_self_eq_true, Bool.and_self, ↓ld36, ↓ld34, ↓ld38, ↓ld89, ↓ld3, ↓st36, ↓st34, ↓st89, ↓st3, z36, z34, z89, fa36_0, fa36_1, fa38_0, fa38_1, boolOf_undef, nb, ↓q_not, ↓aop_lookup, ↓aop_makeFunc, ↓aop_makeMap, ↓aop_mapUpdate, ↓aop_mapEntry, ↓aop_entryStore, ↓aop_buildSlice, ↓aop_extract, ↓EvC_seq, ↓EvC_skip, ↓EvC_exit, ↓EvC_ret, ↓EvC_block, ↓EvC_cond, ↓ev_region, ↓runL_cons, ↓runL_nil, ↓stepO_none, ↓stepO_guard, ↓aop_move, ↓aop_assign, ↓aop_load, ↓aop_store, ↓aop_alloc, ↓aop_box, ↓aop_nilCheck, ↓aop_fieldAddr, ↓aop_field, ↓aop_indexAddr, ↓aop_binOp, ↓aop_pick, ↓aop_extract, ↓aop_buildSlice, ↓aop_slice, ↓aop_not, ↓aop_call, ↓callA_len, ↓callA_append, ev_tmp, ev_const, ofV_int, ofV_bool, ofV_str, ofV_nilSlice, ofV_nilPtr, putA_some, putA_none, gs_self, gs_ne, List.length_set, Option.bind_some, Option.map_some, intBinA, evL, evO, evP, ne_eq, not_false_eq_true, if_true, if_false, reduceCtorEq, ite_true, ite_false, reduceIte, put_app, AV.cells, and_true, true_and, and_self, decide_true, decide_false, ↓yielded_eq, yv_some, boolOf_bool, List.getElem?_toArray, List.getElem?_cons_zero, List.getElem?_cons_succ, Nat.reduceLT, Nat.reduceEqDiff, beq_self_eq_true, Option.some_beq_some, wr_app, wr_app0, rd_app, rd_app0, rdL_here, rdL_next, wrL_here, wrL_next, spl, List.all_cons, List.all_nil, AV.one, Bool.and_self, Bool.true_and, List.drop_zero, List.take_succ_cons, List.take_zero, List.drop_succ_cons, List.head?_cons, Nat.reduceAdd, Nat.reduceLeDiff, List.length_cons, List.length_nil, List.nil_append, List.cons_append, List.set_cons_zero, List.set_cons_succ, Int.toNat_natCast, Nat.add_zero, b_ft, b_tf, Bool.false_eq_true, ↓rp_done, ↓rp_take, ↓rp_all, ↓ra_nil, ↓ra_first, ↓ra_next, ↓quietO_none, ↓quietO_guard, ↓q_move, ↓q_assign, ↓q_pick, ↓q_binOp, ↓q_field, ↓q_fieldAddr, ↓q_indexAddr, ↓q_nilCheck, set_order, keepV_eq, stBeq_self, ↓rp_graft, put_slot, put_slot_app, List.length_append, List.append_assoc, Nat.add_assoc, ↓aop_build, evP, Bool.true_and, Bool.and_true, Bool.false_and, Bool.and_false, Bool.true_or, Bool.or_true, Bool.false_or, Bool.or_false, Bool.not_true, Bool.not_false]
  refine ⟨_, rfl, by simp only [List.length_set, hlen], by simp only [hlen, gs_self, gs_ne, List.length_set, ne_eq, Nat.reduceEqDiff, Nat.reduceLT, not_false_eq_true], fun t ht => ?_⟩
  simp only [List.mem_cons, List.not_mem_nil, or_false] at ht
  rcases ht with rfl | rfl | rfl | rfl | rfl <;> simp only [hlen, gs_self, gs_ne, List.length_set, ne_eq, Nat.reduceEqDiff, Nat.reduceLT, not_false_eq_true]

theorem reg36_30' {G : AH} {tm : List AV} {bo n j m g f : Nat} {fv : AV} {bf kf : Nat} {ys : List Nat} {X : Option (AExit × St)} (hX : EvC Try.prog C4 d36_30 (tm, G) = X) (hlen : tm.length = 123) (h3 : tm.getD 3 undefA = isl bo n true) (h8 : tm.getD 8 undefA = fv) (h10 : tm.getD 10 undefA = I j) (h11 : tm.getD 11 undefA = I m) (hjn : j < n) (hc : G[bo]? = some (.cells (ic ys) 3)) (hg : ys[j]? = some g) (hi : indexAddrA Try.prog 46 fv (I m) = some (.ptr bf kf)) (hf : rdCells G bf kf 1 = some [I f]) : ∃ tm', X = some (.normal, (tm', G)) ∧ tm'.length = 123 ∧ tm'.getD 117 undefA = .bool ((g : Int) == (f : Int)) ∧ (∀ t ∈ [0, 3, 8, 10, 11], tm'.getD t undefA = tm.getD t undefA) := by
  subst hX; exact reg36_30 hlen h3 h8 h10 h11 hjn hc hg hi hf

/-! the list of the firsts: a slice of the call's own that grows -/
def fV (F : List Nat) (bf : Nat) : AV := match F with | [] => .nilSlice | _ => isl bf F.length false
def delF (F : List Nat) (G : AH) (bf : Nat) : AH := match F with | [] => G | _ => G.set bf .dead
def Fst (H0 G : AH) (bo : Nat) (F : List Nat) (bf : Nat) : Prop := F ≠ [] → H0.length ≤ bf ∧ bf ≠ bo ∧ G[bf]? = some (.cells (ic F) 3)
theorem bs46 (slot : Option Nat) (a : Int) (H : AH) : buildSliceA Try.prog slot 46 1 [(0, I a)] H = (put slot H (.cells [I a] 3)).map fun (i, H') => (.slice i 0 1 1 1 true, H') := by kernel_rfl
theorem fV_len (F : List Nat) (bf : Nat) (H : AH) : lenA Try.prog 46 H (fV F bf) = some (I (F.length : Nat)) := by
  cases F with
  | nil => exact ln46n H
  | cons a F => exact isl_len ..
theorem fV_ix {F : List Nat} {bf m : Nat} (h : m < F.length) : indexAddrA Try.prog 46 (fV F bf) (I m) = some (.ptr bf m) := by
  cases F with
  | nil => simp at h
  | cons a F => exact isl_ix h
theorem app_f {H0 G : AH} {bo : Nat} {F : List Nat} {bf a : Nat} (ho : Fst H0 G bo F bf) (hn : F.length < 2 ^ 30) :
    appendA Try.prog none 46 (some 46) (fV F bf) (.slice G.length 0 1 1 1 true) (G ++ [.cells [I a] 3]) = some (fV (F ++ [a]) (G.length + 1), delF F G bf ++ [.cells [I a] 3, .cells (ic (F ++ [a])) 3]) := by
  have hg : growOk (Try.prog.bytesOf 3) (F.length + 1) = true := by rw [by3]; simp [growOk]; omega
  have hrx : rdCells (G ++ [.cells [I a] 3]) G.length 0 1 = some [I a] := by rw [rd_app0]; rfl
  cases F with
  | nil =>
    refine app_first appT46 hrx hg (i := G.length + 1) ?_
    simp [put, delF, ic]
  | cons p F' =>
    have hb := (ho (by simp)).2.2
    have hbl := lt_of_get hb
    refine (app_more appT46 (old := ic (p :: F')) (blk := bf) (n := (p :: F').length) (by rw [List.getElem?_append_left hbl]; exact hb) (by rw [ic_length]; omega) hrx rfl hg (i := G.length + 1) (G' := delF (p :: F') G bf ++ [.cells [I a] 3, .cells (ic ((p :: F') ++ [a])) 3]) ?_).trans ?_
    · rw [List.set_append_left _ _ hbl, ic_append]
      simp [put, delF, ic]
    · simp [fV, isl]
theorem Nums.del {H0 G : AH} {bo : Nat} {xs F : List Nat} {bf : Nat} (h : Nums H0 G bo xs) (hf : Fst H0 G bo F bf) : Nums H0 (delF F G bf) bo xs := by
  cases F with
  | nil => exact h
  | cons p F =>
    obtain ⟨h1, h2, h3⟩ := hf (by simp)
    exact h.setm h1 h2
theorem delF_len (F : List Nat) (G : AH) (bf : Nat) : (delF F G bf).length = G.length := by
  cases F with
  | nil => rfl
  | cons p F => exact List.length_set
theorem firsts_succ (xs : List Nat) (k : Nat) : firsts xs (k + 1) = firsts xs k ++ if xs.getD k 0 = k then [k] else [] := by
  simp only [firsts, List.range_succ, List.filter_append]
  congr 1
  by_cases hh : xs.getD k 0 = k
  · rw [if_pos hh, List.filter_cons, if_pos (decide_eq_true hh)]; rfl
  · rw [if_neg hh, List.filter_cons, if_neg (by simpa using hh)]; rfl
theorem firsts_le (xs : List Nat) (k : Nat) : (firsts xs k).length ≤ k := by
  have := List.length_filter_le (fun k => decide (xs.getD k 0 = k)) (List.range k)
  simpa [firsts] using this

theorem ff_loop {H0 : AH} {v : AV} {l : List E6} {bo n : Nat} {xs : List Nat} (hn : n < 2 ^ 30) (hln : l.length = n) (hv : EvS H0 v l) (hxl : xs.length = n) : ∀ (d j : Nat) (tm : List AV) (G : AH) (bf : Nat), n - j = d → j ≤ n → Nums H0 G bo xs → Fst H0 G bo (firsts xs j) bf →
    tm.length = 123 → tm.getD 0 undefA = v → tm.getD 3 undefA = isl bo n true → tm.getD 8 undefA = fV (firsts xs j) bf → tm.getD 9 undefA = I j →
    ∃ tm' G' bf', EvC Try.prog C4 l36_4 (tm, G) = some (.exit 8, (tm', G')) ∧ tm'.length = 123 ∧ tm'.getD 8 undefA = fV (firsts xs n) bf' ∧ (∀ t ∈ [0, 3], tm'.getD t undefA = tm.getD t undefA) ∧ Nums H0 G' bo xs ∧ Fst H0 G' bo (firsts xs n) bf' := by
  have hla := hv.evs.len
  rw [hln] at hla
  intro d
  induction d with
  | zero =>
    intro j tm G bf hd hj hI hF hlen h0 h3 h8 h9
    obtain rfl : j = n := by omega
    have hlt : decide ((j : Int) < (j : Int)) = false := by simp
    rw [el36_4]
    simp -implicitDefEqProofs only [b36_4, atPath, Try.f36, Option.getD_some, hlen, h0, h9, hla, hlt, ↓EvC_seq, ↓EvC_skip, ↓EvC_exit, ↓EvC_ret, ↓EvC_block, ↓EvC_cond, ↓ev_region, ↓runL_cons, ↓runL_nil, ↓stepO_none, ↓stepO_guard, ↓aop_move, ↓aop_assign, ↓aop_load, ↓aop_store, ↓aop_alloc, ↓aop_box, ↓aop_nilCheck, ↓aop_fieldAddr, ↓aop_field, ↓aop_indexAddr, ↓aop_binOp, ↓aop_pick, ↓aop_extract, ↓aop_buildSlice, ↓aop_slice, ↓aop_not, ↓aop_call, ↓callA_len, ↓callA_append, ev_tmp, ev_const, ofV_int, ofV_bool, ofV_str, ofV_nilSlice, ofV_nilPtr, putA_some, putA_none, gs_self, gs_ne, List.length_set, Option.bind_some, Option.map_some, intBinA, evL, evO, evP, ne_eq, not_false_eq_true, if_true, if_false, reduceCtorEq, ite_true, ite_false, reduceIte, put_app, AV.cells, and_true, true_and, and_self, decide_true, decide_false, ↓yielded_eq, yv_some, boolOf_bool, List.getElem?_toArray, List.getElem?_cons_zero, List.getElem?_cons_succ, Nat.reduceLT, Nat.reduceEqDiff, beq_self_eq_true, Option.some_beq_some, wr_app, wr_app0, rd_app, rd_app0, rdL_here, rdL_next, wrL_here, wrL_next, spl, List.all_cons, List.all_nil, AV.one, Bool.and_self, Bool.true_and, List.drop_zero, List.take_succ_cons, List.take_zero, List.drop_succ_cons, List.head?_cons, Nat.reduceAdd, Nat.reduceLeDiff, List.length_cons, List.length_nil, List.nil_append, List.cons_append, List.set_cons_zero, List.set_cons_succ, Int.toNat_natCast, Nat.add_zero, b_ft, b_tf, Bool.false_eq_true]
    refine ⟨_, _, bf, rfl, by simp only [List.length_set, hlen], by simp only [hlen, h8, gs_self, gs_ne, List.length_set, ne_eq, Nat.reduceEqDiff, Nat.reduceLT, not_false_eq_true], fun t ht => ?_, hI, hF⟩
    simp only [List.mem_cons, List.not_mem_nil, or_false] at ht
    rcases ht with rfl | rfl <;> simp only [hlen, gs_self, gs_ne, List.length_set, ne_eq, Nat.reduceEqDiff, Nat.reduceLT, not_false_eq_true]
  | succ d ih =>
    intro j tm G bf hd hj hI hF hlen h0 h3 h8 h9
    have hlt : decide ((j : Int) < (n : Int)) = true := by simp; omega
    have hw : IntKind.i64.wrap ((j : Int) + 1) = ((j + 1 : Nat) : Int) := by rw [IntWalk.i64_in _ (by omega)]; omega
    obtain ⟨p, hp⟩ : ∃ p, xs[j]? = some p := ⟨_, List.getElem?_eq_getElem (by omega)⟩
    have i1 : indexAddrA Try.prog 46 (isl bo n true) (I j) = some (.ptr bo j) := isl_ix (by omega)
    have r1 := rdI hI.hc hp
    have hfs := firsts_succ xs j
    rw [getD_of hp] at hfs
    have key : ∃ tm1 G1 bf1, EvC Try.prog C4 l36_4 (tm, G) = EvC Try.prog C4 l36_4 (tm1, G1) ∧ tm1.length = 123 ∧ tm1.getD 9 undefA = I ((j + 1 : Nat) : Int) ∧ tm1.getD 8 undefA = fV (firsts xs (j + 1)) bf1 ∧ (∀ t ∈ [0, 3], tm1.getD t undefA = tm.getD t undefA) ∧ Nums H0 G1 bo xs ∧ Fst H0 G1 bo (firsts xs (j + 1)) bf1 := by
      rw [el36_4, hfs]
      by_cases hpj : p = j
      · have hb : (((p : Nat) : Int) == ((j : Nat) : Int)) = true := by simp [hpj]
        have ha := app_f (a := j) hF (by have := firsts_le xs j; omega)
        rw [if_pos hpj]
        simp -implicitDefEqProofs only [b36_4, atPath, Try.f36, Option.getD_some, hlen, h0, h3, h8, h9, hla, hlt, i1, r1, hb, hw, bs46, put_none, ha, Bool.not_true, Bool.not_false, Bool.true_and, Bool.and_true, Bool.false_and, Bool.and_false, Bool.true_or, Bool.or_true, Bool.false_or, Bool.or_false, cond_true, cond_false, boolOf_undef, nb, beq_self_eq_true, Bool.and_self, ↓ld36, ↓ld34, ↓ld38, ↓ld89, ↓ld3, ↓st36, ↓st34, ↓st89, ↓st3, z36, z34, z89, fa36_0, fa36_1, fa38_0, fa38_1, boolOf_undef, nb, ↓q_not, ↓aop_lookup, ↓aop_makeFunc, ↓aop_makeMap, ↓aop_mapUpdate, ↓aop_mapEntry, ↓aop_entryStore, ↓aop_buildSlice, ↓aop_extract, ↓EvC_seq, ↓EvC_skip, ↓EvC_exit, ↓EvC_ret, ↓EvC_block, ↓EvC_cond, ↓ev_region, ↓runL_cons, ↓runL_nil, ↓stepO_none, ↓stepO_guard, ↓aop_move, ↓aop_assign, ↓aop_load, ↓aop_store, ↓aop_alloc, ↓aop_box, ↓aop_nilCheck, ↓aop_fieldAddr, ↓aop_field, ↓aop_indexAddr, ↓aop_binOp, ↓aop_pick, ↓aop_extract, ↓aop_buildSlice, ↓aop_slice, ↓aop_not, ↓aop_call, ↓callA_len, ↓callA_append, ev_tmp, ev_const, ofV_int, ofV_bool, ofV_str, ofV_nilSlice, ofV_nilPtr, putA_some, putA_none, gs_self, gs_ne, List.length_set, Option.bind_some, Option.map_some, intBinA, evL, evO, evP, ne_eq, not_false_eq_true, if_true, if_false, reduceCtorEq, ite_true, ite_false, reduceIte, put_app, AV.cells, and_true, true_and, and_self, decide_true, decide_false, ↓yielded_eq, yv_some, boolOf_bool, List.getElem?_toArray, List.getElem?_cons_zero, List.getElem?_cons_succ, Nat.reduceLT, Nat.reduceEqDiff, beq_self_eq_true, Option.some_beq_some, wr_app, wr_app0, rd_app, rd_app0, rdL_here, rdL_next, wrL_here, wrL_next, spl, List.all_cons, List.all_nil, AV.one, Bool.and_self, Bool.true_and, List.drop_zero, List.take_succ_cons, List.take_zero, List.drop_succ_cons, List.head?_cons, Nat.reduceAdd, Nat.reduceLeDiff, List.length_cons, List.length_nil, List.nil_append, List.cons_append, List.set_cons_zero, List.set_cons_succ, Int.toNat_natCast, Nat.add_zero, b_ft, b_tf, Bool.false_eq_true]
        have hbl := lt_of_get hI.hc
        have h0l := hI.hb
        refine ⟨_, _, G.length + 1, rfl, by simp only [List.length_set, hlen], by simp only [hlen, gs_self, gs_ne, List.length_set, ne_eq, Nat.reduceEqDiff, Nat.reduceLT, not_false_eq_true], by simp only [hlen, gs_self, gs_ne, List.length_set, ne_eq, Nat.reduceEqDiff, Nat.reduceLT, not_false_eq_true], fun t ht => ?_, (hI.del hF).app _, fun _ => ⟨by omega, by omega, ?_⟩⟩
        · simp only [List.mem_cons, List.not_mem_nil, or_false] at ht
          rcases ht with rfl | rfl <;> simp only [hlen, gs_self, gs_ne, List.length_set, ne_eq, Nat.reduceEqDiff, Nat.reduceLT, not_false_eq_true]
        · rw [List.getElem?_append_right (by rw [delF_len]; omega), delF_len]; simp
      · have hb : (((p : Nat) : Int) == ((j : Nat) : Int)) = false := by simp; omega
        rw [if_neg hpj, List.append_nil]
        simp -implicitDefEqProofs only [b36_4, atPath, Try.f36, Option.getD_some, hlen, h0, h3, h8, h9, hla, hlt, i1, r1, hb, hw, Bool.not_true, Bool.not_false, Bool.true_and, Bool.and_true, Bool.false_and, Bool.and_false, Bool.true_or, Bool.or_true, Bool.false_or, Bool.or_false, cond_true, cond_false, boolOf_undef, nb, beq_self_eq_true, Bool.and_self, ↓ld36, ↓ld34, ↓ld38, ↓ld89, ↓ld3, ↓st36, ↓st34, ↓st89, ↓st3, z36, z34, z89, fa36_0, fa36_1, fa38_0, fa38_1, boolOf_undef, nb, ↓q_not, ↓aop_lookup, ↓aop_makeFunc, ↓aop_makeMap, ↓aop_mapUpdate, ↓aop_mapEntry, ↓aop_entryStore, ↓aop_buildSlice, ↓aop_extract, ↓EvC_seq, ↓EvC_skip, ↓EvC_exit, ↓EvC_ret, ↓EvC_block, ↓EvC_cond, ↓ev_region, ↓runL_cons, ↓runL_nil, ↓stepO_none, ↓stepO_guard, ↓aop_move, ↓aop_assign, ↓aop_load, ↓aop_store, ↓aop_alloc, ↓aop_box, ↓aop_nilCheck, ↓aop_fieldAddr, ↓aop_field, ↓aop_indexAddr, ↓aop_binOp, ↓aop_pick, ↓aop_extract, ↓aop_buildSlice, ↓aop_slice, ↓aop_not, ↓aop_call, ↓callA_len, ↓callA_append, ev_tmp, ev_const, ofV_int, ofV_bool, ofV_str, ofV_nilSlice, ofV_nilPtr, putA_some, putA_none, gs_self, gs_ne, List.length_set, Option.bind_some, Option.map_some, intBinA, evL, evO, evP, ne_eq, not_false_eq_true, if_true, if_false, reduceCtorEq, ite_true, ite_false, reduceIte, put_app, AV.cells, and_true, true_and, and_self, decide_true, decide_false, ↓yielded_eq, yv_some, boolOf_bool, List.getElem?_toArray, List.getElem?_cons_zero, List.getElem?_cons_succ, Nat.reduceLT, Nat.reduceEqDiff, beq_self_eq_true, Option.some_beq_some, wr_app, wr_app0, rd_app, rd_app0, rdL_here, rdL_next, wrL_here, wrL_next, spl, List.all_cons, List.all_nil, AV.one, Bool.and_self, Bool.true_and, List.drop_zero, List.take_succ_cons, List.take_zero, List.drop_succ_cons, List.head?_cons, Nat.reduceAdd, Nat.reduceLeDiff, List.length_cons, List.length_nil, List.nil_append, List.cons_append, List.set_cons_zero, List.set_cons_succ, Int.toNat_natCast, Nat.add_zero, b_ft, b_tf, Bool.false_eq_true]
        refine ⟨_, _, bf, rfl, by simp only [List.length_set, hlen], by simp only [hlen, gs_self, gs_ne, List.length_set, ne_eq, Nat.reduceEqDiff, Nat.reduceLT, not_false_eq_true], by simp only [hlen, h8, gs_self, gs_ne, List.length_set, ne_eq, Nat.reduceEqDiff, Nat.reduceLT, not_false_eq_true], fun t ht => ?_, hI, hF⟩
        simp only [List.mem_cons, List.not_mem_nil, or_false] at ht
        rcases ht with rfl | rfl <;> simp only [hlen, gs_self, gs_ne, List.length_set, ne_eq, Nat.reduceEqDiff, Nat.reduceLT, not_false_eq_true]
    obtain ⟨tm1, G1, bf1, he, hl1, g9, g8, hk, hI1, hF1⟩ := key
    obtain ⟨tm', G', bf', he2, hl', g8', hk', hI', hF'⟩ := ih (j + 1) tm1 G1 bf1 (by omega) (by omega) hI1 hF1 hl1 ((hk 0 (by simp)).trans h0) ((hk 3 (by simp)).trans h3) g8 g9
    exact ⟨tm', G', bf', he.trans he2, hl', g8', fun t ht => (hk' t ht).trans (hk t ht), hI', hF'⟩
theorem ff_loop' {H0 G : AH} {v : AV} {l : List E6} {bo n : Nat} {xs : List Nat} {tm : List AV} {X : Option (AExit × St)} (hX : EvC Try.prog C4 l36_4 (tm, G) = X) (hn : n < 2 ^ 30) (hln : l.length = n) (hv : EvS H0 v l) (hxl : xs.length = n) (hI : Nums H0 G bo xs)
    (hlen : tm.length = 123) (h0 : tm.getD 0 undefA = v) (h3 : tm.getD 3 undefA = isl bo n true) (h8 : tm.getD 8 undefA = .nilSlice) (h9 : tm.getD 9 undefA = I ((0 : Nat) : Int)) :
    ∃ tm' G' bf', X = some (.exit 8, (tm', G')) ∧ tm'.length = 123 ∧ tm'.getD 8 undefA = fV (firsts xs n) bf' ∧ (∀ t ∈ [0, 3], tm'.getD t undefA = tm.getD t undefA) ∧ Nums H0 G' bo xs ∧ Fst H0 G' bo (firsts xs n) bf' := by
  subst hX
  exact ff_loop hn hln hv hxl n 0 tm G 0 (by omega) (by omega) hI (fun h => (h rfl).elim) hlen h0 h3 h8 h9

/-! the numbers -/
theorem nn_inner {H0 G : AH} {bo n j g bf : Nat} {ys F : List Nat} (hn : n < 2 ^ 30) (hFn : F.length ≤ n) (hjn : j < n) (hyl : ys.length = n) (hI : Nums H0 G bo ys) (hF : Fst H0 G bo F bf) (hg : ys[j]? = some g) (hm : g ∈ F) : ∀ (d m : Nat) (tm : List AV), F.idxOf g - m = d → m ≤ F.idxOf g →
    tm.length = 123 → tm.getD 3 undefA = isl bo n true → tm.getD 8 undefA = fV F bf → tm.getD 10 undefA = I j → tm.getD 11 undefA = I m →
    ∃ tm', EvC Try.prog C4 l36_5 (tm, G) = some (.exit 12, (tm', G.set bo (.cells (ic (ys.set j (F.idxOf g))) 3))) ∧ tm'.length = 123 ∧ (∀ t ∈ [0, 3, 8, 10], tm'.getD t undefA = tm.getD t undefA) := by
  have hpos := List.idxOf_lt_length_of_mem hm
  have hFne : F ≠ [] := by intro e; rw [e] at hpos; simp at hpos
  obtain ⟨_, _, hcF⟩ := hF hFne
  have hlF := fV_len F bf
  intro d
  induction d with
  | zero =>
    intro m tm hd hmp hlen h3 h8 h10 h11
    obtain rfl : m = F.idxOf g := by omega
    have hf : F[F.idxOf g]? = some g := by rw [List.getElem?_eq_getElem hpos, List.getElem_idxOf]
    generalize F.idxOf g = m at *
    have hlt : decide ((m : Int) < (F.length : Int)) = true := by simp; omega
    have i2 : indexAddrA Try.prog 46 (isl bo n true) (I j) = some (.ptr bo j) := isl_ix hjn
    have w1 := wrI hI.hc (j := j) (by omega) m
    rw [el36_5]
    simp -implicitDefEqProofs only [b36_5, atPath, Try.f36, Option.getD_some, hlen, h8, h11, hlF, hlt, Bool.not_true, Bool.not_false, Bool.true_and, Bool.and_true, Bool.false_and, Bool.and_false, Bool.true_or, Bool.or_true, Bool.false_or, Bool.or_false, cond_true, cond_false, boolOf_undef, nb, beq_self_eq_true, Bool.and_self, ↓ld36, ↓ld34, ↓ld38, ↓ld89, ↓ld3, ↓st36, ↓st34, ↓st89, ↓st3, z36, z34, z89, fa36_0, fa36_1, fa38_0, fa38_1, boolOf_undef, nb, ↓EvC_seq, ↓EvC_skip, ↓EvC_exit, ↓EvC_ret, ↓EvC_block, ↓EvC_cond, ↓ev_region, ↓runL_cons, ↓runL_nil, ↓stepO_none, ↓stepO_guard, ↓aop_move, ↓aop_assign, ↓aop_load, ↓aop_store, ↓aop_alloc, ↓aop_box, ↓aop_nilCheck, ↓aop_fieldAddr, ↓aop_field, ↓aop_indexAddr, ↓aop_binOp, ↓aop_pick, ↓aop_extract, ↓aop_buildSlice, ↓aop_slice, ↓aop_not, ↓aop_call, ↓callA_len, ↓callA_append, ev_tmp, ev_const, ofV_int, ofV_bool, ofV_str, ofV_nilSlice, ofV_nilPtr, putA_some, putA_none, gs_self, gs_ne, List.length_set, Option.bind_some, Option.map_some, intBinA, evL, evO, evP, ne_eq, not_false_eq_true, if_true, if_false, reduceCtorEq, ite_true, ite_false, reduceIte, put_app, AV.cells, and_true, true_and, and_self, decide_true, decide_false, ↓yielded_eq, yv_some, boolOf_bool, List.getElem?_toArray, List.getElem?_cons_zero, List.getElem?_cons_succ, Nat.reduceLT, Nat.reduceEqDiff, beq_self_eq_true, Option.some_beq_some, wr_app, wr_app0, rd_app, rd_app0, rdL_here, rdL_next, wrL_here, wrL_next, spl, List.all_cons, List.all_nil, AV.one, Bool.and_self, Bool.true_and, List.drop_zero, List.take_succ_cons, List.take_zero, List.drop_succ_cons, List.head?_cons, Nat.reduceAdd, Nat.reduceLeDiff, List.length_cons, List.length_nil, List.nil_append, List.cons_append, List.set_cons_zero, List.set_cons_succ, Int.toNat_natCast, Nat.add_zero, b_ft, b_tf, Bool.false_eq_true]
    generalize hX : EvC Try.prog C4 (Code.region 30 _ true) _ = X
    obtain ⟨tm1, he, hl1, g117, hk⟩ := reg36_30' (bo := bo) (n := n) (j := j) (m := m) (g := g) (f := g) hX (by simp only [List.length_set, hlen]) (by simp only [hlen, h3, gs_self, gs_ne, List.length_set, ne_eq, Nat.reduceEqDiff, Nat.reduceLT, not_false_eq_true]) (by simp only [hlen, h8, gs_self, gs_ne, List.length_set, ne_eq, Nat.reduceEqDiff, Nat.reduceLT, not_false_eq_true]) (by simp only [hlen, h10, gs_self, gs_ne, List.length_set, ne_eq, Nat.reduceEqDiff, Nat.reduceLT, not_false_eq_true]) (by simp only [hlen, h11, gs_self, gs_ne, List.length_set, ne_eq, Nat.reduceEqDiff, Nat.reduceLT, not_false_eq_true]) hjn hI.hc hg (fV_ix hpos) (rdI hcF hf)
    subst he
    have z0 := hk 0 (by simp)
    have z3 := hk 3 (by simp)
    have z8 := hk 8 (by simp)
    have z10 := hk 10 (by simp)
    have z11 := hk 11 (by simp)
    simp only [hlen, h3, h8, h10, h11, gs_self, gs_ne, List.length_set, ne_eq, Nat.reduceEqDiff, Nat.reduceLT, not_false_eq_true] at z0 z3 z8 z10 z11
    simp -implicitDefEqProofs only [hl1, g117, z3, z10, z11, i2, w1, Bool.not_true, Bool.not_false, Bool.true_and, Bool.and_true, Bool.false_and, Bool.and_false, Bool.true_or, Bool.or_true, Bool.false_or, Bool.or_false, cond_true, cond_false, boolOf_undef, nb, beq_self_eq_true, Bool.and_self, ↓ld36, ↓ld34, ↓ld38, ↓ld89, ↓ld3, ↓st36, ↓st34, ↓st89, ↓st3, z36, z34, z89, fa36_0, fa36_1, fa38_0, fa38_1, boolOf_undef, nb, ↓EvC_seq, ↓EvC_skip, ↓EvC_exit, ↓EvC_ret, ↓EvC_block, ↓EvC_cond, ↓ev_region, ↓runL_cons, ↓runL_nil, ↓stepO_none, ↓stepO_guard, ↓aop_move, ↓aop_assign, ↓aop_load, ↓aop_store, ↓aop_alloc, ↓aop_box, ↓aop_nilCheck, ↓aop_fieldAddr, ↓aop_field, ↓aop_indexAddr, ↓aop_binOp, ↓aop_pick, ↓aop_extract, ↓aop_buildSlice, ↓aop_slice, ↓aop_not, ↓aop_call, ↓callA_len, ↓callA_append, ev_tmp, ev_const, ofV_int, ofV_bool, ofV_str, ofV_nilSlice, ofV_nilPtr, putA_some, putA_none, gs_self, gs_ne, List.length_set, Option.bind_some, Option.map_some, intBinA, evL, evO, evP, ne_eq, not_false_eq_true, if_true, if_false, reduceCtorEq, ite_true, ite_false, reduceIte, put_app, AV.cells, and_true, true_and, and_self, decide_true, decide_false, ↓yielded_eq, yv_some, boolOf_bool, List.getElem?_toArray, List.getElem?_cons_zero, List.getElem?_cons_succ, Nat.reduceLT, Nat.reduceEqDiff, beq_self_eq_true, Option.some_beq_some, wr_app, wr_app0, rd_app, rd_app0, rdL_here, rdL_next, wrL_here, wrL_next, spl, List.all_cons, List.all_nil, AV.one, Bool.and_self, Bool.true_and, List.drop_zero, List.take_succ_cons, List.take_zero, List.drop_succ_cons, List.head?_cons, Nat.reduceAdd, Nat.reduceLeDiff, List.length_cons, List.length_nil, List.nil_append, List.cons_append, List.set_cons_zero, List.set_cons_succ, Int.toNat_natCast, Nat.add_zero, b_ft, b_tf, Bool.false_eq_true]
    refine ⟨_, rfl, by simp only [List.length_set, hl1], fun t ht => ?_⟩
    simp only [List.mem_cons, List.not_mem_nil, or_false] at ht
    rcases ht with rfl | rfl | rfl | rfl <;> simp only [hl1, z0, z3, z8, z10, h3, h8, h10, gs_self, gs_ne, List.length_set, ne_eq, Nat.reduceEqDiff, Nat.reduceLT, not_false_eq_true]
  | succ d ih =>
    intro m tm hd hmp hlen h3 h8 h10 h11
    obtain ⟨f, hf⟩ : ∃ f, F[m]? = some f := ⟨_, List.getElem?_eq_getElem (by omega)⟩
    have hne : g ≠ f := by
      intro e
      have hlt : m < F.length := by omega
      have := List.not_of_lt_findIdx (p := (· == g)) (xs := F) (i := m) (by show m < F.idxOf g; omega)
      rw [List.getElem?_eq_getElem hlt] at hf
      rw [Option.some.inj hf, e] at this
      simp at this
    have hb : (((g : Nat) : Int) == ((f : Nat) : Int)) = false := by simp; omega
    have hlt : decide ((m : Int) < (F.length : Int)) = true := by simp; omega
    have hw : IntKind.i64.wrap ((m : Int) + 1) = ((m + 1 : Nat) : Int) := by rw [IntWalk.i64_in _ (by omega)]; omega
    have key : ∃ tm1, EvC Try.prog C4 l36_5 (tm, G) = EvC Try.prog C4 l36_5 (tm1, G) ∧ tm1.length = 123 ∧ tm1.getD 11 undefA = I ((m + 1 : Nat) : Int) ∧ (∀ t ∈ [0, 3, 8, 10], tm1.getD t undefA = tm.getD t undefA) := by
      rw [el36_5]
      simp -implicitDefEqProofs only [b36_5, atPath, Try.f36, Option.getD_some, hlen, h8, h11, hlF, hlt, Bool.not_true, Bool.not_false, Bool.true_and, Bool.and_true, Bool.false_and, Bool.and_false, Bool.true_or, Bool.or_true, Bool.false_or, Bool.or_false, cond_true, cond_false, boolOf_undef, nb, beq_self_eq_true, Bool.and_self, ↓ld36, ↓ld34, ↓ld38, ↓ld89, ↓ld3, ↓st36, ↓st34, ↓st89, ↓st3, z36, z34, z89, fa36_0, fa36_1, fa38_0, fa38_1, boolOf_undef, nb, ↓EvC_seq, ↓EvC_skip, ↓EvC_exit, ↓EvC_ret, ↓EvC_block, ↓EvC_cond, ↓ev_region, ↓runL_cons, ↓runL_nil, ↓stepO_none, ↓stepO_guard, ↓aop_move, ↓aop_assign, ↓aop_load, ↓aop_store, ↓aop_alloc, ↓aop_box, ↓aop_nilCheck, ↓aop_fieldAddr, ↓aop_field, ↓aop_indexAddr, ↓aop_binOp, ↓aop_pick, ↓aop_extract, ↓aop_buildSlice, ↓aop_slice, ↓aop_not, ↓aop_call, ↓callA_len, ↓callA_append, ev_tmp, ev_const, ofV_int, ofV_bool, ofV_str, ofV_nilSlice, ofV_nilPtr, putA_some, putA_none, gs_self, gs_ne, List.length_set, Option.bind_some, Option.map_some, intBinA, evL, evO, evP, ne_eq, not_false_eq_true, if_true, if_false, reduceCtorEq, ite_true, ite_false, reduceIte, put_app, AV.cells, and_true, true_and, and_self, decide_true, decide_false, ↓yielded_eq, yv_some, boolOf_bool, List.getElem?_toArray, List.getElem?_cons_zero, List.getElem?_cons_succ, Nat.reduceLT, Nat.reduceEqDiff, beq_self_eq_true, Option.some_beq_some, wr_app, wr_app0, rd_app, rd_app0, rdL_here, rdL_next, wrL_here, wrL_next, spl, List.all_cons, List.all_nil, AV.one, Bool.and_self, Bool.true_and, List.drop_zero, List.take_succ_cons, List.take_zero, List.drop_succ_cons, List.head?_cons, Nat.reduceAdd, Nat.reduceLeDiff, List.length_cons, List.length_nil, List.nil_append, List.cons_append, List.set_cons_zero, List.set_cons_succ, Int.toNat_natCast, Nat.add_zero, b_ft, b_tf, Bool.false_eq_true]
      generalize hX : EvC Try.prog C4 (Code.region 30 _ true) _ = X
      obtain ⟨tm1, he, hl1, g117, hk⟩ := reg36_30' (bo := bo) (n := n) (j := j) (m := m) (g := g) (f := f) hX (by simp only [List.length_set, hlen]) (by simp only [hlen, h3, gs_self, gs_ne, List.length_set, ne_eq, Nat.reduceEqDiff, Nat.reduceLT, not_false_eq_true]) (by simp only [hlen, h8, gs_self, gs_ne, List.length_set, ne_eq, Nat.reduceEqDiff, Nat.reduceLT, not_false_eq_true]) (by simp only [hlen, h10, gs_self, gs_ne, List.length_set, ne_eq, Nat.reduceEqDiff, Nat.reduceLT, not_false_eq_true]) (by simp only [hlen, h11, gs_self, gs_ne, List.length_set, ne_eq, Nat.reduceEqDiff, Nat.reduceLT, not_false_eq_true]) hjn hI.hc hg (fV_ix (F := F) (by omega)) (rdI hcF hf)
      subst he
      have z0 := hk 0 (by simp)
      have z3 := hk 3 (by simp)
      have z8 := hk 8 (by simp)
      have z10 := hk 10 (by simp)
      have z11 := hk 11 (by simp)
      simp only [hlen, h3, h8, h10, h11, gs_self, gs_ne, List.length_set, ne_eq, Nat.reduceEqDiff, Nat.reduceLT, not_false_eq_true] at z0 z3 z8 z10 z11
      rw [hb] at g117
      simp -implicitDefEqProofs only [hl1, g117, z11, hw, Bool.not_true, Bool.not_false, Bool.true_and, Bool.and_true, Bool.false_and, Bool.and_false, Bool.true_or, Bool.or_true, Bool.false_or, Bool.or_false, cond_true, cond_false, boolOf_undef, nb, beq_self_eq_true, Bool.and_self, ↓ld36, ↓ld34, ↓ld38, ↓ld89, ↓ld3, ↓st36, ↓st34, ↓st89, ↓st3, z36, z34, z89, fa36_0, fa36_1, fa38_0, fa38_1, boolOf_undef, nb, ↓EvC_seq, ↓EvC_skip, ↓EvC_exit, ↓EvC_ret, ↓EvC_block, ↓EvC_cond, ↓ev_region, ↓runL_cons, ↓runL_nil, ↓stepO_none, ↓stepO_guard, ↓aop_move, ↓aop_assign, ↓aop_load, ↓aop_store, ↓aop_alloc, ↓aop_box, ↓aop_nilCheck, ↓aop_fieldAddr, ↓aop_field, ↓aop_indexAddr, ↓aop_binOp, ↓aop_pick, ↓aop_extract, ↓aop_buildSlice, ↓aop_slice, ↓aop_not, ↓aop_call, ↓callA_len, ↓callA_append, ev_tmp, ev_const, ofV_int, ofV_bool, ofV_str, ofV_nilSlice, ofV_nilPtr, putA_some, putA_none, gs_self, gs_ne, List.length_set, Option.bind_some, Option.map_some, intBinA, evL, evO, evP, ne_eq, not_false_eq_true, if_true, if_false, reduceCtorEq, ite_true, ite_false, reduceIte, put_app, AV.cells, and_true, true_and, and_self, decide_true, decide_false, ↓yielded_eq, yv_some, boolOf_bool, List.getElem?_toArray, List.getElem?_cons_zero, List.getElem?_cons_succ, Nat.reduceLT, Nat.reduceEqDiff, beq_self_eq_true, Option.some_beq_some, wr_app, wr_app0, rd_app, rd_app0, rdL_here, rdL_next, wrL_here, wrL_next, spl, List.all_cons, List.all_nil, AV.one, Bool.and_self, Bool.true_and, List.drop_zero, List.take_succ_cons, List.take_zero, List.drop_succ_cons, List.head?_cons, Nat.reduceAdd, Nat.reduceLeDiff, List.length_cons, List.length_nil, List.nil_append, List.cons_append, List.set_cons_zero, List.set_cons_succ, Int.toNat_natCast, Nat.add_zero, b_ft, b_tf, Bool.false_eq_true]
      refine ⟨_, rfl, by simp only [List.length_set, hl1], by simp only [hl1, gs_self, gs_ne, List.length_set, ne_eq, Nat.reduceEqDiff, Nat.reduceLT, not_false_eq_true], fun t ht => ?_⟩
      simp only [List.mem_cons, List.not_mem_nil, or_false] at ht
      rcases ht with rfl | rfl | rfl | rfl <;> simp only [hl1, z0, z3, z8, z10, h3, h8, h10, gs_self, gs_ne, List.length_set, ne_eq, Nat.reduceEqDiff, Nat.reduceLT, not_false_eq_true]
    obtain ⟨tm1, he, hl1, g11, hk⟩ := key
    obtain ⟨tm', he2, hl', hk'⟩ := ih (m + 1) tm1 (by omega) (by omega) hl1 ((hk 3 (by simp)).trans h3) ((hk 8 (by simp)).trans h8) ((hk 10 (by simp)).trans h10) g11
    exact ⟨tm', he.trans he2, hl', fun t ht => (hk' t ht).trans (hk t ht)⟩
theorem nn_inner' {H0 G : AH} {bo n j g bf : Nat} {ys F : List Nat} {tm : List AV} {X : Option (AExit × St)} (hX : EvC Try.prog C4 l36_5 (tm, G) = X) (hn : n < 2 ^ 30) (hFn : F.length ≤ n) (hjn : j < n) (hyl : ys.length = n) (hI : Nums H0 G bo ys) (hF : Fst H0 G bo F bf) (hg : ys[j]? = some g) (hm : g ∈ F)
    (hlen : tm.length = 123) (h3 : tm.getD 3 undefA = isl bo n true) (h8 : tm.getD 8 undefA = fV F bf) (h10 : tm.getD 10 undefA = I j) (h11 : tm.getD 11 undefA = I ((0 : Nat) : Int)) :
    ∃ tm', X = some (.exit 12, (tm', G.set bo (.cells (ic (ys.set j (F.idxOf g))) 3))) ∧ tm'.length = 123 ∧ (∀ t ∈ [0, 3, 8, 10], tm'.getD t undefA = tm.getD t undefA) := by
  subst hX
  exact nn_inner hn hFn hjn hyl hI hF hg hm _ 0 tm rfl (by omega) hlen h3 h8 h10 h11
theorem nn_loop {H0 : AH} {v : AV} {l : List E6} {bo n bf : Nat} {F : List Nat} (hn : n < 2 ^ 30) (hFn : F.length ≤ n) (hln : l.length = n) (hv : EvS H0 v l) : ∀ (d j : Nat) (tm : List AV) (ys : List Nat) (G : AH), n - j = d → j ≤ n → ys.length = n → (∀ (a g : Nat), j ≤ a → ys[a]? = some g → g ∈ F) → Nums H0 G bo ys → Fst H0 G bo F bf →
    tm.length = 123 → tm.getD 0 undefA = v → tm.getD 3 undefA = isl bo n true → tm.getD 8 undefA = fV F bf → tm.getD 10 undefA = I j →
    ∃ tm' G', EvC Try.prog C4 l36_6 (tm, G) = some (.exit 10, (tm', G')) ∧ tm'.length = 123 ∧ tm'.getD 3 undefA = isl bo n true ∧ Nums H0 G' bo (ys.take j ++ (ys.drop j).map fun g => F.idxOf g) := by
  have hla := hv.evs.len
  rw [hln] at hla
  intro d
  induction d with
  | zero =>
    intro j tm ys G hd hj hyl hm hI hF hlen h0 h3 h8 h10
    obtain rfl : j = n := by omega
    have hlt : decide ((j : Int) < (j : Int)) = false := by simp
    rw [List.take_of_length_le (by omega), List.drop_of_length_le (by omega), List.map_nil, List.append_nil, el36_6]
    simp -implicitDefEqProofs only [b36_6, atPath, Try.f36, Option.getD_some, hlen, h0, h10, hla, hlt, ↓EvC_seq, ↓EvC_skip, ↓EvC_exit, ↓EvC_ret, ↓EvC_block, ↓EvC_cond, ↓ev_region, ↓runL_cons, ↓runL_nil, ↓stepO_none, ↓stepO_guard, ↓aop_move, ↓aop_assign, ↓aop_load, ↓aop_store, ↓aop_alloc, ↓aop_box, ↓aop_nilCheck, ↓aop_fieldAddr, ↓aop_field, ↓aop_indexAddr, ↓aop_binOp, ↓aop_pick, ↓aop_extract, ↓aop_buildSlice, ↓aop_slice, ↓aop_not, ↓aop_call, ↓callA_len, ↓callA_append, ev_tmp, ev_const, ofV_int, ofV_bool, ofV_str, ofV_nilSlice, ofV_nilPtr, putA_some, putA_none, gs_self, gs_ne, List.length_set, Option.bind_some, Option.map_some, intBinA, evL, evO, evP, ne_eq, not_false_eq_true, if_true, if_false, reduceCtorEq, ite_true, ite_false, reduceIte, put_app, AV.cells, and_true, true_and, and_self, decide_true, decide_false, ↓yielded_eq, yv_some, boolOf_bool, List.getElem?_toArray, List.getElem?_cons_zero, List.getElem?_cons_succ, Nat.reduceLT, Nat.reduceEqDiff, beq_self_eq_true, Option.some_beq_some, wr_app, wr_app0, rd_app, rd_app0, rdL_here, rdL_next, wrL_here, wrL_next, spl, List.all_cons, List.all_nil, AV.one, Bool.and_self, Bool.true_and, List.drop_zero, List.take_succ_cons, List.take_zero, List.drop_succ_cons, List.head?_cons, Nat.reduceAdd, Nat.reduceLeDiff, List.length_cons, List.length_nil, List.nil_append, List.cons_append, List.set_cons_zero, List.set_cons_succ, Int.toNat_natCast, Nat.add_zero, b_ft, b_tf, Bool.false_eq_true]
    exact ⟨_, _, rfl, by simp only [List.length_set, hlen], by simp only [hlen, h3, gs_self, gs_ne, List.length_set, ne_eq, Nat.reduceEqDiff, Nat.reduceLT, not_false_eq_true], hI⟩
  | succ d ih =>
    intro j tm ys G hd hj hyl hm hI hF hlen h0 h3 h8 h10
    obtain ⟨g, hg⟩ : ∃ g, ys[j]? = some g := ⟨_, List.getElem?_eq_getElem (by omega)⟩
    have hlt : decide ((j : Int) < (n : Int)) = true := by simp; omega
    have hw : IntKind.i64.wrap ((j : Int) + 1) = ((j + 1 : Nat) : Int) := by rw [IntWalk.i64_in _ (by omega)]; omega
    have key : ∃ tm1, EvC Try.prog C4 l36_6 (tm, G) = EvC Try.prog C4 l36_6 (tm1, G.set bo (.cells (ic (ys.set j (F.idxOf g))) 3)) ∧ tm1.length = 123 ∧ tm1.getD 10 undefA = I ((j + 1 : Nat) : Int) ∧ (∀ t ∈ [0, 3, 8], tm1.getD t undefA = tm.getD t undefA) := by
      rw [el36_6]
      simp -implicitDefEqProofs only [b36_6, atPath, Try.f36, Option.getD_some, hlen, h0, h10, hla, hlt, ↓EvC_seq, ↓EvC_skip, ↓EvC_exit, ↓EvC_ret, ↓EvC_block, ↓EvC_cond, ↓ev_region, ↓runL_cons, ↓runL_nil, ↓stepO_none, ↓stepO_guard, ↓aop_move, ↓aop_assign, ↓aop_load, ↓aop_store, ↓aop_alloc, ↓aop_box, ↓aop_nilCheck, ↓aop_fieldAddr, ↓aop_field, ↓aop_indexAddr, ↓aop_binOp, ↓aop_pick, ↓aop_extract, ↓aop_buildSlice, ↓aop_slice, ↓aop_not, ↓aop_call, ↓callA_len, ↓callA_append, ev_tmp, ev_const, ofV_int, ofV_bool, ofV_str, ofV_nilSlice, ofV_nilPtr, putA_some, putA_none, gs_self, gs_ne, List.length_set, Option.bind_some, Option.map_some, intBinA, evL, evO, evP, ne_eq, not_false_eq_true, if_true, if_false, reduceCtorEq, ite_true, ite_false, reduceIte, put_app, AV.cells, and_true, true_and, and_self, decide_true, decide_false, ↓yielded_eq, yv_some, boolOf_bool, List.getElem?_toArray, List.getElem?_cons_zero, List.getElem?_cons_succ, Nat.reduceLT, Nat.reduceEqDiff, beq_self_eq_true, Option.some_beq_some, wr_app, wr_app0, rd_app, rd_app0, rdL_here, rdL_next, wrL_here, wrL_next, spl, List.all_cons, List.all_nil, AV.one, Bool.and_self, Bool.true_and, List.drop_zero, List.take_succ_cons, List.take_zero, List.drop_succ_cons, List.head?_cons, Nat.reduceAdd, Nat.reduceLeDiff, List.length_cons, List.length_nil, List.nil_append, List.cons_append, List.set_cons_zero, List.set_cons_succ, Int.toNat_natCast, Nat.add_zero, b_ft, b_tf, Bool.false_eq_true]
      generalize hX : EvC Try.prog C4 (Code.loop _) _ = X
      obtain ⟨tm1, he, hl1, hk⟩ := nn_inner' (bo := bo) (n := n) (j := j) (F := F) (bf := bf) hX hn hFn (by omega) hyl hI hF hg (hm j g (Nat.le_refl _) hg) (by simp only [List.length_set, hlen]) (by simp only [hlen, h3, gs_self, gs_ne, List.length_set, ne_eq, Nat.reduceEqDiff, Nat.reduceLT, not_false_eq_true]) (by simp only [hlen, h8, gs_self, gs_ne, List.length_set, ne_eq, Nat.reduceEqDiff, Nat.reduceLT, not_false_eq_true]) (by simp only [hlen, h10, gs_self, gs_ne, List.length_set, ne_eq, Nat.reduceEqDiff, Nat.reduceLT, not_false_eq_true]) (by simp only [hlen, gs_self, gs_ne, List.length_set, ne_eq, Nat.reduceEqDiff, Nat.reduceLT, not_false_eq_true] <;> rfl)
      subst he
      have z0 := hk 0 (by simp)
      have z3 := hk 3 (by simp)
      have z8 := hk 8 (by simp)
      have z10 := hk 10 (by simp)
      simp only [hlen, h0, h3, h8, h10, gs_self, gs_ne, List.length_set, ne_eq, Nat.reduceEqDiff, Nat.reduceLT, not_false_eq_true] at z0 z3 z8 z10
      simp -implicitDefEqProofs only [hl1, z10, hw, ↓EvC_seq, ↓EvC_skip, ↓EvC_exit, ↓EvC_ret, ↓EvC_block, ↓EvC_cond, ↓ev_region, ↓runL_cons, ↓runL_nil, ↓stepO_none, ↓stepO_guard, ↓aop_move, ↓aop_assign, ↓aop_load, ↓aop_store, ↓aop_alloc, ↓aop_box, ↓aop_nilCheck, ↓aop_fieldAddr, ↓aop_field, ↓aop_indexAddr, ↓aop_binOp, ↓aop_pick, ↓aop_extract, ↓aop_buildSlice, ↓aop_slice, ↓aop_not, ↓aop_call, ↓callA_len, ↓callA_append, ev_tmp, ev_const, ofV_int, ofV_bool, ofV_str, ofV_nilSlice, ofV_nilPtr, putA_some, putA_none, gs_self, gs_ne, List.length_set, Option.bind_some, Option.map_some, intBinA, evL, evO, evP, ne_eq, not_false_eq_true, if_true, if_false, reduceCtorEq, ite_true, ite_false, reduceIte, put_app, AV.cells, and_true, true_and, and_self, decide_true, decide_false, ↓yielded_eq, yv_some, boolOf_bool, List.getElem?_toArray, List.getElem?_cons_zero, List.getElem?_cons_succ, Nat.reduceLT, Nat.reduceEqDiff, beq_self_eq_true, Option.some_beq_some, wr_app, wr_app0, rd_app, rd_app0, rdL_here, rdL_next, wrL_here, wrL_next, spl, List.all_cons, List.all_nil, AV.one, Bool.and_self, Bool.true_and, List.drop_zero, List.take_succ_cons, List.take_zero, List.drop_succ_cons, List.head?_cons, Nat.reduceAdd, Nat.reduceLeDiff, List.length_cons, List.length_nil, List.nil_append, List.cons_append, List.set_cons_zero, List.set_cons_succ, Int.toNat_natCast, Nat.add_zero, b_ft, b_tf, Bool.false_eq_true]
      refine ⟨_, rfl, by simp only [List.length_set, hl1], by simp only [hl1, gs_self, gs_ne, List.length_set, ne_eq, Nat.reduceEqDiff, Nat.reduceLT, not_false_eq_true], fun t ht => ?_⟩
      simp only [List.mem_cons, List.not_mem_nil, or_false] at ht
      rcases ht with rfl | rfl | rfl <;> simp only [hl1, z0, z3, z8, h0, h3, h8, gs_self, gs_ne, List.length_set, ne_eq, Nat.reduceEqDiff, Nat.reduceLT, not_false_eq_true]
    obtain ⟨tm1, he, hl1, g10, hk⟩ := key
    have hF1 : Fst H0 (G.set bo (.cells (ic (ys.set j (F.idxOf g))) 3)) bo F bf := fun hne => by
      obtain ⟨f1, f2, f3⟩ := hF hne
      exact ⟨f1, f2, by rw [List.getElem?_set_ne (by omega)]; exact f3⟩
    obtain ⟨tm', G', he2, hl', g3, hI'⟩ := ih (j + 1) tm1 _ _ (by omega) (by omega) (by simp [hyl]) (fun a g' ha hg' => by
        rw [List.getElem?_set_ne (by omega)] at hg'
        exact hm a g' (by omega) hg') (hI.set (ys.set j (F.idxOf g))) hF1 hl1 ((hk 0 (by simp)).trans h0) ((hk 3 (by simp)).trans h3) ((hk 8 (by simp)).trans h8) g10
    rw [sweep (f := fun g => F.idxOf g) hg] at hI'
    exact ⟨tm', G', he.trans he2, hl', g3, hI'⟩
theorem nn_loop' {H0 G : AH} {v : AV} {l : List E6} {bo n bf : Nat} {F ys : List Nat} {tm : List AV} {X : Option (AExit × St)} (hX : EvC Try.prog C4 l36_6 (tm, G) = X) (hn : n < 2 ^ 30) (hFn : F.length ≤ n) (hln : l.length = n) (hv : EvS H0 v l) (hyl : ys.length = n) (hm : ∀ (a g : Nat), ys[a]? = some g → g ∈ F) (hI : Nums H0 G bo ys) (hF : Fst H0 G bo F bf)
    (hlen : tm.length = 123) (h0 : tm.getD 0 undefA = v) (h3 : tm.getD 3 undefA = isl bo n true) (h8 : tm.getD 8 undefA = fV F bf) (h10 : tm.getD 10 undefA = I ((0 : Nat) : Int)) :
    ∃ tm' G', X = some (.exit 10, (tm', G')) ∧ tm'.length = 123 ∧ tm'.getD 3 undefA = isl bo n true ∧ Nums H0 G' bo (ys.map fun g => F.idxOf g) := by
  subst hX
  exact nn_loop hn hFn hln hv n 0 tm ys G (by omega) (by omega) hyl (fun a g _ => hm a g) hI hF hlen h0 h3 h8 h10

set_option maxHeartbeats 4000000 in
theorem ref_groups_ev {H : AH} {v : AV} {l : List E6} (hv : EvS H v l) (hl : l.length < 2 ^ 30) :
    ∃ H', Ev Try.prog C4 36 [v] H = some (isl H.length l.length true, H') ∧ Nums H H' H.length (groupsS l) := by
  have g0 : ([v] ++ List.replicate (123 - [v].length) undefA).length = 123 := by simp
  have g1 : ([v] ++ List.replicate (123 - [v].length) undefA).getD 0 undefA = v := rfl
  have hla := hv.evs.len
  have hmk := mk46 (n := l.length) (by omega) H
  rw [fe36]
  generalize [v] ++ List.replicate (123 - [v].length) undefA = tm at *
  simp -implicitDefEqProofs only [c36, Try.f36, Option.getD_some, g0, g1, hla, hmk, ↓aop_makeSlice, ↓q_not, ↓aop_lookup, ↓aop_makeFunc, ↓aop_makeMap, ↓aop_mapUpdate, ↓aop_mapEntry, ↓aop_entryStore, ↓aop_buildSlice, ↓aop_extract, ↓EvC_seq, ↓EvC_skip, ↓EvC_exit, ↓EvC_ret, ↓EvC_block, ↓EvC_cond, ↓ev_region, ↓runL_cons, ↓runL_nil, ↓stepO_none, ↓stepO_guard, ↓aop_move, ↓aop_assign, ↓aop_load, ↓aop_store, ↓aop_alloc, ↓aop_box, ↓aop_nilCheck, ↓aop_fieldAddr, ↓aop_field, ↓aop_indexAddr, ↓aop_binOp, ↓aop_pick, ↓aop_extract, ↓aop_buildSlice, ↓aop_slice, ↓aop_not, ↓aop_call, ↓callA_len, ↓callA_append, ev_tmp, ev_const, ofV_int, ofV_bool, ofV_str, ofV_nilSlice, ofV_nilPtr, putA_some, putA_none, gs_self, gs_ne, List.length_set, Option.bind_some, Option.map_some, intBinA, evL, evO, evP, ne_eq, not_false_eq_true, if_true, if_false, reduceCtorEq, ite_true, ite_false, reduceIte, put_app, AV.cells, and_true, true_and, and_self, decide_true, decide_false, ↓yielded_eq, yv_some, boolOf_bool, List.getElem?_toArray, List.getElem?_cons_zero, List.getElem?_cons_succ, Nat.reduceLT, Nat.reduceEqDiff, beq_self_eq_true, Option.some_beq_some, wr_app, wr_app0, rd_app, rd_app0, rdL_here, rdL_next, wrL_here, wrL_next, spl, List.all_cons, List.all_nil, AV.one, Bool.and_self, Bool.true_and, List.drop_zero, List.take_succ_cons, List.take_zero, List.drop_succ_cons, List.head?_cons, Nat.reduceAdd, Nat.reduceLeDiff, List.length_cons, List.length_nil, List.nil_append, List.cons_append, List.set_cons_zero, List.set_cons_succ, Int.toNat_natCast, Nat.add_zero, b_ft, b_tf, Bool.false_eq_true]
  generalize hX : EvC Try.prog C4 (Code.loop _) _ = X
  have hc0 : (H ++ [AObj.cells (ic (List.replicate l.length 0)) 3])[H.length]? = some (.cells (ic (List.replicate l.length 0)) 3) := by simp
  obtain ⟨tm1, he, hl1, hk1⟩ := rr_ini' (bo := H.length) (n := l.length) hX (by omega) rfl hv (by simp) hc0 (by simp only [List.length_set, g0]) (by simp only [g0, g1, gs_self, gs_ne, List.length_set, ne_eq, Nat.reduceEqDiff, Nat.reduceLT, not_false_eq_true]) (by simp only [g0, gs_self, gs_ne, List.length_set, ne_eq, Nat.reduceEqDiff, Nat.reduceLT, not_false_eq_true]) (by simp only [g0, gs_self, gs_ne, List.length_set, ne_eq, Nat.reduceEqDiff, Nat.reduceLT, not_false_eq_true] <;> rfl)
  subst he
  have hI : Nums H ((H ++ [AObj.cells (ic (List.replicate l.length 0)) 3]).set H.length (.cells (ic (List.range l.length)) 3)) H.length (List.range l.length) :=
    Nums.set (xs := List.replicate l.length 0) ⟨fun j hj => by rw [List.getElem?_append_left hj], Nat.le_refl _, hc0⟩ _
  generalize (H ++ [AObj.cells (ic (List.replicate l.length 0)) 3]).set H.length (.cells (ic (List.range l.length)) 3) = G1 at *
  have z0 := hk1 0 (by simp)
  have z3 := hk1 3 (by simp)
  simp only [g0, g1, gs_self, gs_ne, List.length_set, ne_eq, Nat.reduceEqDiff, Nat.reduceLT, not_false_eq_true] at z0 z3
  simp -implicitDefEqProofs only [hl1, ↓EvC_seq, ↓EvC_skip, ↓EvC_exit, ↓EvC_ret, ↓EvC_block, ↓EvC_cond, ↓ev_region, ↓runL_cons, ↓runL_nil, ↓stepO_none, ↓stepO_guard, ↓aop_move, ↓aop_assign, ↓aop_load, ↓aop_store, ↓aop_alloc, ↓aop_box, ↓aop_nilCheck, ↓aop_fieldAddr, ↓aop_field, ↓aop_indexAddr, ↓aop_binOp, ↓aop_pick, ↓aop_extract, ↓aop_buildSlice, ↓aop_slice, ↓aop_not, ↓aop_call, ↓callA_len, ↓callA_append, ev_tmp, ev_const, ofV_int, ofV_bool, ofV_str, ofV_nilSlice, ofV_nilPtr, putA_some, putA_none, gs_self, gs_ne, List.length_set, Option.bind_some, Option.map_some, intBinA, evL, evO, evP, ne_eq, not_false_eq_true, if_true, if_false, reduceCtorEq, ite_true, ite_false, reduceIte, put_app, AV.cells, and_true, true_and, and_self, decide_true, decide_false, ↓yielded_eq, yv_some, boolOf_bool, List.getElem?_toArray, List.getElem?_cons_zero, List.getElem?_cons_succ, Nat.reduceLT, Nat.reduceEqDiff, beq_self_eq_true, Option.some_beq_some, wr_app, wr_app0, rd_app, rd_app0, rdL_here, rdL_next, wrL_here, wrL_next, spl, List.all_cons, List.all_nil, AV.one, Bool.and_self, Bool.true_and, List.drop_zero, List.take_succ_cons, List.take_zero, List.drop_succ_cons, List.head?_cons, Nat.reduceAdd, Nat.reduceLeDiff, List.length_cons, List.length_nil, List.nil_append, List.cons_append, List.set_cons_zero, List.set_cons_succ, Int.toNat_natCast, Nat.add_zero, b_ft, b_tf, Bool.false_eq_true]
  generalize hX : EvC Try.prog C4 (Code.loop _) _ = X
  obtain ⟨tm2, G2, xs, he, hl2, hk2, hI2, hfx⟩ := pr_out' (bo := H.length) hX (by omega) hv hI (inv_range l) (by simp only [List.length_set, hl1]) (by simp only [hl1, z0, gs_self, gs_ne, List.length_set, ne_eq, Nat.reduceEqDiff, Nat.reduceLT, not_false_eq_true]) (by simp only [hl1, z3, gs_self, gs_ne, List.length_set, ne_eq, Nat.reduceEqDiff, Nat.reduceLT, not_false_eq_true]) (by simp only [hl1, gs_self, gs_ne, List.length_set, ne_eq, Nat.reduceEqDiff, Nat.reduceLT, not_false_eq_true])
  subst he
  have y0 := hk2 0 (by simp)
  have y3 := hk2 3 (by simp)
  simp only [hl1, z0, z3, gs_self, gs_ne, List.length_set, ne_eq, Nat.reduceEqDiff, Nat.reduceLT, not_false_eq_true] at y0 y3
  simp -implicitDefEqProofs only [hl2, ↓EvC_seq, ↓EvC_skip, ↓EvC_exit, ↓EvC_ret, ↓EvC_block, ↓EvC_cond, ↓ev_region, ↓runL_cons, ↓runL_nil, ↓stepO_none, ↓stepO_guard, ↓aop_move, ↓aop_assign, ↓aop_load, ↓aop_store, ↓aop_alloc, ↓aop_box, ↓aop_nilCheck, ↓aop_fieldAddr, ↓aop_field, ↓aop_indexAddr, ↓aop_binOp, ↓aop_pick, ↓aop_extract, ↓aop_buildSlice, ↓aop_slice, ↓aop_not, ↓aop_call, ↓callA_len, ↓callA_append, ev_tmp, ev_const, ofV_int, ofV_bool, ofV_str, ofV_nilSlice, ofV_nilPtr, putA_some, putA_none, gs_self, gs_ne, List.length_set, Option.bind_some, Option.map_some, intBinA, evL, evO, evP, ne_eq, not_false_eq_true, if_true, if_false, reduceCtorEq, ite_true, ite_false, reduceIte, put_app, AV.cells, and_true, true_and, and_self, decide_true, decide_false, ↓yielded_eq, yv_some, boolOf_bool, List.getElem?_toArray, List.getElem?_cons_zero, List.getElem?_cons_succ, Nat.reduceLT, Nat.reduceEqDiff, beq_self_eq_true, Option.some_beq_some, wr_app, wr_app0, rd_app, rd_app0, rdL_here, rdL_next, wrL_here, wrL_next, spl, List.all_cons, List.all_nil, AV.one, Bool.and_self, Bool.true_and, List.drop_zero, List.take_succ_cons, List.take_zero, List.drop_succ_cons, List.head?_cons, Nat.reduceAdd, Nat.reduceLeDiff, List.length_cons, List.length_nil, List.nil_append, List.cons_append, List.set_cons_zero, List.set_cons_succ, Int.toNat_natCast, Nat.add_zero, b_ft, b_tf, Bool.false_eq_true]
  generalize hX : EvC Try.prog C4 (Code.loop _) _ = X
  have hxl := hfx.inv.len
  obtain ⟨tm3, G3, bf, he, hl3, x8, hk3, hI3, hF3⟩ := ff_loop' (bo := H.length) (n := l.length) hX hl rfl hv hxl hI2 (by simp only [List.length_set, hl2]) (by simp only [hl2, y0, gs_self, gs_ne, List.length_set, ne_eq, Nat.reduceEqDiff, Nat.reduceLT, not_false_eq_true]) (by simp only [hl2, y3, gs_self, gs_ne, List.length_set, ne_eq, Nat.reduceEqDiff, Nat.reduceLT, not_false_eq_true]) (by simp only [hl2, gs_self, gs_ne, List.length_set, ne_eq, Nat.reduceEqDiff, Nat.reduceLT, not_false_eq_true]) (by simp only [hl2, gs_self, gs_ne, List.length_set, ne_eq, Nat.reduceEqDiff, Nat.reduceLT, not_false_eq_true] <;> rfl)
  subst he
  have x0 := hk3 0 (by simp)
  have x3 := hk3 3 (by simp)
  simp only [hl2, y0, y3, gs_self, gs_ne, List.length_set, ne_eq, Nat.reduceEqDiff, Nat.reduceLT, not_false_eq_true] at x0 x3
  simp -implicitDefEqProofs only [hl3, ↓EvC_seq, ↓EvC_skip, ↓EvC_exit, ↓EvC_ret, ↓EvC_block, ↓EvC_cond, ↓ev_region, ↓runL_cons, ↓runL_nil, ↓stepO_none, ↓stepO_guard, ↓aop_move, ↓aop_assign, ↓aop_load, ↓aop_store, ↓aop_alloc, ↓aop_box, ↓aop_nilCheck, ↓aop_fieldAddr, ↓aop_field, ↓aop_indexAddr, ↓aop_binOp, ↓aop_pick, ↓aop_extract, ↓aop_buildSlice, ↓aop_slice, ↓aop_not, ↓aop_call, ↓callA_len, ↓callA_append, ev_tmp, ev_const, ofV_int, ofV_bool, ofV_str, ofV_nilSlice, ofV_nilPtr, putA_some, putA_none, gs_self, gs_ne, List.length_set, Option.bind_some, Option.map_some, intBinA, evL, evO, evP, ne_eq, not_false_eq_true, if_true, if_false, reduceCtorEq, ite_true, ite_false, reduceIte, put_app, AV.cells, and_true, true_and, and_self, decide_true, decide_false, ↓yielded_eq, yv_some, boolOf_bool, List.getElem?_toArray, List.getElem?_cons_zero, List.getElem?_cons_succ, Nat.reduceLT, Nat.reduceEqDiff, beq_self_eq_true, Option.some_beq_some, wr_app, wr_app0, rd_app, rd_app0, rdL_here, rdL_next, wrL_here, wrL_next, spl, List.all_cons, List.all_nil, AV.one, Bool.and_self, Bool.true_and, List.drop_zero, List.take_succ_cons, List.take_zero, List.drop_succ_cons, List.head?_cons, Nat.reduceAdd, Nat.reduceLeDiff, List.length_cons, List.length_nil, List.nil_append, List.cons_append, List.set_cons_zero, List.set_cons_succ, Int.toNat_natCast, Nat.add_zero, b_ft, b_tf, Bool.false_eq_true]
  generalize hX : EvC Try.prog C4 (Code.loop _) _ = X
  obtain ⟨tm4, G4, he, hl4, w3, hI4⟩ := nn_loop' (bo := H.length) (n := l.length) (bf := bf) (F := firsts xs l.length) hX hl (firsts_le ..) rfl hv hxl (fun a g hg => by
      have ha := lt_of_get hg
      have := fix_mem hfx (k := a) (by omega)
      rw [getD_of hg, hxl] at this
      exact this) hI3 hF3 (by simp only [List.length_set, hl3]) (by simp only [hl3, x0, gs_self, gs_ne, List.length_set, ne_eq, Nat.reduceEqDiff, Nat.reduceLT, not_false_eq_true]) (by simp only [hl3, x3, gs_self, gs_ne, List.length_set, ne_eq, Nat.reduceEqDiff, Nat.reduceLT, not_false_eq_true]) (by simp only [hl3, x8, gs_self, gs_ne, List.length_set, ne_eq, Nat.reduceEqDiff, Nat.reduceLT, not_false_eq_true]) (by simp only [hl3, gs_self, gs_ne, List.length_set, ne_eq, Nat.reduceEqDiff, Nat.reduceLT, not_false_eq_true] <;> rfl)
  subst he
  have hlaw := groups_law hfx
  rw [numR, hxl] at hlaw
  rw [← hlaw] at hI4
  refine ⟨G4, ?_, hI4⟩
  simp -implicitDefEqProofs only [hl4, w3, ↓EvC_seq, ↓EvC_skip, ↓EvC_exit, ↓EvC_ret, ↓EvC_block, ↓EvC_cond, ↓ev_region, ↓runL_cons, ↓runL_nil, ↓stepO_none, ↓stepO_guard, ↓aop_move, ↓aop_assign, ↓aop_load, ↓aop_store, ↓aop_alloc, ↓aop_box, ↓aop_nilCheck, ↓aop_fieldAddr, ↓aop_field, ↓aop_indexAddr, ↓aop_binOp, ↓aop_pick, ↓aop_extract, ↓aop_buildSlice, ↓aop_slice, ↓aop_not, ↓aop_call, ↓callA_len, ↓callA_append, ev_tmp, ev_const, ofV_int, ofV_bool, ofV_str, ofV_nilSlice, ofV_nilPtr, putA_some, putA_none, gs_self, gs_ne, List.length_set, Option.bind_some, Option.map_some, intBinA, evL, evO, evP, ne_eq, not_false_eq_true, if_true, if_false, reduceCtorEq, ite_true, ite_false, reduceIte, put_app, AV.cells, and_true, true_and, and_self, decide_true, decide_false, ↓yielded_eq, yv_some, boolOf_bool, List.getElem?_toArray, List.getElem?_cons_zero, List.getElem?_cons_succ, Nat.reduceLT, Nat.reduceEqDiff, beq_self_eq_true, Option.some_beq_some, wr_app, wr_app0, rd_app, rd_app0, rdL_here, rdL_next, wrL_here, wrL_next, spl, List.all_cons, List.all_nil, AV.one, Bool.and_self, Bool.true_and, List.drop_zero, List.take_succ_cons, List.take_zero, List.drop_succ_cons, List.head?_cons, Nat.reduceAdd, Nat.reduceLeDiff, List.length_cons, List.length_nil, List.nil_append, List.cons_append, List.set_cons_zero, List.set_cons_succ, Int.toNat_natCast, Nat.add_zero, b_ft, b_tf, Bool.false_eq_true]

end Go.Dv

/- SameInts; the law RaceGroups on abstract heaps (printed by t80.py, own work). -/
namespace Go.Dv
open Go.Proofs
set_option maxRecDepth 100000
set_option linter.unusedSimpArgs false
set_option linter.unusedVariables false
attribute [local congr] bind_congr_first
/-- A slice that reads as a list of ints. -/
structure Ints (H : AH) (v : AV) (xs : List Int) : Prop where
  len : ∀ H, lenA Try.prog 46 H v = some (I xs.length)
  ix : ∀ (j : Nat) (x : Int), xs[j]? = some x → ∃ i k, indexAddrA Try.prog 46 v (I j) = some (.ptr i k) ∧ rdCells H i k 1 = some [I x]

theorem same_loop {a b : AV} {H : AH} {xs ys : List Int} (ha : Ints H a xs) (hb : Ints H b ys) (hxy : xs.length = ys.length) (hl : xs.length < 2 ^ 62) : ∀ (d j : Nat) (tm : List AV), xs.length - j = d → j ≤ xs.length →
    tm.length = 26 → tm.getD 0 undefA = a → tm.getD 1 undefA = b → tm.getD 5 undefA = I j →
    ∃ e tm', EvC Try.prog C4 l32_0 (tm, H) = some (e, (tm', H)) ∧ tm'.length = 26 ∧ ((xs.drop j = ys.drop j ∧ e = .exit 0) ∨ (xs.drop j ≠ ys.drop j ∧ e = .ret ∧ tm'.getD 4 undefA = .bool false)) := by
  intro d
  induction d with
  | zero =>
    intro j tm hd hj hlen h0 h1 h5
    have hjl : j = xs.length := by omega
    subst hjl
    have hlt : decide ((xs.length : Int) < (xs.length : Int)) = false := by simp
    have hla := ha.len
    rw [el32_0]
    simp -implicitDefEqProofs only [b32_0, atPath, Try.f32, Option.getD_some, hlen, h0, h1, h5, hlt, hla, ↓EvC_seq, ↓EvC_skip, ↓EvC_exit, ↓EvC_ret, ↓EvC_block, ↓EvC_cond, ↓ev_region, ↓runL_cons, ↓runL_nil, ↓stepO_none, ↓stepO_guard, ↓aop_move, ↓aop_assign, ↓aop_load, ↓aop_store, ↓aop_alloc, ↓aop_box, ↓aop_nilCheck, ↓aop_fieldAddr, ↓aop_field, ↓aop_indexAddr, ↓aop_binOp, ↓aop_pick, ↓aop_extract, ↓aop_buildSlice, ↓aop_slice, ↓aop_not, ↓aop_call, ↓callA_len, ↓callA_append, ev_tmp, ev_const, ofV_int, ofV_bool, ofV_str, ofV_nilSlice, ofV_nilPtr, putA_some, putA_none, gs_self, gs_ne, List.length_set, Option.bind_some, Option.map_some, intBinA, evL, evO, evP, ne_eq, not_false_eq_true, if_true, if_false, reduceCtorEq, ite_true, ite_false, reduceIte, put_app, AV.cells, and_true, true_and, and_self, decide_true, decide_false, ↓yielded_eq, yv_some, boolOf_bool, List.getElem?_toArray, List.getElem?_cons_zero, List.getElem?_cons_succ, Nat.reduceLT, Nat.reduceEqDiff, beq_self_eq_true, Option.some_beq_some, wr_app, wr_app0, rd_app, rd_app0, rdL_here, rdL_next, wrL_here, wrL_next, spl, List.all_cons, List.all_nil, AV.one, Bool.and_self, Bool.true_and, List.drop_zero, List.take_succ_cons, List.take_zero, List.drop_succ_cons, List.head?_cons, Nat.reduceAdd, Nat.reduceLeDiff, List.length_cons, List.length_nil, List.nil_append, List.cons_append, List.set_cons_zero, List.set_cons_succ, Int.toNat_natCast, Nat.add_zero, b_ft, b_tf, Bool.false_eq_true]
    refine ⟨_, _, rfl, by simp only [List.length_set, hlen], .inl ⟨?_, rfl⟩⟩
    rw [List.drop_length, List.drop_of_length_le (by omega)]
  | succ d ih =>
    intro j tm hd hj hlen h0 h1 h5
    have d6 := ed32_6
    simp only [d32_6, opsAt, atPath, Try.f32, Option.getD_some] at d6
    obtain ⟨x, hx⟩ : ∃ x, xs[j]? = some x := ⟨_, List.getElem?_eq_getElem (by omega)⟩
    obtain ⟨y, hy⟩ : ∃ y, ys[j]? = some y := ⟨_, List.getElem?_eq_getElem (by omega)⟩
    obtain ⟨i1, k1, hi1, hr1⟩ := ha.ix j x hx
    obtain ⟨i2, k2, hi2, hr2⟩ := hb.ix j y hy
    have hlt : decide ((j : Int) < (xs.length : Int)) = true := by simp; omega
    have hla := ha.len
    have hw : IntKind.i64.wrap ((j : Int) + 1) = ((j + 1 : Nat) : Int) := by rw [IntWalk.i64_in _ (by omega)]; omega
    have hdx : xs.drop j = x :: xs.drop (j + 1) := by rw [List.drop_eq_getElem_cons (by omega)]; congr 1; rw [List.getElem?_eq_getElem (by omega)] at hx; exact Option.some.inj hx
    have hdy : ys.drop j = y :: ys.drop (j + 1) := by rw [List.drop_eq_getElem_cons (by omega)]; congr 1; rw [List.getElem?_eq_getElem (by omega)] at hy; exact Option.some.inj hy
    by_cases hne : x = y
    · have hd' : (x != y) = false := by simpa using hne
      rw [el32_0]
      simp -implicitDefEqProofs only [b32_0, atPath, Try.f32, Option.getD_some, hlen, h0, h1, h5, hlt, hla, hw, hi1, hi2, hr1, hr2, hd', ↓ld3, ↓d6, Bool.not_true, Bool.not_false, Bool.true_and, Bool.and_true, Bool.false_and, Bool.and_false, Bool.true_or, Bool.or_true, Bool.false_or, Bool.or_false, cond_true, cond_false, boolOf_undef, nb, beq_self_eq_true, Bool.and_self, ↓EvC_seq, ↓EvC_skip, ↓EvC_exit, ↓EvC_ret, ↓EvC_block, ↓EvC_cond, ↓ev_region, ↓runL_cons, ↓runL_nil, ↓stepO_none, ↓stepO_guard, ↓aop_move, ↓aop_assign, ↓aop_load, ↓aop_store, ↓aop_alloc, ↓aop_box, ↓aop_nilCheck, ↓aop_fieldAddr, ↓aop_field, ↓aop_indexAddr, ↓aop_binOp, ↓aop_pick, ↓aop_extract, ↓aop_buildSlice, ↓aop_slice, ↓aop_not, ↓aop_call, ↓callA_len, ↓callA_append, ev_tmp, ev_const, ofV_int, ofV_bool, ofV_str, ofV_nilSlice, ofV_nilPtr, putA_some, putA_none, gs_self, gs_ne, List.length_set, Option.bind_some, Option.map_some, intBinA, evL, evO, evP, ne_eq, not_false_eq_true, if_true, if_false, reduceCtorEq, ite_true, ite_false, reduceIte, put_app, AV.cells, and_true, true_and, and_self, decide_true, decide_false, ↓yielded_eq, yv_some, boolOf_bool, List.getElem?_toArray, List.getElem?_cons_zero, List.getElem?_cons_succ, Nat.reduceLT, Nat.reduceEqDiff, beq_self_eq_true, Option.some_beq_some, wr_app, wr_app0, rd_app, rd_app0, rdL_here, rdL_next, wrL_here, wrL_next, spl, List.all_cons, List.all_nil, AV.one, Bool.and_self, Bool.true_and, List.drop_zero, List.take_succ_cons, List.take_zero, List.drop_succ_cons, List.head?_cons, Nat.reduceAdd, Nat.reduceLeDiff, List.length_cons, List.length_nil, List.nil_append, List.cons_append, List.set_cons_zero, List.set_cons_succ, Int.toNat_natCast, Nat.add_zero, b_ft, b_tf, Bool.false_eq_true, ↓rp_done, ↓rp_take, ↓rp_all, ↓ra_nil, ↓ra_first, ↓ra_next, ↓quietO_none, ↓quietO_guard, ↓q_move, ↓q_assign, ↓q_pick, ↓q_binOp, ↓q_field, ↓q_fieldAddr, ↓q_indexAddr, ↓q_nilCheck, set_order, keepV_eq, stBeq_self, ↓rp_graft, put_slot, put_slot_app, List.length_append, List.append_assoc, Nat.add_assoc, ↓aop_build, evP, Bool.true_and, Bool.and_true, Bool.false_and, Bool.and_false, Bool.true_or, Bool.or_true, Bool.false_or, Bool.or_false, Bool.not_true, Bool.not_false]
      generalize hX : EvC Try.prog C4 _ _ = X
      have key : ∀ (tm1 : List AV), EvC Try.prog C4 l32_0 (tm1, H) = X → tm1.length = 26 → tm1.getD 0 undefA = a → tm1.getD 1 undefA = b → tm1.getD 5 undefA = I ((j + 1 : Nat) : Int) → ∃ e tm', X = some (e, (tm', H)) ∧ tm'.length = 26 ∧ ((xs.drop j = ys.drop j ∧ e = .exit 0) ∨ (xs.drop j ≠ ys.drop j ∧ e = .ret ∧ tm'.getD 4 undefA = .bool false)) := by
        intro tm1 h1 g1 g2 g3 g4
        obtain ⟨e, tm', he, hl', hc⟩ := ih (j + 1) tm1 (by omega) (by omega) g1 g2 g3 g4
        refine ⟨e, tm', h1.symm.trans he, hl', ?_⟩
        rw [hdx, hdy, hne]
        simpa using hc
      exact key _ hX (by simp only [List.length_set, hlen]) (by simp only [hlen, h0, gs_self, gs_ne, List.length_set, ne_eq, Nat.reduceEqDiff, Nat.reduceLT, not_false_eq_true]) (by simp only [hlen, h1, gs_self, gs_ne, List.length_set, ne_eq, Nat.reduceEqDiff, Nat.reduceLT, not_false_eq_true]) (by simp only [hlen, gs_self, gs_ne, List.length_set, ne_eq, Nat.reduceEqDiff, Nat.reduceLT, not_false_eq_true])
    · have hd' : (x != y) = true := by simpa using hne
      rw [el32_0]
      simp -implicitDefEqProofs only [b32_0, atPath, Try.f32, Option.getD_some, hlen, h0, h1, h5, hlt, hla, hw, hi1, hi2, hr1, hr2, hd', ↓ld3, ↓d6, Bool.not_true, Bool.not_false, Bool.true_and, Bool.and_true, Bool.false_and, Bool.and_false, Bool.true_or, Bool.or_true, Bool.false_or, Bool.or_false, cond_true, cond_false, boolOf_undef, nb, beq_self_eq_true, Bool.and_self, ↓EvC_seq, ↓EvC_skip, ↓EvC_exit, ↓EvC_ret, ↓EvC_block, ↓EvC_cond, ↓ev_region, ↓runL_cons, ↓runL_nil, ↓stepO_none, ↓stepO_guard, ↓aop_move, ↓aop_assign, ↓aop_load, ↓aop_store, ↓aop_alloc, ↓aop_box, ↓aop_nilCheck, ↓aop_fieldAddr, ↓aop_field, ↓aop_indexAddr, ↓aop_binOp, ↓aop_pick, ↓aop_extract, ↓aop_buildSlice, ↓aop_slice, ↓aop_not, ↓aop_call, ↓callA_len, ↓callA_append, ev_tmp, ev_const, ofV_int, ofV_bool, ofV_str, ofV_nilSlice, ofV_nilPtr, putA_some, putA_none, gs_self, gs_ne, List.length_set, Option.bind_some, Option.map_some, intBinA, evL, evO, evP, ne_eq, not_false_eq_true, if_true, if_false, reduceCtorEq, ite_true, ite_false, reduceIte, put_app, AV.cells, and_true, true_and, and_self, decide_true, decide_false, ↓yielded_eq, yv_some, boolOf_bool, List.getElem?_toArray, List.getElem?_cons_zero, List.getElem?_cons_succ, Nat.reduceLT, Nat.reduceEqDiff, beq_self_eq_true, Option.some_beq_some, wr_app, wr_app0, rd_app, rd_app0, rdL_here, rdL_next, wrL_here, wrL_next, spl, List.all_cons, List.all_nil, AV.one, Bool.and_self, Bool.true_and, List.drop_zero, List.take_succ_cons, List.take_zero, List.drop_succ_cons, List.head?_cons, Nat.reduceAdd, Nat.reduceLeDiff, List.length_cons, List.length_nil, List.nil_append, List.cons_append, List.set_cons_zero, List.set_cons_succ, Int.toNat_natCast, Nat.add_zero, b_ft, b_tf, Bool.false_eq_true, ↓rp_done, ↓rp_take, ↓rp_all, ↓ra_nil, ↓ra_first, ↓ra_next, ↓quietO_none, ↓quietO_guard, ↓q_move, ↓q_assign, ↓q_pick, ↓q_binOp, ↓q_field, ↓q_fieldAddr, ↓q_indexAddr, ↓q_nilCheck, set_order, keepV_eq, stBeq_self, ↓rp_graft, put_slot, put_slot_app, List.length_append, List.append_assoc, Nat.add_assoc, ↓aop_build, evP, Bool.true_and, Bool.and_true, Bool.false_and, Bool.and_false, Bool.true_or, Bool.or_true, Bool.false_or, Bool.or_false, Bool.not_true, Bool.not_false]
      refine ⟨_, _, rfl, by simp only [List.length_set, hlen], .inr ⟨?_, rfl, ?_⟩⟩
      · rw [hdx, hdy]; intro h; exact hne (List.cons.inj h).1
      · simp only [hlen, gs_self, gs_ne, List.length_set, ne_eq, Nat.reduceEqDiff, Nat.reduceLT, not_false_eq_true]

theorem same_loop' {a b : AV} {H : AH} {xs ys : List Int} {tm : List AV} {X : Option (AExit × St)} (hX : EvC Try.prog C4 l32_0 (tm, H) = X) (ha : Ints H a xs) (hb : Ints H b ys) (hxy : xs.length = ys.length) (hl : xs.length < 2 ^ 62)
    (hlen : tm.length = 26) (h0 : tm.getD 0 undefA = a) (h1 : tm.getD 1 undefA = b) (h5 : tm.getD 5 undefA = I ((0 : Nat) : Int)) :
    ∃ e tm', X = some (e, (tm', H)) ∧ tm'.length = 26 ∧ ((xs = ys ∧ e = .exit 0) ∨ (xs ≠ ys ∧ e = .ret ∧ tm'.getD 4 undefA = .bool false)) := by
  subst hX
  exact same_loop ha hb hxy hl xs.length 0 tm (by omega) (by omega) hlen h0 h1 h5

theorem same_ev {a b : AV} {H : AH} {xs ys : List Int} (ha : Ints H a xs) (hb : Ints H b ys) (hl : xs.length < 2 ^ 62) : Ev Try.prog C4 32 [a, b] H = some (.bool (decide (xs = ys)), H) := by
  have g0 : ([a, b] ++ List.replicate (26 - [a, b].length) undefA).length = 26 := by simp
  have g1 : ([a, b] ++ List.replicate (26 - [a, b].length) undefA).getD 0 undefA = a := rfl
  have g2 : ([a, b] ++ List.replicate (26 - [a, b].length) undefA).getD 1 undefA = b := rfl
  have hla := ha.len
  have hlb := hb.len
  rw [fe32]
  generalize [a, b] ++ List.replicate (26 - [a, b].length) undefA = tm at *
  by_cases hxy : xs.length = ys.length
  · have hd' : ((xs.length : Int) != (ys.length : Int)) = false := by simp [hxy]
    simp -implicitDefEqProofs only [c32, Try.f32, Option.getD_some, g0, g1, g2, hla, hlb, hd', ↓EvC_seq, ↓EvC_skip, ↓EvC_exit, ↓EvC_ret, ↓EvC_block, ↓EvC_cond, ↓ev_region, ↓runL_cons, ↓runL_nil, ↓stepO_none, ↓stepO_guard, ↓aop_move, ↓aop_assign, ↓aop_load, ↓aop_store, ↓aop_alloc, ↓aop_box, ↓aop_nilCheck, ↓aop_fieldAddr, ↓aop_field, ↓aop_indexAddr, ↓aop_binOp, ↓aop_pick, ↓aop_extract, ↓aop_buildSlice, ↓aop_slice, ↓aop_not, ↓aop_call, ↓callA_len, ↓callA_append, ev_tmp, ev_const, ofV_int, ofV_bool, ofV_str, ofV_nilSlice, ofV_nilPtr, putA_some, putA_none, gs_self, gs_ne, List.length_set, Option.bind_some, Option.map_some, intBinA, evL, evO, evP, ne_eq, not_false_eq_true, if_true, if_false, reduceCtorEq, ite_true, ite_false, reduceIte, put_app, AV.cells, and_true, true_and, and_self, decide_true, decide_false, ↓yielded_eq, yv_some, boolOf_bool, List.getElem?_toArray, List.getElem?_cons_zero, List.getElem?_cons_succ, Nat.reduceLT, Nat.reduceEqDiff, beq_self_eq_true, Option.some_beq_some, wr_app, wr_app0, rd_app, rd_app0, rdL_here, rdL_next, wrL_here, wrL_next, spl, List.all_cons, List.all_nil, AV.one, Bool.and_self, Bool.true_and, List.drop_zero, List.take_succ_cons, List.take_zero, List.drop_succ_cons, List.head?_cons, Nat.reduceAdd, Nat.reduceLeDiff, List.length_cons, List.length_nil, List.nil_append, List.cons_append, List.set_cons_zero, List.set_cons_succ, Int.toNat_natCast, Nat.add_zero, b_ft, b_tf, Bool.false_eq_true]
    generalize hX : EvC Try.prog C4 (Code.loop _) _ = X
    obtain ⟨e, tm', he, hl', hc⟩ := same_loop' hX ha hb hxy hl (by simp only [List.length_set, g0]) (by simp only [g0, g1, gs_self, gs_ne, List.length_set, ne_eq, Nat.reduceEqDiff, Nat.reduceLT, not_false_eq_true]) (by simp only [g0, g2, gs_self, gs_ne, List.length_set, ne_eq, Nat.reduceEqDiff, Nat.reduceLT, not_false_eq_true]) (by simp only [g0, gs_self, gs_ne, List.length_set, ne_eq, Nat.reduceEqDiff, Nat.reduceLT, not_false_eq_true] <;> rfl)
    subst he
    rcases hc with ⟨h, rfl⟩ | ⟨h, rfl, h4⟩
    · have hd2 : decide (xs = ys) = true := by simpa using h
      simp -implicitDefEqProofs only [hl', hd2, ↓EvC_seq, ↓EvC_skip, ↓EvC_exit, ↓EvC_ret, ↓EvC_block, ↓EvC_cond, ↓ev_region, ↓runL_cons, ↓runL_nil, ↓stepO_none, ↓stepO_guard, ↓aop_move, ↓aop_assign, ↓aop_load, ↓aop_store, ↓aop_alloc, ↓aop_box, ↓aop_nilCheck, ↓aop_fieldAddr, ↓aop_field, ↓aop_indexAddr, ↓aop_binOp, ↓aop_pick, ↓aop_extract, ↓aop_buildSlice, ↓aop_slice, ↓aop_not, ↓aop_call, ↓callA_len, ↓callA_append, ev_tmp, ev_const, ofV_int, ofV_bool, ofV_str, ofV_nilSlice, ofV_nilPtr, putA_some, putA_none, gs_self, gs_ne, List.length_set, Option.bind_some, Option.map_some, intBinA, evL, evO, evP, ne_eq, not_false_eq_true, if_true, if_false, reduceCtorEq, ite_true, ite_false, reduceIte, put_app, AV.cells, and_true, true_and, and_self, decide_true, decide_false, ↓yielded_eq, yv_some, boolOf_bool, List.getElem?_toArray, List.getElem?_cons_zero, List.getElem?_cons_succ, Nat.reduceLT, Nat.reduceEqDiff, beq_self_eq_true, Option.some_beq_some, wr_app, wr_app0, rd_app, rd_app0, rdL_here, rdL_next, wrL_here, wrL_next, spl, List.all_cons, List.all_nil, AV.one, Bool.and_self, Bool.true_and, List.drop_zero, List.take_succ_cons, List.take_zero, List.drop_succ_cons, List.head?_cons, Nat.reduceAdd, Nat.reduceLeDiff, List.length_cons, List.length_nil, List.nil_append, List.cons_append, List.set_cons_zero, List.set_cons_succ, Int.toNat_natCast, Nat.add_zero, b_ft, b_tf, Bool.false_eq_true]
    · have hd2 : decide (xs = ys) = false := by simpa using h
      simp -implicitDefEqProofs only [hl', hd2, h4, ↓EvC_seq, ↓EvC_skip, ↓EvC_exit, ↓EvC_ret, ↓EvC_block, ↓EvC_cond, ↓ev_region, ↓runL_cons, ↓runL_nil, ↓stepO_none, ↓stepO_guard, ↓aop_move, ↓aop_assign, ↓aop_load, ↓aop_store, ↓aop_alloc, ↓aop_box, ↓aop_nilCheck, ↓aop_fieldAddr, ↓aop_field, ↓aop_indexAddr, ↓aop_binOp, ↓aop_pick, ↓aop_extract, ↓aop_buildSlice, ↓aop_slice, ↓aop_not, ↓aop_call, ↓callA_len, ↓callA_append, ev_tmp, ev_const, ofV_int, ofV_bool, ofV_str, ofV_nilSlice, ofV_nilPtr, putA_some, putA_none, gs_self, gs_ne, List.length_set, Option.bind_some, Option.map_some, intBinA, evL, evO, evP, ne_eq, not_false_eq_true, if_true, if_false, reduceCtorEq, ite_true, ite_false, reduceIte, put_app, AV.cells, and_true, true_and, and_self, decide_true, decide_false, ↓yielded_eq, yv_some, boolOf_bool, List.getElem?_toArray, List.getElem?_cons_zero, List.getElem?_cons_succ, Nat.reduceLT, Nat.reduceEqDiff, beq_self_eq_true, Option.some_beq_some, wr_app, wr_app0, rd_app, rd_app0, rdL_here, rdL_next, wrL_here, wrL_next, spl, List.all_cons, List.all_nil, AV.one, Bool.and_self, Bool.true_and, List.drop_zero, List.take_succ_cons, List.take_zero, List.drop_succ_cons, List.head?_cons, Nat.reduceAdd, Nat.reduceLeDiff, List.length_cons, List.length_nil, List.nil_append, List.cons_append, List.set_cons_zero, List.set_cons_succ, Int.toNat_natCast, Nat.add_zero, b_ft, b_tf, Bool.false_eq_true]
  · have hd' : ((xs.length : Int) != (ys.length : Int)) = true := by simp; omega
    have hd2 : decide (xs = ys) = false := by simp; intro h; exact hxy (by rw [h])
    simp -implicitDefEqProofs only [c32, Try.f32, Option.getD_some, g0, g1, g2, hla, hlb, hd', hd2, ↓EvC_seq, ↓EvC_skip, ↓EvC_exit, ↓EvC_ret, ↓EvC_block, ↓EvC_cond, ↓ev_region, ↓runL_cons, ↓runL_nil, ↓stepO_none, ↓stepO_guard, ↓aop_move, ↓aop_assign, ↓aop_load, ↓aop_store, ↓aop_alloc, ↓aop_box, ↓aop_nilCheck, ↓aop_fieldAddr, ↓aop_field, ↓aop_indexAddr, ↓aop_binOp, ↓aop_pick, ↓aop_extract, ↓aop_buildSlice, ↓aop_slice, ↓aop_not, ↓aop_call, ↓callA_len, ↓callA_append, ev_tmp, ev_const, ofV_int, ofV_bool, ofV_str, ofV_nilSlice, ofV_nilPtr, putA_some, putA_none, gs_self, gs_ne, List.length_set, Option.bind_some, Option.map_some, intBinA, evL, evO, evP, ne_eq, not_false_eq_true, if_true, if_false, reduceCtorEq, ite_true, ite_false, reduceIte, put_app, AV.cells, and_true, true_and, and_self, decide_true, decide_false, ↓yielded_eq, yv_some, boolOf_bool, List.getElem?_toArray, List.getElem?_cons_zero, List.getElem?_cons_succ, Nat.reduceLT, Nat.reduceEqDiff, beq_self_eq_true, Option.some_beq_some, wr_app, wr_app0, rd_app, rd_app0, rdL_here, rdL_next, wrL_here, wrL_next, spl, List.all_cons, List.all_nil, AV.one, Bool.and_self, Bool.true_and, List.drop_zero, List.take_succ_cons, List.take_zero, List.drop_succ_cons, List.head?_cons, Nat.reduceAdd, Nat.reduceLeDiff, List.length_cons, List.length_nil, List.nil_append, List.cons_append, List.set_cons_zero, List.set_cons_succ, Int.toNat_natCast, Nat.add_zero, b_ft, b_tf, Bool.false_eq_true]

theorem Nums.ints {H0 G : AH} {bo : Nat} {xs : List Nat} (h : Nums H0 G bo xs) : Ints G (isl bo xs.length true) (xs.map fun n : Nat => (n : Int)) := by
  refine ⟨fun H => by rw [isl_len, List.length_map], fun j x hx => ?_⟩
  rw [List.getElem?_map] at hx
  simp only [Option.map_eq_some_iff] at hx
  obtain ⟨y, hy, rfl⟩ := hx
  exact ⟨bo, j, isl_ix (lt_of_get hy), rdI h.hc hy⟩
theorem numL_len : ∀ (xs N : List Nat), (numL N xs).length = xs.length
  | [], _ => rfl
  | g :: xs, N => by rw [numL, List.length_cons, numL_len xs, List.length_cons]
theorem groupsS_len (l : List E6) : (groupsS l).length = l.length := by rw [groupsS, numL_len]; exact (groups_conn l).1

set_option maxHeartbeats 4000000 in
theorem law11_ev (H : AH) (v : AV) (l : List E6) (hl : l.length < 2 ^ 62) (hv : EvS H v l) : ∃ H', Ev Try.prog C4 11 [v] H = some (.bool true, H') := by
  have g0 : ([v] ++ List.replicate (38 - [v].length) undefA).length = 38 := by simp
  have g1 : ([v] ++ List.replicate (38 - [v].length) undefA).getD 0 undefA = v := rfl
  have hla := hv.evs.len
  rw [fe11]
  generalize [v] ++ List.replicate (38 - [v].length) undefA = tm at *
  cases h4 : decide ((l.length : Int) > 60)
  · have h60 : l.length ≤ 60 := by simp at h4; omega
    have hd : (decide ((l.length : Int) ≤ 4000)) = !(decide ((l.length : Int) > 4000)) := by rw [decide_eq_true (by omega), decide_eq_false (by omega)]; rfl
    have e0 : ∀ G, EvS G v l → Ev Try.prog C4 17 [v] G = some (.bool (!(decide ((l.length : Int) > 4000)) && !(l.any E6.bad)), G) := fun G hG => by rw [← hd]; exact k4_ref_valid hG.evs hl
    cases hb : (!(decide ((l.length : Int) > 4000)) && !(l.any E6.bad))
    · have e1 := groups_bad hv (by omega) hb
      have e2 := e0 H hv
      rw [hb] at e2
      have n46 := ln46n
      have hee : ((0 : Int) == 0) = true := rfl
      have hee1 : ((1 : Int) == 1) = true := rfl
      apply Exists.intro
      simp -implicitDefEqProofs only [c11, Try.f11, Option.getD_some, g0, g1, hla, h4, e1, e2, n46, hee, hee1, k4_awake, ↓fc15, ↓fc17, ↓fc35, Bool.not_true, Bool.not_false, Bool.true_and, Bool.and_true, Bool.false_and, Bool.and_false, Bool.true_or, Bool.or_true, Bool.false_or, Bool.or_false, cond_true, cond_false, boolOf_undef, nb, beq_self_eq_true, Bool.and_self, ↓q_not, ↓aop_lookup, ↓aop_makeFunc, ↓aop_makeMap, ↓aop_mapUpdate, ↓aop_mapEntry, ↓aop_entryStore, ↓aop_buildSlice, ↓aop_extract, ↓EvC_seq, ↓EvC_skip, ↓EvC_exit, ↓EvC_ret, ↓EvC_block, ↓EvC_cond, ↓ev_region, ↓runL_cons, ↓runL_nil, ↓stepO_none, ↓stepO_guard, ↓aop_move, ↓aop_assign, ↓aop_load, ↓aop_store, ↓aop_alloc, ↓aop_box, ↓aop_nilCheck, ↓aop_fieldAddr, ↓aop_field, ↓aop_indexAddr, ↓aop_binOp, ↓aop_pick, ↓aop_extract, ↓aop_buildSlice, ↓aop_slice, ↓aop_not, ↓aop_call, ↓callA_len, ↓callA_append, ev_tmp, ev_const, ofV_int, ofV_bool, ofV_str, ofV_nilSlice, ofV_nilPtr, putA_some, putA_none, gs_self, gs_ne, List.length_set, Option.bind_some, Option.map_some, intBinA, evL, evO, evP, ne_eq, not_false_eq_true, if_true, if_false, reduceCtorEq, ite_true, ite_false, reduceIte, put_app, AV.cells, and_true, true_and, and_self, decide_true, decide_false, ↓yielded_eq, yv_some, boolOf_bool, List.getElem?_toArray, List.getElem?_cons_zero, List.getElem?_cons_succ, Nat.reduceLT, Nat.reduceEqDiff, beq_self_eq_true, Option.some_beq_some, wr_app, wr_app0, rd_app, rd_app0, rdL_here, rdL_next, wrL_here, wrL_next, spl, List.all_cons, List.all_nil, AV.one, Bool.and_self, Bool.true_and, List.drop_zero, List.take_succ_cons, List.take_zero, List.drop_succ_cons, List.head?_cons, Nat.reduceAdd, Nat.reduceLeDiff, List.length_cons, List.length_nil, List.nil_append, List.cons_append, List.set_cons_zero, List.set_cons_succ, Int.toNat_natCast, Nat.add_zero, b_ft, b_tf, Bool.false_eq_true]
      with_reducible rfl
    · obtain ⟨H1, e1, n1⟩ := groups_ev hv (by omega) hb
      have hv1 := hv.same n1.keep
      have e2 := e0 H1 hv1
      rw [hb] at e2
      obtain ⟨H2, e3, n2⟩ := ref_groups_ev hv1 (by omega)
      have hgl := groupsS_len l
      have i1 := n1.ints
      have i2 := n2.ints
      rw [hgl] at i1 i2
      have i1' : Ints H2 (isl H.length l.length true) ((groupsS l).map fun n : Nat => (n : Int)) := by
        refine ⟨i1.len, fun j x hx => ?_⟩
        obtain ⟨i, k, hi, hr⟩ := i1.ix j x hx
        refine ⟨i, k, hi, ?_⟩
        have hlt := rd_lt hr
        unfold rdCells at hr ⊢
        rw [n2.keep i hlt]
        exact hr
      have e4 := same_ev i1' i2 (by rw [List.length_map, hgl]; omega)
      rw [decide_eq_true rfl] at e4
      have hee : ((0 : Int) == 0) = true := rfl
      apply Exists.intro
      simp -implicitDefEqProofs only [c11, Try.f11, Option.getD_some, g0, g1, hla, h4, e1, e2, e3, e4, hee, k4_awake, ↓fc15, ↓fc17, ↓fc35, ↓fc36, ↓fc32, Bool.not_true, Bool.not_false, Bool.true_and, Bool.and_true, Bool.false_and, Bool.and_false, Bool.true_or, Bool.or_true, Bool.false_or, Bool.or_false, cond_true, cond_false, boolOf_undef, nb, beq_self_eq_true, Bool.and_self, ↓q_not, ↓aop_lookup, ↓aop_makeFunc, ↓aop_makeMap, ↓aop_mapUpdate, ↓aop_mapEntry, ↓aop_entryStore, ↓aop_buildSlice, ↓aop_extract, ↓EvC_seq, ↓EvC_skip, ↓EvC_exit, ↓EvC_ret, ↓EvC_block, ↓EvC_cond, ↓ev_region, ↓runL_cons, ↓runL_nil, ↓stepO_none, ↓stepO_guard, ↓aop_move, ↓aop_assign, ↓aop_load, ↓aop_store, ↓aop_alloc, ↓aop_box, ↓aop_nilCheck, ↓aop_fieldAddr, ↓aop_field, ↓aop_indexAddr, ↓aop_binOp, ↓aop_pick, ↓aop_extract, ↓aop_buildSlice, ↓aop_slice, ↓aop_not, ↓aop_call, ↓callA_len, ↓callA_append, ev_tmp, ev_const, ofV_int, ofV_bool, ofV_str, ofV_nilSlice, ofV_nilPtr, putA_some, putA_none, gs_self, gs_ne, List.length_set, Option.bind_some, Option.map_some, intBinA, evL, evO, evP, ne_eq, not_false_eq_true, if_true, if_false, reduceCtorEq, ite_true, ite_false, reduceIte, put_app, AV.cells, and_true, true_and, and_self, decide_true, decide_false, ↓yielded_eq, yv_some, boolOf_bool, List.getElem?_toArray, List.getElem?_cons_zero, List.getElem?_cons_succ, Nat.reduceLT, Nat.reduceEqDiff, beq_self_eq_true, Option.some_beq_some, wr_app, wr_app0, rd_app, rd_app0, rdL_here, rdL_next, wrL_here, wrL_next, spl, List.all_cons, List.all_nil, AV.one, Bool.and_self, Bool.true_and, List.drop_zero, List.take_succ_cons, List.take_zero, List.drop_succ_cons, List.head?_cons, Nat.reduceAdd, Nat.reduceLeDiff, List.length_cons, List.length_nil, List.nil_append, List.cons_append, List.set_cons_zero, List.set_cons_succ, Int.toNat_natCast, Nat.add_zero, b_ft, b_tf, Bool.false_eq_true]
      with_reducible rfl
  · apply Exists.intro
    simp -implicitDefEqProofs only [c11, Try.f11, Option.getD_some, g0, g1, hla, h4, k4_awake, ↓fc15, Bool.not_true, Bool.not_false, Bool.true_and, Bool.and_true, Bool.false_and, Bool.and_false, Bool.true_or, Bool.or_true, Bool.false_or, Bool.or_false, cond_true, cond_false, boolOf_undef, nb, beq_self_eq_true, Bool.and_self, ↓EvC_seq, ↓EvC_skip, ↓EvC_exit, ↓EvC_ret, ↓EvC_block, ↓EvC_cond, ↓ev_region, ↓runL_cons, ↓runL_nil, ↓stepO_none, ↓stepO_guard, ↓aop_move, ↓aop_assign, ↓aop_load, ↓aop_store, ↓aop_alloc, ↓aop_box, ↓aop_nilCheck, ↓aop_fieldAddr, ↓aop_field, ↓aop_indexAddr, ↓aop_binOp, ↓aop_pick, ↓aop_extract, ↓aop_buildSlice, ↓aop_slice, ↓aop_not, ↓aop_call, ↓callA_len, ↓callA_append, ev_tmp, ev_const, ofV_int, ofV_bool, ofV_str, ofV_nilSlice, ofV_nilPtr, putA_some, putA_none, gs_self, gs_ne, List.length_set, Option.bind_some, Option.map_some, intBinA, evL, evO, evP, ne_eq, not_false_eq_true, if_true, if_false, reduceCtorEq, ite_true, ite_false, reduceIte, put_app, AV.cells, and_true, true_and, and_self, decide_true, decide_false, ↓yielded_eq, yv_some, boolOf_bool, List.getElem?_toArray, List.getElem?_cons_zero, List.getElem?_cons_succ, Nat.reduceLT, Nat.reduceEqDiff, beq_self_eq_true, Option.some_beq_some, wr_app, wr_app0, rd_app, rd_app0, rdL_here, rdL_next, wrL_here, wrL_next, spl, List.all_cons, List.all_nil, AV.one, Bool.and_self, Bool.true_and, List.drop_zero, List.take_succ_cons, List.take_zero, List.drop_succ_cons, List.head?_cons, Nat.reduceAdd, Nat.reduceLeDiff, List.length_cons, List.length_nil, List.nil_append, List.cons_append, List.set_cons_zero, List.set_cons_succ, Int.toNat_natCast, Nat.add_zero, b_ft, b_tf, Bool.false_eq_true]
    with_reducible rfl

end Go.Dv
