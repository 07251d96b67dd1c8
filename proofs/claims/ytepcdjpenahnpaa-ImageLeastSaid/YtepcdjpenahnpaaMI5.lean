/- Texts of the evaluator and of the laws' walks, put together in the order of their build: P91, P92, P93 (own work). -/
import Derived.Test.YtepcdjpenahnpaaMI4

/- Plain laws about pages in frames: to replace the page that is needed last is best (own work). -/
namespace Go.Dv
set_option linter.unusedVariables false
set_option linter.unusedSimpArgs false

/-- the place of the page that is needed last: the first with the greatest distance -/
def farI (rest : List Int) : List Int → Nat → Nat → Int → Nat
  | [], _, w, _ => w
  | p :: h, i, w, far => if ((rest.idxOf p : Nat) : Int) > far then farI rest h (i + 1) i (rest.idxOf p : Nat) else farI rest h (i + 1) w far
def worst (rest h : List Int) : Nat := farI rest h 0 0 (-1)
theorem farI_spec (rest hh : List Int) : ∀ (h : List Int) (i w : Nat) (far : Int), hh.drop i = h → (∀ j, j < i → ((rest.idxOf (hh.getD j 0) : Nat) : Int) ≤ far) → ((i = 0 ∧ far = -1) ∨ (w < hh.length ∧ ((rest.idxOf (hh.getD w 0) : Nat) : Int) = far)) →
    (hh ≠ [] → farI rest h i w far < hh.length ∧ ∀ j, j < hh.length → rest.idxOf (hh.getD j 0) ≤ rest.idxOf (hh.getD (farI rest h i w far) 0))
  | [], i, w, far, hd, hb, hw => by
    intro hne
    have hi : hh.length ≤ i := by
      have := congrArg List.length hd
      simp only [List.length_drop, List.length_nil] at this; omega
    have hpos := List.length_pos_iff.2 hne
    rcases hw with ⟨h0, _⟩ | ⟨hw, he⟩
    · omega
    · refine ⟨hw, fun j hj => ?_⟩
      have := hb j (by omega)
      unfold farI
      omega
  | p :: h, i, w, far, hd, hb, hw => by
    have hi : i < hh.length := by
      have := congrArg List.length hd
      simp only [List.length_drop, List.length_cons] at this; omega
    have hp : hh.getD i 0 = p := by
      rw [List.getD_eq_getElem?_getD, List.getElem?_eq_getElem hi, Option.getD_some]
      rw [List.drop_eq_getElem_cons hi] at hd
      exact (List.cons.inj hd).1
    have hd' : hh.drop (i + 1) = h := by
      rw [List.drop_eq_getElem_cons hi] at hd
      exact (List.cons.inj hd).2
    unfold farI
    split
    · rename_i hg
      refine farI_spec rest hh h (i + 1) i _ hd' (fun j hj => ?_) (.inr ⟨hi, by rw [hp]⟩)
      rcases Nat.lt_or_ge j i with hj' | hj'
      · have := hb j hj'; omega
      · obtain rfl : j = i := by omega
        rw [hp]; omega
    · rename_i hg
      refine farI_spec rest hh h (i + 1) w far hd' (fun j hj => ?_) ?_
      · rcases Nat.lt_or_ge j i with hj' | hj'
        · exact hb j hj'
        · obtain rfl : j = i := by omega
          rw [hp]; omega
      · rcases hw with ⟨h0, h1⟩ | hw
        · omega
        · exact .inr hw
theorem worst_spec (rest h : List Int) (hne : h ≠ []) : worst rest h < h.length ∧ ∀ x ∈ h, rest.idxOf x ≤ rest.idxOf (h.getD (worst rest h) 0) := by
  have := farI_spec rest h h 0 0 (-1) rfl (by intro j hj; omega) (.inl ⟨rfl, rfl⟩) hne
  refine ⟨this.1, fun x hx => ?_⟩
  obtain ⟨j, hj, rfl⟩ := List.mem_iff_getElem.1 hx
  have h2 := this.2 j hj
  rwa [List.getD_eq_getElem?_getD, List.getElem?_eq_getElem hj, Option.getD_some] at h2

/-- a page is needed, and the one that is needed last is replaced -/
def belS (f : Nat) (h : List Int) (p : Int) (rest : List Int) : List Int × Bool :=
  if p ∈ h then (h, false) else ((if h.length = f then h.eraseIdx (worst rest h) else h) ++ [p], true)
def bel (f : Nat) : List Int → List Int → Nat
  | [], _ => 0
  | p :: t, h => (if (belS f h p t).2 then 1 else 0) + bel f t (belS f h p t).1

/-- a policy: it may drop a page where it needs a frame -/
inductive Pol (f : Nat) : List Int → List Int → Nat → Prop where
  | nil (o : List Int) : Pol f [] o 0
  | hit {p : Int} {t o o' : List Int} {c : Nat} (hp : p ∈ o) (he : o'.Perm o) (h : Pol f t o' c) : Pol f (p :: t) o c
  | miss {p : Int} {t o o' r : List Int} {c : Nat} (hp : p ∉ o) (hr : r.Sublist o) (he : o'.Perm (p :: r)) (hl : o'.length ≤ f) (h : Pol f t o' c) : Pol f (p :: t) o (c + 1)

/-- how many pages of a list are in another one -/
def cnt (s l : List Int) : Nat := s.countP fun x => decide (x ∈ l)
theorem cnt_perm {s s' : List Int} (h : s.Perm s') (l : List Int) : cnt s l = cnt s' l := h.countP_eq _
theorem cnt_cons (p : Int) (s l : List Int) : cnt (p :: s) l = cnt s l + if p ∈ l then 1 else 0 := by
  unfold cnt; rw [List.countP_cons]; simp
theorem cnt_app (s r l : List Int) : cnt (s ++ r) l = cnt s l + cnt r l := by unfold cnt; rw [List.countP_append]
theorem cnt_le (s l : List Int) : cnt s l ≤ s.length := List.countP_le_length
/-- the next page is one more to be counted -/
theorem cnt_next : ∀ {s : List Int} (p : Int) (l : List Int), s.Nodup → cnt s (p :: l) = cnt s l + if p ∈ s ∧ p ∉ l then 1 else 0
  | [], p, l, _ => by simp [cnt]
  | x :: s, p, l, hn => by
    rw [List.nodup_cons] at hn
    rw [cnt_cons, cnt_cons, cnt_next p l hn.2]
    by_cases e : x = p
    · subst e
      have h1 : ¬ (x ∈ s ∧ x ∉ l) := fun h => hn.1 h.1
      rw [if_neg h1]
      by_cases hl : x ∈ l
      · simp [hl]
      · simp [hl]
    · by_cases hl : x ∈ l
      · by_cases hs : p ∈ s ∧ p ∉ l
        · rw [if_pos hs, if_pos (List.mem_cons_of_mem _ hl), if_pos hl, if_pos ⟨List.mem_cons_of_mem _ hs.1, hs.2⟩] <;> omega
        · rw [if_neg hs, if_pos (List.mem_cons_of_mem _ hl), if_pos hl, if_neg]
          rintro ⟨h1, h2⟩
          exact hs ⟨(List.mem_cons.1 h1).resolve_left fun h => e h.symm, h2⟩
      · have hxp : x ∉ p :: l := fun h => (List.mem_cons.1 h).elim e hl
        by_cases hs : p ∈ s ∧ p ∉ l
        · rw [if_pos hs, if_neg hxp, if_neg hl, if_pos ⟨List.mem_cons_of_mem _ hs.1, hs.2⟩]
        · rw [if_neg hs, if_neg hxp, if_neg hl, if_neg]
          rintro ⟨h1, h2⟩
          exact hs ⟨(List.mem_cons.1 h1).resolve_left fun h => e h.symm, h2⟩
theorem cnt_eraseIdx {s l : List Int} {w : Nat} (hw : w < s.length) : cnt s l = cnt (s.eraseIdx w) l + if s.getD w 0 ∈ l then 1 else 0 := by
  have e := List.take_append_drop w s
  have e2 : s.eraseIdx w = s.take w ++ s.drop (w + 1) := List.eraseIdx_eq_take_drop_succ ..
  rw [e2, ← e, cnt_app, List.drop_eq_getElem_cons hw, cnt_cons]
  have : (s.take w ++ s[w] :: s.drop (w + 1)) = s := by rw [← List.drop_eq_getElem_cons hw, e]
  rw [this, cnt_app]
  have h2 : s.getD w 0 = s[w] := by rw [List.getD_eq_getElem?_getD, List.getElem?_eq_getElem hw, Option.getD_some]
  rw [h2]; omega
/-- x is among the next n pages, by its place -/
theorem mem_take (t : List Int) (x : Int) : ∀ n, x ∈ t.take n ↔ t.idxOf x < min n t.length := by
  induction t with
  | nil => intro n; simp
  | cons y t ih =>
    intro n
    cases n with
    | zero => simp
    | succ n =>
      rw [List.take_succ_cons, List.mem_cons, ih n, List.idxOf_cons]
      by_cases e : y = x
      · subst e; simp
      · have h1 : (y == x) = false := by simpa using e
        have h2 : ¬ x = y := fun h => e h.symm
        simp only [h1, cond_false, h2, false_or, List.length_cons]; omega
theorem cnt_all {s l : List Int} (h : ∀ x ∈ s, x ∈ l) : cnt s l = s.length := by
  unfold cnt; rw [List.countP_eq_length]; intro x hx; simpa using h x hx
/-- the page that is needed last: if it is among the next ones, all are -/
theorem worst_all {s t : List Int} (hne : s ≠ []) (n : Nat) (h : s.getD (worst t s) 0 ∈ t.take n) : cnt s (t.take n) = s.length := by
  refine cnt_all fun x hx => ?_
  rw [mem_take] at h ⊢
  exact Nat.lt_of_le_of_lt ((worst_spec t s hne).2 x hx) h

theorem bel_nodup {f : Nat} {h : List Int} {p : Int} {t : List Int} (hn : h.Nodup) : (belS f h p t).1.Nodup := by
  unfold belS
  split
  · exact hn
  · rename_i hp
    have hs : (if h.length = f then h.eraseIdx (worst t h) else h).Sublist h := by
      split
      · exact List.eraseIdx_sublist _ _
      · exact List.Sublist.refl _
    refine List.nodup_append.2 ⟨hn.sublist hs, by simp, ?_⟩
    intro a ha b hb e
    simp only [List.mem_cons, List.not_mem_nil, or_false] at hb
    subst hb; subst e
    exact hp (hs.subset ha)
theorem bel_len {f : Nat} (hf : 0 < f) {h : List Int} (hh : h.length ≤ f) (p : Int) (t : List Int) : (belS f h p t).1.length ≤ f := by
  unfold belS
  split
  · exact hh
  · split
    · rename_i e
      have := (worst_spec t h (by intro e'; subst e'; simp at e; omega)).1
      simp only [List.length_append, List.length_eraseIdx, List.length_cons, List.length_nil, if_pos this]; omega
    · simp only [List.length_append, List.length_cons, List.length_nil]; omega

theorem cnt_mono_len {s : List Int} (l : List Int) {f : Nat} (h : s.length ≤ f) : cnt s l ≤ f := Nat.le_trans (cnt_le s l) h
/-- To replace the page that is needed last is at least as good as any policy. -/
theorem bel_best {f : Nat} (hf : 0 < f) : ∀ (t b o : List Int) (c s : Nat), Pol f t o c → b.Nodup → o.Nodup → b.length ≤ f → o.length ≤ f →
    (∀ n, cnt o (t.take n) ≤ cnt b (t.take n) + s) → bel f t b ≤ c + s
  | [], b, o, c, s, _, _, _, _, _, _ => Nat.zero_le _
  | p :: t, b, o, c, s, hP, hb, ho, hbl, hol, hs => by
    have hs' : ∀ n, cnt o (p :: t.take n) ≤ cnt b (p :: t.take n) + s := fun n => by simpa using hs (n + 1)
    have hbn := bel_nodup (f := f) (p := p) (t := t) hb
    have hbl' := bel_len hf hbl p t
    have hB : ∀ n, cnt (belS f b p t).1 (t.take n) + (if p ∈ b ∧ p ∉ t.take n then 1 else 0) = cnt b (p :: t.take n) ∧ p ∈ b ∨
        p ∉ b ∧ (cnt (belS f b p t).1 (t.take n) = cnt b (p :: t.take n) + (if p ∈ t.take n then 1 else 0) ∨ cnt (belS f b p t).1 (t.take n) + 1 = f + (if p ∈ t.take n then 1 else 0)) := by
      intro n
      by_cases hp : p ∈ b
      · left
        refine ⟨?_, hp⟩
        rw [cnt_next p _ hb]
        simp only [belS, if_pos hp]
      · right
        refine ⟨hp, ?_⟩
        rw [cnt_next p _ hb, if_neg (fun h => hp h.1), Nat.add_zero]
        simp only [belS, if_neg hp, cnt_app, cnt_cons]
        rw [show cnt [] (t.take n) = 0 from rfl, Nat.zero_add]
        split
        · rename_i hl
          have hne : b ≠ [] := by intro e; subst e; simp at hl; omega
          have hw := (worst_spec t b hne).1
          have hc := cnt_eraseIdx (l := t.take n) hw
          by_cases hin : b.getD (worst t b) 0 ∈ t.take n
          · right
            have := worst_all hne n hin
            rw [if_pos hin] at hc
            omega
          · left
            rw [if_neg hin] at hc
            omega
        · left; rfl
    cases hP with
    | @hit _ _ _ o' c hp he h =>
      have ho' : o'.Nodup := he.nodup_iff.2 ho
      have hol' : o'.length ≤ f := by rw [he.length_eq]; exact hol
      by_cases hpb : p ∈ b
      · have e2 : (belS f b p t).2 = false := by simp [belS, hpb]
        have := bel_best hf t (belS f b p t).1 o' c s h hbn ho' hbl' hol' (fun n => by
          have h1 := hs' n
          have h2 := cnt_perm he (t.take n)
          rw [cnt_next p _ ho] at h1
          rcases hB n with h3 | h3
          · simp only [hp, hpb, true_and] at h1 h3
            split at h1 <;> rename_i hq <;> simp only [hq, not_true_eq_false, not_false_eq_true, if_true, if_false] at h3 <;> omega
          · exact absurd hpb h3.1)
        simp only [bel, e2, Bool.false_eq_true, if_false]; omega
      · have e2 : (belS f b p t).2 = true := by simp [belS, hpb]
        have hs1 : 1 ≤ s := by
          have h1 := hs' 0
          rw [cnt_next p _ ho, cnt_next p _ hb] at h1
          simp [hp, hpb, cnt] at h1
          exact h1
        have := bel_best hf t (belS f b p t).1 o' c (s - 1) h hbn ho' hbl' hol' (fun n => by
          have h1 := hs' n
          have h2 := cnt_perm he (t.take n)
          have h4 := cnt_mono_len (t.take n) hol'
          have h5 := cnt_mono_len (p :: t.take n) hol
          rw [cnt_next p _ ho] at h1 h5
          rcases hB n with h3 | h3
          · exact absurd h3.2 hpb
          · simp only [hp, true_and] at h1 h5
            by_cases hq : p ∈ t.take n
            · simp only [hq, not_true_eq_false, if_false, if_true] at h1 h3 h5
              rcases h3.2 with h3 | h3 <;> omega
            · simp only [hq, not_false_eq_true, if_true, if_false] at h1 h3 h5
              rcases h3.2 with h3 | h3 <;> omega)
        simp only [bel, e2, if_true]; omega
    | @miss _ _ _ o' r c hp hr he hl h =>
      have hpr : p ∉ r := fun h => hp (hr.subset h)
      have ho' : o'.Nodup := he.nodup_iff.2 (List.nodup_cons.2 ⟨hpr, ho.sublist hr⟩)
      have hc : ∀ n, cnt o' (t.take n) ≤ cnt o (p :: t.take n) + if p ∈ t.take n then 1 else 0 := by
        intro n
        rw [cnt_perm he, cnt_cons, cnt_next p _ ho, if_neg (fun h : p ∈ o ∧ p ∉ t.take n => hp h.1)]
        have : cnt r (t.take n) ≤ cnt o (t.take n) := hr.countP_le
        omega
      have hc2 : ∀ n, cnt o' (t.take n) + 1 ≤ f + if p ∈ t.take n then 1 else 0 := by
        intro n
        have e1 := cnt_perm he (t.take n)
        rw [cnt_cons] at e1
        have e3 := cnt_le r (t.take n)
        have e4 := he.length_eq
        simp only [List.length_cons] at e4
        omega
      by_cases hpb : p ∈ b
      · have e2 : (belS f b p t).2 = false := by simp [belS, hpb]
        have := bel_best hf t (belS f b p t).1 o' c (s + 1) h hbn ho' hbl' hl (fun n => by
          have h1 := hs' n
          have h2 := hc n
          rcases hB n with h3 | h3
          · simp only [hpb, true_and] at h3
            by_cases hq : p ∈ t.take n
            · simp only [hq, not_true_eq_false, if_true, if_false] at h2 h3; omega
            · simp only [hq, not_false_eq_true, if_true, if_false] at h2 h3; omega
          · exact absurd hpb h3.1)
        simp only [bel, e2, Bool.false_eq_true, if_false]; omega
      · have e2 : (belS f b p t).2 = true := by simp [belS, hpb]
        have := bel_best hf t (belS f b p t).1 o' c s h hbn ho' hbl' hl (fun n => by
          have h1 := hs' n
          have h2 := hc n
          have h4 := hc2 n
          rcases hB n with h3 | h3
          · exact absurd h3.2 hpb
          · rcases h3.2 with h3 | h3 <;> omega)
        simp only [bel, e2, if_true]; omega
/-- from no pages on -/
theorem bel_pol {f : Nat} (hf : 0 < f) {t : List Int} {c : Nat} (h : Pol f t [] c) : bel f t [] ≤ c := by
  have := bel_best hf t [] [] c 0 h (by simp) (by simp) (by simp) (by simp) (by intro n; simp [cnt])
  omega
/-- the first policy of these pages is one -/
theorem run_pol {f : Nat} (hf : 0 < f) : ∀ (t h : List Int), h.length ≤ f → Pol f t h (runS f t h 0).2
  | [], h, _ => .nil h
  | p :: t, h, hl => by
    have ih := run_pol hf t (useS f h p).1 (use_len hf hl p)
    have ha := run_add (f := f) t (useS f h p).1 1
    by_cases hp : p ∈ h
    · simp only [runS, use_fault, hp, decide_true, Bool.not_true, Bool.false_eq_true, if_false]
      refine .hit hp ?_ ih
      rw [use_in hp]
      exact (List.perm_append_singleton p _).trans (List.perm_cons_erase hp).symm
    · simp only [runS, use_fault, hp, decide_false, Bool.not_false, if_true, Nat.zero_add]
      rw [ha.1, Nat.add_comm]
      have hu := use_len hf hl p
      rw [use_out hp] at ih hu ⊢
      refine .miss hp (r := if h.length = f then h.drop 1 else h) ?_ (List.perm_append_singleton p _) hu ih
      split
      · exact List.drop_sublist _ _
      · exact List.Sublist.refl _
end Go.Dv

/- Plain laws about pages in frames: the page that was not needed for the longest time against the best; the number of different pages (own work). -/
namespace Go.Dv
set_option linter.unusedVariables false
set_option linter.unusedSimpArgs false

theorem len_sub : ∀ {l o : List Int}, l.Nodup → (∀ x ∈ l, x ∈ o) → l.length ≤ o.length
  | [], o, _, _ => Nat.zero_le _
  | x :: l, o, hn, hs => by
    rw [List.nodup_cons] at hn
    have hx := hs x (List.mem_cons_self ..)
    have := len_sub (l := l) (o := o.erase x) hn.2 (fun y hy => (List.mem_erase_of_ne (fun e : y = x => hn.1 (e ▸ hy))).2 (hs y (List.mem_cons_of_mem _ hy)))
    rw [List.length_erase_of_mem hx] at this
    have := List.length_pos_of_mem hx
    simp only [List.length_cons]; omega

/-- the number of different numbers -/
def diffF : List Int → List Int → Nat
  | _, [] => 0
  | s, x :: l => (if x ∈ s then 0 else 1) + diffF (s ++ [x]) l
theorem bel_diff {f : Nat} : ∀ (t b s : List Int), (∀ x ∈ b, x ∈ s) → diffF s t ≤ bel f t b
  | [], _, _, _ => Nat.zero_le _
  | p :: t, b, s, hb => by
    have ih := bel_diff (f := f) t (belS f b p t).1 (s ++ [p]) (by
      intro x hx
      unfold belS at hx
      split at hx
      · exact List.mem_append_left _ (hb x hx)
      · rcases List.mem_append.1 hx with hx | hx
        · refine List.mem_append_left _ (hb x ?_)
          split at hx
          · exact List.mem_of_mem_eraseIdx hx
          · exact hx
        · exact List.mem_append_right _ hx)
    simp only [diffF, bel]
    by_cases hp : p ∈ b
    · rw [if_pos (hb p hp)]; omega
    · have : (belS f b p t).2 = true := by simp [belS, hp]
      rw [this, if_pos rfl]
      split <;> omega
theorem run_diff {f : Nat} (hf : 0 < f) : ∀ (t m s : List Int), m.Nodup → (∀ x, x ∈ m ↔ x ∈ s) → diffF s t + m.length ≤ f → (runS f t (lastN f m) 0).2 = diffF s t
  | [], _, _, _, _, _ => rfl
  | p :: t, m, s, hn, hs, hl => by
    simp only [diffF] at hl ⊢
    have e : lastN f m = m := by rw [lastN, show m.length - f = 0 by omega]; rfl
    have hfa := use_fault f (lastN f m) p
    have hst := lastN_step hf hn p
    simp only [runS]
    rw [hst, (run_add t _ _).1]
    have hsl : (stackS m p).length = m.length + (if p ∈ s then 0 else 1) := by
      rw [stackS, List.length_append]
      by_cases hp : p ∈ m
      · rw [List.length_erase_of_mem hp, if_pos ((hs p).1 hp)]
        have := List.length_pos_of_mem hp
        simp only [List.length_cons, List.length_nil]; omega
      · rw [List.erase_of_not_mem hp, if_neg (fun h => hp ((hs p).2 h))]
        simp only [List.length_cons, List.length_nil]
    rw [run_diff hf t (stackS m p) (s ++ [p]) (stack_nodup hn) (by
      intro x
      rw [stackS, List.mem_append, List.mem_append, ← hs x]
      by_cases e : x = p
      · subst e; simp
      · rw [List.mem_erase_of_ne e]) (by omega)]
    rw [hfa, e]
    by_cases hp : p ∈ m
    · simp [hp, (hs p).1 hp]
    · have hps : p ∉ s := fun h => hp ((hs p).2 h)
      simp [hp, hps]

/-- what the pages that only the first policy holds weigh; the stack, that needed last ahead -/
def pot : Nat → List Int → List Int → Nat
  | _, [], _ => 0
  | n, x :: M, o => (if x ∈ o then 0 else n) + pot (n - 1) M o
theorem pot_sub : ∀ (M : List Int) (n : Nat) {o o' : List Int}, (∀ x ∈ o, x ∈ o') → pot n M o' ≤ pot n M o
  | [], _, _, _, _ => Nat.le_refl _
  | x :: M, n, o, o', h => by
    have := pot_sub M (n - 1) h
    simp only [pot]
    by_cases hx : x ∈ o
    · rw [if_pos hx, if_pos (h x hx)]; omega
    · rw [if_neg hx]
      split <;> omega
theorem pot_less : ∀ (M : List Int) (n : Nat) {o o' : List Int} (y : Int), M.Nodup → (∀ x ∈ o, x ≠ y → x ∈ o') → pot n M o' ≤ pot n M o + n
  | [], _, _, _, _, _, _ => Nat.zero_le _
  | x :: M, n, o, o', y, hn, h => by
    rw [List.nodup_cons] at hn
    simp only [pot]
    by_cases e : x = y
    · subst e
      have : pot (n - 1) M o' ≤ pot (n - 1) M o := by
        have hc : ∀ (M' : List Int) (k : Nat), x ∉ M' → pot k M' o' ≤ pot k M' o := by
          intro M'
          induction M' with
          | nil => intro k _; exact Nat.le_refl _
          | cons z M' ih =>
            intro k hz
            have := ih (k - 1) (fun h => hz (List.mem_cons_of_mem _ h))
            simp only [pot]
            by_cases hx : z ∈ o
            · rw [if_pos hx, if_pos (h z hx (fun e => hz (e ▸ List.mem_cons_self ..)))]; omega
            · rw [if_neg hx]; split <;> omega
        exact hc M _ hn.1
      split <;> split <;> omega
    · have := pot_less M (n - 1) y hn.2 h
      by_cases hx : x ∈ o
      · rw [if_pos hx, if_pos (h x hx e)]; omega
      · rw [if_neg hx]
        split <;> omega
theorem pot_hit : ∀ (M : List Int) (n : Nat) (o : List Int) (p : Int), pot (n - 1) (M.erase p) o ≤ pot n M o
  | [], _, _, _ => Nat.le_refl _
  | x :: M, n, o, p => by
    by_cases e : x = p
    · subst e
      rw [List.erase_cons_head]; simp only [pot]; omega
    · rw [List.erase_cons_tail (by simpa using e)]
      have := pot_hit M (n - 1) o p
      simp only [pot]
      split <;> omega
theorem pot_miss : ∀ (M : List Int) (n : Nat) (o : List Int) (p : Int), p ∉ M.take n → (∃ y, y ∈ M.take n ∧ y ∉ o) → pot (n - 1) (M.erase p) o + 1 ≤ pot n M o
  | [], _, _, _, _, ⟨y, hy, _⟩ => by simp at hy
  | x :: M, 0, o, p, _, ⟨y, hy, _⟩ => by simp at hy
  | x :: M, n + 1, o, p, hp, ⟨y, hy, hyo⟩ => by
    rw [List.take_succ_cons] at hp hy
    have e : x ≠ p := fun e => hp (e ▸ List.mem_cons_self ..)
    rw [List.erase_cons_tail (by simpa using e)]
    simp only [pot, Nat.add_sub_cancel]
    by_cases hx : x ∈ o
    · rw [if_pos hx, if_pos hx]
      rcases List.mem_cons.1 hy with rfl | hy
      · exact absurd hx hyo
      · have := pot_miss M n o p (fun h => hp (List.mem_cons_of_mem _ h)) ⟨y, hy, hyo⟩
        omega
    · rw [if_neg hx, if_neg hx]
      have := pot_hit M n o p
      omega
theorem erase_rev {m : List Int} (hn : m.Nodup) (p : Int) : (m.erase p).reverse = m.reverse.erase p := by
  rw [List.Nodup.erase_eq_filter hn, List.Nodup.erase_eq_filter (((List.reverse_perm m).nodup_iff.2 hn)), List.filter_reverse]
theorem mem_last {f : Nat} {m : List Int} {x : Int} : x ∈ lastN f m ↔ x ∈ m.reverse.take f := by
  rw [List.take_reverse, List.mem_reverse]; rfl
theorem lru_bel {f : Nat} (hf : 0 < f) : ∀ (t m b : List Int), m.Nodup → b.Nodup → b.length ≤ f → (∀ x ∈ b, x ∈ m) → (runS f t (lastN f m) 0).2 ≤ f * bel f t b + pot f m.reverse b
  | [], _, _, _, _, _, _ => Nat.zero_le _
  | p :: t, m, b, hn, hb, hbl, hbm => by
    have hbn := bel_nodup (f := f) (p := p) (t := t) hb
    have hbl' := bel_len hf hbl p t
    have hpb' : p ∈ (belS f b p t).1 := by
      unfold belS
      split
      · assumption
      · simp
    have hbm' : ∀ x ∈ (belS f b p t).1, x ∈ stackS m p := by
      intro x hx
      have key : x ∈ m → x ∈ stackS m p := by
        intro h
        by_cases e : x = p
        · subst e; simp [stackS]
        · exact List.mem_append_left _ ((List.mem_erase_of_ne e).2 h)
      unfold belS at hx
      split at hx
      · exact key (hbm x hx)
      · rcases List.mem_append.1 hx with hx | hx
        · refine key (hbm x ?_)
          split at hx
          · exact List.mem_of_mem_eraseIdx hx
          · exact hx
        · exact List.mem_append_right _ hx
    have ih := lru_bel hf t (stackS m p) (belS f b p t).1 (stack_nodup hn) hbn hbl' hbm'
    have hrev : (stackS m p).reverse = p :: m.reverse.erase p := by
      rw [stackS, List.reverse_append, erase_rev hn]; rfl
    rw [hrev] at ih
    simp only [pot, if_pos hpb', Nat.zero_add] at ih
    simp only [runS]
    rw [lastN_step hf hn, (run_add t _ _).1, use_fault]
    have hMn : m.reverse.Nodup := ((List.reverse_perm m).nodup_iff.2 hn)
    have hkey : (if (!decide (p ∈ lastN f m)) = true then 0 + 1 else 0) + pot (f - 1) (m.reverse.erase p) (belS f b p t).1 ≤ f * (if (belS f b p t).2 = true then 1 else 0) + pot f m.reverse b := by
      have hA : pot f m.reverse (belS f b p t).1 ≤ pot f m.reverse b + f * (if (belS f b p t).2 = true then 1 else 0) := by
        by_cases hpb : p ∈ b
        · have e1 : (belS f b p t).1 = b := by simp [belS, hpb]
          rw [e1]; omega
        · have e2 : (belS f b p t).2 = true := by simp [belS, hpb]
          rw [e2, if_pos rfl, Nat.mul_one]
          refine pot_less _ _ (b.getD (worst t b) 0) hMn ?_
          intro x hx hne
          simp only [belS, if_neg hpb]
          refine List.mem_append_left _ ?_
          split
          · obtain ⟨j, hj, rfl⟩ := List.mem_iff_getElem.1 hx
            rw [List.mem_eraseIdx_iff_getElem]
            refine ⟨j, hj, fun e => hne ?_, rfl⟩
            subst e
            rw [List.getD_eq_getElem?_getD, List.getElem?_eq_getElem hj, Option.getD_some]
          · exact hx
      by_cases hp : p ∈ lastN f m
      · have := pot_hit m.reverse f (belS f b p t).1 p
        simp only [hp, decide_true, Bool.not_true, Bool.false_eq_true, if_false]; omega
      · simp only [hp, decide_false, Bool.not_false, if_true]
        have hp' : p ∉ m.reverse.take f := fun h => hp (mem_last.2 h)
        rcases Nat.lt_or_ge m.length f with hml | hml
        · have e : m.reverse.take f = m.reverse := List.take_of_length_le (by simp; omega)
          rw [e, List.mem_reverse] at hp'
          have hpb : p ∉ b := fun h => hp' (hbm p h)
          have e2 : (belS f b p t).2 = true := by simp [belS, hpb]
          have hbl2 := len_sub hb hbm
          have h1 := pot_hit m.reverse f (belS f b p t).1 p
          have h2 : pot f m.reverse (belS f b p t).1 ≤ pot f m.reverse b := pot_sub _ _ (by
            intro x hx
            simp only [belS, if_neg hpb, if_neg (show ¬ b.length = f by omega)]
            exact List.mem_append_left _ hx)
          rw [e2, if_pos rfl, Nat.mul_one]; omega
        · have hex : ∃ y, y ∈ m.reverse.take f ∧ y ∉ (belS f b p t).1 := by
            rcases Classical.em (∃ y, y ∈ m.reverse.take f ∧ y ∉ (belS f b p t).1) with h | h
            · exact h
            · exfalso
              have hall : ∀ y ∈ p :: m.reverse.take f, y ∈ (belS f b p t).1 := by
                intro y hy
                rcases List.mem_cons.1 hy with rfl | hy
                · exact hpb'
                · exact Classical.byContradiction fun hc => h ⟨y, hy, hc⟩
              have := len_sub (List.nodup_cons.2 ⟨hp', hMn.sublist (List.take_sublist _ _)⟩) hall
              simp only [List.length_cons, List.length_take, List.length_reverse] at this
              omega
          have := pot_miss m.reverse f (belS f b p t).1 p hp' hex
          omega
    simp only [bel, Nat.mul_add]
    omega
theorem lru_bound {f : Nat} (hf : 0 < f) (t : List Int) : (runS f t [] 0).2 ≤ f * bel f t [] := by
  have := lru_bel hf t [] [] (by simp) (by simp) (by simp) (by simp)
  simpa [lastN, pot] using this
theorem lru_diff {f : Nat} (hf : 0 < f) (t : List Int) (h : diffF [] t ≤ f) : (runS f t [] 0).2 = diffF [] t := by
  have := run_diff hf t [] [] (by simp) (by simp) (by simpa using h)
  simpa [lastN] using this
/-- the least number of faults is at most that of the first policy -/
theorem bel_run {f : Nat} (hf : 0 < f) (t : List Int) : bel f t [] ≤ (runS f t [] 0).2 := bel_pol hf (run_pol hf t [] (by simp))
theorem bel_diff0 {f : Nat} (t : List Int) : diffF [] t ≤ bel f t [] := bel_diff t [] [] (by simp)
end Go.Dv

/- Plain laws about pages in frames: all ways tried, and the rule (own work). -/
namespace Go.Dv
set_option linter.unusedVariables false
set_option linter.unusedSimpArgs false

/-- the least number, all pages tried; N is a bound, M the pages that are tried from a place on -/
def minF (N : Nat) (g : Nat → Nat) (is : List Nat) : Nat := is.foldl (fun best i => min best (1 + g i)) N
def fewS (N f : Nat) : List Int → List Int → Nat
  | [], _ => 0
  | p :: t, h => if p ∈ h then fewS N f t h else if h.length < f then 1 + fewS N f t (risS (h ++ [p]) []) else
      minF (N + 1) (fun i => fewS N f t (risS (h.take i ++ h.drop (i + 1) ++ [p]) [])) (List.range h.length)
theorem minF_le (g : Nat → Nat) : ∀ (is : List Nat) (N : Nat), minF N g is ≤ N ∧ ∀ i ∈ is, minF N g is ≤ 1 + g i
  | [], N => ⟨Nat.le_refl _, fun i hi => by cases hi⟩
  | i :: is, N => by
    have ih := minF_le g is (min N (1 + g i))
    refine ⟨Nat.le_trans ih.1 (Nat.min_le_left _ _), fun j hj => ?_⟩
    rcases List.mem_cons.1 hj with rfl | hj
    · exact Nat.le_trans ih.1 (Nat.min_le_right _ _)
    · exact ih.2 j hj
theorem minF_at (g : Nat → Nat) : ∀ (is : List Nat) (N : Nat), minF N g is = N ∨ ∃ i ∈ is, minF N g is = 1 + g i
  | [], N => .inl rfl
  | i :: is, N => by
    rcases minF_at g is (min N (1 + g i)) with h | ⟨j, hj, h⟩
    · show minF (min N (1 + g i)) g is = N ∨ ∃ j ∈ i :: is, minF (min N (1 + g i)) g is = 1 + g j
      rw [h]
      rcases Nat.le_total N (1 + g i) with hh | hh
      · exact .inl (Nat.min_eq_left hh)
      · exact .inr ⟨i, List.mem_cons_self .., Nat.min_eq_right hh⟩
    · exact .inr ⟨j, List.mem_cons_of_mem _ hj, h⟩
theorem ris_perm (l : List Int) : (risS l []).Perm l := by
  have := (risS_spec l [] List.Pairwise.nil).2
  rwa [List.append_nil] at this
theorem cut_eq (h : List Int) (i : Nat) : h.take i ++ h.drop (i + 1) = h.eraseIdx i := (List.eraseIdx_eq_take_drop_succ ..).symm
theorem perm_at {l : List Int} {i : Nat} (hi : i < l.length) : l.Perm (l[i] :: l.eraseIdx i) := by
  have e : l = l.take i ++ l[i] :: l.drop (i + 1) := by rw [← List.drop_eq_getElem_cons hi, List.take_append_drop]
  rw [List.eraseIdx_eq_take_drop_succ]
  exact (List.Perm.of_eq e).trans List.perm_middle
theorem few_le {N f : Nat} (hf : 0 < f) : ∀ (t h : List Int), h.length ≤ f → fewS N f t h ≤ t.length
  | [], _, _ => Nat.le_refl _
  | p :: t, h, hl => by
    simp only [fewS, List.length_cons]
    split
    · exact Nat.le_succ_of_le (few_le hf t h hl)
    · split
      · have := few_le (N := N) hf t (risS (h ++ [p]) []) (by rw [(ris_perm _).length_eq]; simp; omega)
        omega
      · have h0 : 0 < h.length := by omega
        have := (minF_le (fun i => fewS N f t (risS (h.take i ++ h.drop (i + 1) ++ [p]) [])) (List.range h.length) (N + 1)).2 0 (by simpa using h0)
        have h2 := few_le (N := N) hf t (risS (h.take 0 ++ h.drop (0 + 1) ++ [p]) []) (by rw [(ris_perm _).length_eq]; simp; omega)
        omega
theorem few_pol {N f : Nat} (hf : 0 < f) : ∀ (t h : List Int), h.length ≤ f → t.length ≤ N → Pol f t h (fewS N f t h)
  | [], h, _, _ => .nil h
  | p :: t, h, hl, ht => by
    simp only [List.length_cons] at ht
    by_cases hp : p ∈ h
    · simp only [fewS, if_pos hp]
      exact .hit hp (List.Perm.refl _) (few_pol hf t h hl (by omega))
    · by_cases hh : h.length < f
      · simp only [fewS, if_neg hp, if_pos hh]
        have hlen : (risS (h ++ [p]) []).length ≤ f := by rw [(ris_perm _).length_eq]; simp; omega
        rw [Nat.add_comm]
        exact .miss hp (List.Sublist.refl _) ((ris_perm _).trans (List.perm_append_singleton p _)) hlen (few_pol hf t _ hlen (by omega))
      · have hkey : ∀ i, i < h.length → (risS (h.take i ++ h.drop (i + 1) ++ [p]) []).length ≤ f := by
          intro i hi
          rw [(ris_perm _).length_eq, cut_eq]
          simp only [List.length_append, List.length_eraseIdx, if_pos hi, List.length_cons, List.length_nil]; omega
        have e : fewS N f (p :: t) h = minF (N + 1) (fun i => fewS N f t (risS (h.take i ++ h.drop (i + 1) ++ [p]) [])) (List.range h.length) := by
          simp only [fewS, if_neg hp, if_neg hh]
        have hle : fewS N f (p :: t) h ≤ N := Nat.le_trans (few_le hf (p :: t) h hl) (by simpa using ht)
        rcases minF_at (fun i => fewS N f t (risS (h.take i ++ h.drop (i + 1) ++ [p]) [])) (List.range h.length) (N + 1) with h1 | ⟨i, hi, h1⟩
        · omega
        · rw [e, h1, Nat.add_comm]
          have hi' : i < h.length := by simpa using hi
          exact .miss hp (r := h.take i ++ h.drop (i + 1)) (by rw [cut_eq]; exact List.eraseIdx_sublist _ _) ((ris_perm _).trans (List.perm_append_singleton p _)) (hkey i hi') (few_pol hf t _ (hkey i hi') (by omega))
theorem few_bel {N f : Nat} (hf : 0 < f) : ∀ (t h b : List Int), h.Perm b → b.length ≤ f → fewS N f t h ≤ bel f t b
  | [], _, _, _, _ => Nat.zero_le _
  | p :: t, h, b, hb, hl => by
    have hlen := hb.length_eq
    by_cases hp : p ∈ h
    · have hpb := hb.mem_iff.1 hp
      simp only [fewS, bel, belS, if_pos hp, if_pos hpb, Bool.false_eq_true, if_false]
      have := few_bel (N := N) hf t h b hb hl
      omega
    · have hpb : p ∉ b := fun h' => hp (hb.mem_iff.2 h')
      by_cases hh : h.length < f
      · simp only [fewS, bel, belS, if_neg hp, if_neg hpb, if_pos hh, if_true, if_neg (show ¬ b.length = f by omega)]
        have := few_bel (N := N) hf t (risS (h ++ [p]) []) (b ++ [p]) ((ris_perm _).trans (hb.append_right _)) (by simp; omega)
        omega
      · simp only [fewS, bel, belS, if_neg hp, if_neg hpb, if_neg hh, if_true, if_pos (show b.length = f by omega)]
        have hne : b ≠ [] := by intro e; subst e; rw [List.length_nil] at hlen; omega
        have hw := (worst_spec t b hne).1
        obtain ⟨i, hi, hiw⟩ := List.mem_iff_getElem.1 (hb.mem_iff.2 (List.getElem_mem hw))
        have hpm : (h.eraseIdx i).Perm (b.eraseIdx (worst t b)) := by
          have e1 : h.Perm (h[i] :: h.eraseIdx i) := perm_at hi
          have e2 : b.Perm (b[worst t b] :: b.eraseIdx (worst t b)) := perm_at hw
          have := e1.symm.trans (hb.trans e2)
          rw [hiw] at this
          exact this.cons_inv
        have hm := (minF_le (fun i => fewS N f t (risS (h.take i ++ h.drop (i + 1) ++ [p]) [])) (List.range h.length) (N + 1)).2 i (by simpa using hi)
        have := few_bel (N := N) hf t (risS (h.take i ++ h.drop (i + 1) ++ [p]) []) (b.eraseIdx (worst t b) ++ [p]) (by
          rw [cut_eq]; exact (ris_perm _).trans (hpm.append_right _)) (by simp only [List.length_append, List.length_eraseIdx, if_pos hw, List.length_cons, List.length_nil]; omega)
        omega
theorem few_eq {N f : Nat} (hf : 0 < f) (t : List Int) (h : t.length ≤ N) : fewS N f t [] = bel f t [] := by
  have h1 := few_bel (N := N) hf t [] [] (List.Perm.refl _) (by simp)
  have h2 := bel_pol hf (few_pol hf t [] (by simp) h)
  omega
end Go.Dv
