/- Texts of the evaluator and of the laws' walks, put together in the order of their build: T60, N11, T61, T62 (own work). -/
import Derived.Test.YtepcdjpenahnpaaM10

/- The fifth layer of known calls: race.Find as it was reckoned, race.Witness as a call that only reads; the plain law of RacePairs (printed by t60.py, own work). -/
namespace Go.Dv
open Go.Proofs
set_option maxRecDepth 100000
set_option linter.unusedSimpArgs false
set_option linter.unusedVariables false
attribute [local congr] bind_congr_first

/-- Calls as they were reckoned with fewer known calls. -/
noncomputable def evOrc (P : Program) (C : Cfg P) (fs : List FuncId) : CallF := fun f args H => if f ∈ fs then Ev P C f args H else none
theorem evOrc_ok {P : Program} {C : Cfg P} (fs : List FuncId) (w0 : World) (Pr : Nat → Prop) : CallOk P w0 Pr (evOrc P C fs) := by
  intro f args H v H' h
  unfold evOrc at h
  split at h
  · exact Ev_sound (C := C) f args H v H' h
  · cases h

noncomputable def C5 : Cfg Try.prog := known (orElse C4.orc (orElse (readOrc Try.prog C3 [22]) (evOrc Try.prog C4 [16]))) (fun w0 Pr => orElse_ok (C4.orcOk w0 Pr) (orElse_ok (readOrc_ok _ w0 Pr) (evOrc_ok _ w0 Pr)))
theorem orc5 {f : FuncId} (h : f ∉ [15, 44, 47, 25, 64, 65, 24, 49, 52, 51, 45, 48, 18, 17, 22, 16]) (args : List AV) (H : AH) : C5.orc f args H = none := by
  show orElse _ (orElse _ _) f args H = none
  simp only [orElse]
  rw [orc4 (fun hm => h (by simp only [List.mem_cons, List.not_mem_nil, or_false] at hm ⊢; rcases hm with h | h | h | h | h | h | h | h | h | h | h | h | h | h <;> simp [h])) args H, readOrc_none (fun hm => h (by simp at hm ⊢; simp [hm]))]
  have : evOrc Try.prog C4 [16] f args H = none := by
    unfold evOrc
    rw [if_neg (fun hm => h (by simp at hm ⊢; simp [hm]))]
  rw [this]
  rfl
theorem k5_old {f : FuncId} {args : List AV} {H : AH} {r : AV × AH} (h : C4.orc f args H = some r) : Ev Try.prog C5 f args H = some r := Ev_orc (by
  show orElse _ _ f args H = _
  simp only [orElse, h]
  rfl)
theorem k5_find {args : List AV} {H : AH} {r : AV × AH} (h : Ev Try.prog C4 16 args H = some r) : Ev Try.prog C5 16 args H = some r := Ev_orc (by
  show orElse _ (orElse _ _) 16 args H = _
  simp only [orElse]
  rw [orc4 (by decide), readOrc_none (by decide)]
  unfold evOrc
  rw [if_pos (by decide), h]
  rfl)
theorem k5_wit {args : List AV} {H H' : AH} {v : AV} (h : Ev Try.prog C3 22 args (ro H) = some (v, H')) (hv : (toV v).isSome = true) : Ev Try.prog C5 22 args H = some (v, H) := Ev_orc (by
  show orElse _ (orElse _ _) 22 args H = _
  simp only [orElse]
  rw [orc4 (by decide), readOrc_eq (by decide) h hv]
  rfl)
theorem k5_same (H : AH) (sp bl ce th ki sp' bl' ce' th' ki' : Int) : Ev Try.prog C5 25 [acc sp bl ce th ki, acc sp' bl' ce' th' ki'] H = some (.bool (sameB sp bl ce sp' bl' ce'), H) := Ev_orc rfl
theorem k5_race (H : AH) (sp bl ce th ki ph sp' bl' ce' th' ki' ph' : Int) : Ev Try.prog C5 24 [evt sp bl ce th ki ph, evt sp' bl' ce' th' ki' ph'] H = some (.bool (raceB sp bl ce th ki ph sp' bl' ce' th' ki' ph'), H) := Ev_orc rfl
theorem k5_awake (H : AH) : Ev Try.prog C5 15 [] H = some (.bool true, H) := Ev_orc rfl
theorem k5_ref_valid {v : AV} {H : AH} {l : List E6} (hv : Evs H v l) (hl : l.length < 2 ^ 62) : Ev Try.prog C5 17 [v] H = some (.bool (decide ((l.length : Int) ≤ 4000) && !(l.any E6.bad)), H) := by
  obtain ⟨L, h⟩ := ref_valid_ev hv.ro hl
  refine k5_old ?_
  show orElse C3.orc (readOrc Try.prog C3 [45, 48, 18, 17]) 17 [v] H = _
  simp only [orElse]
  rw [orc3 (by decide), readOrc_eq (by decide) h rfl]
  rfl
theorem EvS.ro {H : AH} {v : AV} {l : List E6} (h : EvS H v l) : EvS (ro H) v l := by
  rcases h with h | ⟨i, k, cap, ex, hv, hc, hr⟩
  · exact .inl h
  · exact .inr ⟨i, k, cap, ex, hv, hc, fun j e he => ro_rd (hr j e he)⟩
theorem k5_witness {v : AV} {H : AH} {l : List E6} {a b : E6} {i k : Nat} (hv : EvS H v l) (hl : l.length < 2 ^ 62) (hval : (!(decide ((l.length : Int) > 4000)) && !(l.any E6.bad)) = true) (hf : firstPair (fun x y => x.wit y a b) l l 0 = some (i, k)) :
    Ev Try.prog C5 22 [v, .agg (rcells a b)] H = some (.tuple [I i, I k, .bool true, I 0], H) := by
  obtain ⟨L, h⟩ := wit_ev (a := a) (b := b) hv.ro hl
  rw [hval, hf] at h
  exact k5_wit h rfl

/-! the plain law -/
theorem firstPair_spec (p : E6 → E6 → Bool) (l : List E6) : ∀ (r : List E6) (n : Nat), l.drop n = r →
    (∀ i k, firstPair p l r n = some (i, k) → ∃ x y, i < k ∧ l[i]? = some x ∧ l[k]? = some y ∧ p x y = true) ∧
    (firstPair p l r n = none → ∀ k y, n ≤ k → l[k]? = some y → ∀ x ∈ l.take k, p x y = false)
  | [], n, hr => by
    refine ⟨fun i k h => by simp [firstPair] at h, fun _ k y hn hy => ?_⟩
    have := lt_of_get hy
    have h0 : l.length ≤ n := List.drop_eq_nil_iff.1 hr
    omega
  | y0 :: r, n, hr => by
    have hn : n < l.length := by
      rcases Nat.lt_or_ge n l.length with h | h
      · exact h
      · rw [List.drop_eq_nil_of_le h] at hr; cases hr
    have hdl := List.drop_eq_getElem_cons hn
    rw [hr] at hdl
    have hy0 : l[n]? = some y0 := by rw [List.getElem?_eq_getElem hn]; congr 1; exact (List.cons.inj hdl).1.symm
    have hr' : l.drop (n + 1) = r := (List.cons.inj hdl).2.symm
    obtain ⟨ih1, ih2⟩ := firstPair_spec p l r (n + 1) hr'
    obtain ⟨f1, f2⟩ := firstAt_find (fun x => p x y0) (l.take n) 0
    simp only [firstPair]
    cases hf : firstAt (fun x => p x y0) (l.take n) 0 with
    | some i =>
      refine ⟨fun i' k h => ?_, fun h => by cases h⟩
      simp only [Option.some.injEq, Prod.mk.injEq] at h
      obtain ⟨rfl, rfl⟩ := h
      obtain ⟨x, _, hx, hp⟩ := firstAt_get _ _ _ _ hf
      rw [Nat.sub_zero, List.getElem?_take] at hx
      split at hx
      · rename_i hlt
        exact ⟨x, y0, hlt, hx, hy0, hp⟩
      · cases hx
    | none =>
      refine ⟨ih1, fun h k y hk hy x hx => ?_⟩
      rcases Nat.lt_or_ge n k with hlt | hge
      · exact ih2 h k y (by omega) hy x hx
      · obtain rfl : k = n := by omega
        rw [hy0] at hy
        cases hy
        have := List.find?_eq_none.1 (f1.1 hf) x hx
        simpa using this

theorem find_mem (l : List E6) : ∀ q ∈ findS l, ∃ i k : Nat, i < k ∧ l[i]? = some q.1 ∧ l[k]? = some q.2 ∧ q.1.race q.2 = true := by
  refine snoc_ind (P := fun l => ∀ q ∈ findS l, ∃ i k : Nat, i < k ∧ l[i]? = some q.1 ∧ l[k]? = some q.2 ∧ q.1.race q.2 = true) (by simp [findS, absF]) (fun p x ih q hq => ?_) l
  rw [find_snoc, refStep_eq] at hq
  have old : q ∈ findS p → ∃ i k : Nat, i < k ∧ (p ++ [x])[i]? = some q.1 ∧ (p ++ [x])[k]? = some q.2 ∧ q.1.race q.2 = true := fun h => by
    obtain ⟨i, k, h1, h2, h3, h4⟩ := ih q h
    exact ⟨i, k, h1, by rw [List.getElem?_append_left (lt_of_get h2)]; exact h2, by rw [List.getElem?_append_left (lt_of_get h3)]; exact h3, h4⟩
  split at hq
  · exact old hq
  · rcases List.mem_append.1 hq with h | h
    · exact old h
    · cases hf : p.find? fun e => e.race x with
      | none => rw [hf] at h; simp at h
      | some y =>
        rw [hf] at h
        simp at h
        subst h
        have hr : y.race x = true := by simpa using List.find?_some hf
        obtain ⟨i, hi⟩ := List.mem_iff_getElem?.1 (List.mem_of_find?_eq_some hf)
        exact ⟨i, p.length, lt_of_get hi, by rw [List.getElem?_append_left (lt_of_get hi)]; exact hi, by simp, hr⟩

theorem race_acc {x y a b : E6} (hx : x.accEq a = true) (hy : y.accEq b = true) (hc : a.spotEq b = true) (hk : x.clash y = true) : x.race y = true := by
  have := wit_same x y a b
  simp only [E6.wit, E6.wit', hx, hy, hc, hk, Bool.and_self, Bool.true_and] at this
  exact this.symm

/-- Every race that is found has a witness. -/
theorem pairs_wit (l : List E6) {q : E6 × E6} (hq : q ∈ findS l) : ∃ i k x y, firstPair (fun x y => x.wit y q.1 q.2) l l 0 = some (i, k) ∧ i < k ∧ l[i]? = some x ∧ l[k]? = some y ∧ x.accEq q.1 = true ∧ y.accEq q.2 = true ∧ x.race y = true := by
  obtain ⟨i0, k0, h1, h2, h3, h4⟩ := find_mem l q hq
  have hw : q.1.wit q.2 q.1 q.2 = true := by
    rw [wit_same]
    simp only [E6.wit', accEq_self, h4, Bool.and_self]
  obtain ⟨s1, s2⟩ := firstPair_spec (fun x y => x.wit y q.1 q.2) l l 0 (by simp)
  cases hf : firstPair (fun x y => x.wit y q.1 q.2) l l 0 with
  | none =>
    have := s2 hf k0 q.2 (by omega) h3 q.1 (by
      refine List.mem_iff_getElem?.2 ⟨i0, ?_⟩
      rw [List.getElem?_take, if_pos h1]; exact h2)
    rw [this] at hw
    cases hw
  | some p =>
    obtain ⟨i, k⟩ := p
    obtain ⟨x, y, hik, hx, hy, hp⟩ := s1 i k hf
    rw [wit_same] at hp
    simp only [E6.wit', Bool.and_eq_true] at hp
    exact ⟨i, k, x, y, rfl, hik, hx, hy, hp.1, hp.2.1, hp.2.2⟩

/-- Each pair that is a race is of a cell with a race. -/
theorem pairs_met (l : List E6) {i k : Nat} {x y : E6} (hik : i < k) (hx : l[i]? = some x) (hy : l[k]? = some y) (hr : x.race y = true) : (findS l).any (fun q => q.2.same y) = true := by
  have hne : ¬ NP l y.spot := by
    intro h
    have h1 := lt_of_get hx
    have h2 := lt_of_get hy
    have := List.pairwise_iff_getElem.1 h i k h1 h2 hik
    rw [List.getElem?_eq_getElem h1] at hx
    rw [List.getElem?_eq_getElem h2] at hy
    rw [Option.some.inj hx, Option.some.inj hy] at this
    exact this ⟨hr, rfl⟩
  have hm := ((spots_ok l).2 y.spot).2 hne
  obtain ⟨q, hq, e⟩ := List.mem_map.1 hm
  exact List.any_eq_true.2 ⟨q, hq, by rw [same_spot]; simpa using e⟩

end Go.Dv

/- Names for the bodies and loops of functions of the translation, by their place in it (written by gen.py, own work). -/
namespace Go.Dv
open Go.Proofs
set_option maxRecDepth 100000
noncomputable def b7_0 : Code := atPath [true, true, true, true, false, true, false, false] (Try.f7.body.getD .skip)
noncomputable def l7_0 : Code := Code.loop b7_0
theorem el7_0 (s : St) : EvC Try.prog C5 l7_0 s = (EvC Try.prog C5 b7_0 s).bind fun r => match r with | (.normal, s') => EvC Try.prog C5 l7_0 s' | r => some r := EvC_loop _ _
noncomputable def b7_1 : Code := atPath [true, true, true, true, true, false, true, false, false, true, false, false, true, false, false, true, false, false, true, true, false, true, false, false] (Try.f7.body.getD .skip)
noncomputable def l7_1 : Code := Code.loop b7_1
theorem el7_1 (s : St) : EvC Try.prog C5 l7_1 s = (EvC Try.prog C5 b7_1 s).bind fun r => match r with | (.normal, s') => EvC Try.prog C5 l7_1 s' | r => some r := EvC_loop _ _
noncomputable def b7_2 : Code := atPath [true, true, true, true, true, false, true, false, false, true, false, false, true, false, false] (Try.f7.body.getD .skip)
noncomputable def l7_2 : Code := Code.loop b7_2
theorem el7_2 (s : St) : EvC Try.prog C5 l7_2 s = (EvC Try.prog C5 b7_2 s).bind fun r => match r with | (.normal, s') => EvC Try.prog C5 l7_2 s' | r => some r := EvC_loop _ _
noncomputable def b7_3 : Code := atPath [true, true, true, true, true, false, true, false, false] (Try.f7.body.getD .skip)
noncomputable def l7_3 : Code := Code.loop b7_3
theorem el7_3 (s : St) : EvC Try.prog C5 l7_3 s = (EvC Try.prog C5 b7_3 s).bind fun r => match r with | (.normal, s') => EvC Try.prog C5 l7_3 s' | r => some r := EvC_loop _ _
noncomputable def c7 : Code := Try.f7.body.getD .skip
noncomputable def d7_10 : Code := atPath [true, true, true, true, false, true, false, false, true, false, false, true, false] (Try.f7.body.getD .skip)
theorem ed7_10 (tm : List AV) (H : AH) : EvC Try.prog C5 d7_10 (tm, H) = (runPlan Try.prog C5 (Ev Try.prog C5) H.length (opsAt d7_10) (.take 0 (.take 1 (.take 2 (.take 3 (.take 4 (.take 5 (.take 6 (.take 7 (.take 8 (.take 9 (.take 10 (.take 11 (.take 12 (.take 13 (.take 14 (.take 15 (.take 16 (.take 17 (.all [(18, (.take 19 (.take 20 (.take 21 (.take 22 (.take 23 (.take 24 (.take 25 (.take 27 (.take 28 (.take 29 (.take 30 (graft (.all [(26, (.all [(31, (.take 32 (.take 33 (.take 34 (.take 35 (.take 36 (.take 37 (.take 38 (.take 40 (.take 41 (.take 42 (.take 43 .done))))))))))))])), (31, (.all [(26, (.take 32 (.take 33 (.take 34 (.take 35 (.take 36 (.take 37 (.take 38 (.take 40 (.take 41 (.take 42 (.take 43 .done))))))))))))]))]) (graft (.all [(39, (.all [(44, (.take 45 (.take 46 (.take 47 (.take 48 (.take 49 (.take 50 (.take 52 (.take 53 (.take 54 .done))))))))))])), (44, (.all [(39, (.take 45 (.take 46 (.take 47 (.take 48 (.take 49 (.take 50 (.take 52 (.take 53 (.take 54 .done))))))))))]))]) (graft (.all [(51, (.all [(55, .done)])), (55, (.all [(51, .done)]))]) (.all [(56, (.take 57 (.take 58 .done)))]))))))))))))))))]))))))))))))))))))) (tm, H)).bind fun s' => some (.normal, s') := ev_draw (by kernel_rfl) (by kernel_rfl) tm H
noncomputable def d7_18 : Code := atPath [true, true, true, true, true, false, true, false, false, true, false, false, true, false, false, true, false, false, false, false] (Try.f7.body.getD .skip)
theorem ed7_18 (tm : List AV) (H : AH) : EvC Try.prog C5 d7_18 (tm, H) = (runPlan Try.prog C5 (Ev Try.prog C5) H.length (opsAt d7_18) (.take 0 (.take 1 (.take 2 (.take 4 (.take 5 (.take 6 (graft (.all [(3, (.all [(7, .done)])), (7, (.all [(3, .done)]))]) (.all [(8, (.take 9 .done))])))))))) (tm, H)).bind fun s' => some (.normal, s') := ev_draw (by kernel_rfl) (by kernel_rfl) tm H
noncomputable def d7_23 : Code := atPath [true, true, true, true, true, false, true, false, false, true, false, false, true, false, false, true, false, false, true, true, false, true, false, false, true, false, false] (Try.f7.body.getD .skip)
theorem ed7_23 (tm : List AV) (H : AH) : EvC Try.prog C5 d7_23 (tm, H) = (runPlan Try.prog C5 (Ev Try.prog C5) H.length (opsAt d7_23) (.take 0 (.take 1 (.take 2 (.take 3 (.take 4 (.take 5 (.take 7 (.take 8 (.take 9 (.take 10 (graft (.all [(6, (.all [(11, .done)])), (11, (.all [(6, .done)]))]) (.all [(12, (.take 13 (.take 14 .done)))])))))))))))) (tm, H)).bind fun s' => some (.normal, s') := ev_draw (by kernel_rfl) (by kernel_rfl) tm H
theorem fe7 (args : List AV) (H : AH) : Ev Try.prog C5 7 args H = (EvC Try.prog C5 c7 (args ++ List.replicate (150 - args.length) undefA, H)).bind fun r => match r with | (.normal, s) => some ((s.1.getD 2 undefA), s.2) | (.ret, s) => some ((s.1.getD 2 undefA), s.2) | _ => none := Ev_eq Try.func7 rfl args H (orc5 (by decide) args H)
theorem fc7 (C : Cfg Try.prog) (slot : Option Nat) (tm : List AV) (H : AH) (o : Oper) (xs : Array Operand) (ats : Array TypeId) : callA Try.prog C slot (evalA tm) o ⟨.value (.func 7), xs, ats⟩ H = (evL (evalA tm) xs.toList).map fun vs => (.enter 7 vs, H) := callF (by rw [Try.func7]; rfl) slot _ H o xs ats rfl
end Go.Dv

/- The regions of RacePairs whose order is drawn (printed by t61.py, own work). -/
namespace Go.Dv
open Go.Proofs
set_option maxRecDepth 100000
set_option linter.unusedSimpArgs false
set_option linter.unusedVariables false
attribute [local congr] bind_congr_first

theorem z_n0 : ((0 : Int) != 0) = false := rfl
set_option maxHeartbeats 16000000 in
theorem reg7_10 {G : AH} {tm : List AV} {v ov : AV} {i p q n ip kp iq kq io ko : Nat} {x y a b : E6} (hlen : tm.length = 150) (h0 : tm.getD 0 undefA = v) (h3 : tm.getD 3 undefA = ov) (h5 : tm.getD 5 undefA = I i) (h6 : tm.getD 6 undefA = I p) (h7 : tm.getD 7 undefA = I q) (h8 : tm.getD 8 undefA = .bool true) (h9 : tm.getD 9 undefA = I 0)
    (hpq : p < q) (hqn : q < n) (hla : ∀ H, lenA Try.prog 22 H v = some (I n)) (hip : indexAddrA Try.prog 22 v (I p) = some (.ptr ip kp)) (rx : rdCells G ip kp 6 = some [I x.sp, I x.bl, I x.ce, I x.th, I x.ki, I x.ph]) (rx5 : rdCells G ip kp 5 = some [I x.sp, I x.bl, I x.ce, I x.th, I x.ki])
    (hiq : indexAddrA Try.prog 22 v (I q) = some (.ptr iq kq)) (ry : rdCells G iq kq 6 = some [I y.sp, I y.bl, I y.ce, I y.th, I y.ki, I y.ph]) (ry5 : rdCells G iq kq 5 = some [I y.sp, I y.bl, I y.ce, I y.th, I y.ki])
    (hio : indexAddrA Try.prog 24 ov (I i) = some (.ptr io ko)) (ra : rdCells G io ko 5 = some [I a.sp, I a.bl, I a.ce, I a.th, I a.ki]) (rb : rdCells G io (ko + 5) 5 = some [I b.sp, I b.bl, I b.ce, I b.th, I b.ki])
    (hx : x.accEq a = true) (hy : y.accEq b = true) (hr : x.race y = true) :
    ∃ tm', EvC Try.prog C5 d7_10 (tm, G) = some (.normal, (tm', G)) ∧ tm'.length = 150 ∧ tm'.getD 105 undefA = .bool false ∧ (∀ t ∈ [0, 3, 5], tm'.getD t undefA = tm.getD t undefA) := by
  have ks : Ev Try.prog C5 24 [evt x.sp x.bl x.ce x.th x.ki x.ph, evt y.sp y.bl y.ce y.th y.ki y.ph] G = some (.bool true, G) := by
    have := k5_race G x.sp x.bl x.ce x.th x.ki x.ph y.sp y.bl y.ce y.th y.ki y.ph
    rw [this]; exact congrArg (fun b => some (AV.bool b, G)) hr
  have ex : accEqB x.sp x.bl x.ce x.th x.ki a.sp a.bl a.ce a.th a.ki = true := hx
  have ey : accEqB y.sp y.bl y.ce y.th y.ki b.sp b.bl b.ce b.th b.ki = true := hy
  have d1 : decide ((p : Int) < 0) = false := by simp
  have d2 : decide ((p : Int) ≥ (q : Int)) = false := by simp; omega
  have d3 : decide ((q : Int) ≥ (n : Int)) = false := by simp; omega
  have dd := ed7_10
  simp only [d7_10, opsAt, atPath, Try.f7, Option.getD_some] at dd ⊢
  rw [dd]
  simp -implicitDefEqProofs only [hlen, h0, h3, h5, h6, h7, h8, h9, hla, hip, rx, rx5, hiq, ry, ry5, hio, ra, rb, ks, ex, ey, d1, d2, d3, eqa34, ↓fc24, Bool.not_true, Bool.not_false, Bool.true_and, Bool.and_true, Bool.false_and, Bool.and_false, Bool.true_or, Bool.or_true, Bool.false_or, Bool.or_false, cond_true, cond_false, boolOf_undef, nb, beq_self_eq_true, Bool.and_self, z_e1, z_e0, z_n0, ↓ld36, ↓ld34, ↓ld38, ↓ld89, ↓ld3, ↓st36, ↓st34, ↓st89, ↓st3, z36, z34, z89, fa36_0, fa36_1, fa38_0, fa38_1, boolOf_undef, nb, ↓q_not, ↓aop_lookup, ↓aop_makeFunc, ↓aop_makeMap, ↓aop_mapUpdate, ↓aop_mapEntry, ↓aop_entryStore, ↓aop_buildSlice, ↓aop_extract, ↓EvC_seq, ↓EvC_skip, ↓EvC_exit, ↓EvC_ret, ↓EvC_block, ↓EvC_cond, ↓ev_region, ↓runL_cons, ↓runL_nil, ↓stepO_none, ↓stepO_guard, ↓aop_move, ↓aop_assign, ↓aop_load, ↓aop_store, ↓aop_alloc, ↓aop_box, ↓aop_nilCheck, ↓aop_fieldAddr, ↓aop_field, ↓aop_indexAddr, ↓aop_binOp, ↓aop_pick, ↓aop_extract, ↓aop_buildSlice, ↓aop_slice, ↓aop_not, ↓aop_call, ↓callA_len, ↓callA_append, ev_tmp, ev_const, ofV_int, ofV_bool, ofV_str, ofV_nilSlice, ofV_nilPtr, putA_some, putA_none, gs_self, gs_ne, List.length_set, Option.bind_some, Option.map_some, intBinA, evL, evO, evP, ne_eq, not_false_eq_true, if_true, if_false, reduceCtorEq, ite_true, ite_false, reduceIte, put_app, AV.cells, and_true, true_and, and_self, decide_true, decide_false, ↓yielded_eq, yv_some, boolOf_bool, List.getElem?_toArray, List.getElem?_cons_zero, List.getElem?_cons_succ, Nat.reduceLT, Nat.reduceEqDiff, beq_self_eq_true, Option.some_beq_some, wr_app, wr_app0, rd_app, rd_app0, rdL_here, rdL_next, wrL_here, wrL_next, spl, List.all_cons, List.all_nil, AV.one, Bool.and_self, Bool.true_and, List.drop_zero, List.take_succ_cons, List.take_zero, List.drop_succ_cons, List.head?_cons, Nat.reduceAdd, Nat.reduceLeDiff, List.length_cons, List.length_nil, List.nil_append, List.cons_append, List.set_cons_zero, List.set_cons_succ, Int.toNat_natCast, Nat.add_zero, b_ft, b_tf, Bool.false_eq_true, ↓rp_done, ↓rp_take, ↓rp_all, ↓ra_nil, ↓ra_first, ↓ra_next, ↓quietO_none, ↓quietO_guard, ↓q_move, ↓q_assign, ↓q_pick, ↓q_binOp, ↓q_field, ↓q_fieldAddr, ↓q_indexAddr, ↓q_nilCheck, set_order, keepV_eq, stBeq_self, ↓rp_graft, put_slot, put_slot_app, List.length_append, List.append_assoc, Nat.add_assoc, ↓aop_build, evP, Bool.true_and, Bool.and_true, Bool.false_and, Bool.and_false, Bool.true_or, Bool.or_true, Bool.false_or, Bool.or_false, Bool.not_true, Bool.not_false]
  refine ⟨_, rfl, by simp only [List.length_set, hlen], by simp only [hlen, gs_self, gs_ne, List.length_set, ne_eq, Nat.reduceEqDiff, Nat.reduceLT, not_false_eq_true], fun t ht => ?_⟩
  simp only [List.mem_cons, List.not_mem_nil, or_false] at ht
  rcases ht with rfl | rfl | rfl <;> simp only [hlen, gs_self, gs_ne, List.length_set, ne_eq, Nat.reduceEqDiff, Nat.reduceLT, not_false_eq_true]

set_option maxHeartbeats 4000000 in
theorem reg7_18 {G : AH} {tm : List AV} {v : AV} {i k iy ky ie ke : Nat} {y x : E6} (hlen : tm.length = 150) (h0 : tm.getD 0 undefA = v) (h10 : tm.getD 10 undefA = I k) (h11 : tm.getD 11 undefA = I i)
    (hiy : indexAddrA Try.prog 22 v (I i) = some (.ptr iy ky)) (ry : rdCells G iy ky 6 = some [I y.sp, I y.bl, I y.ce, I y.th, I y.ki, I y.ph]) (hiv : indexAddrA Try.prog 22 v (I k) = some (.ptr ie ke)) (rx : rdCells G ie ke 6 = some [I x.sp, I x.bl, I x.ce, I x.th, I x.ki, I x.ph]) :
    ∃ tm', EvC Try.prog C5 d7_18 (tm, G) = some (.normal, (tm', G)) ∧ tm'.length = 150 ∧ tm'.getD 126 undefA = .bool (!(y.race x)) ∧ (∀ t ∈ [0, 3, 10, 11], tm'.getD t undefA = tm.getD t undefA) := by
  have ks : Ev Try.prog C5 24 [evt y.sp y.bl y.ce y.th y.ki y.ph, evt x.sp x.bl x.ce x.th x.ki x.ph] G = some (.bool (y.race x), G) := k5_race G y.sp y.bl y.ce y.th y.ki y.ph x.sp x.bl x.ce x.th x.ki x.ph
  have dd := ed7_18
  simp only [d7_18, opsAt, atPath, Try.f7, Option.getD_some] at dd ⊢
  rw [dd]
  simp -implicitDefEqProofs only [hlen, h0, h10, h11, hiy, ry, hiv, rx, ks, ↓fc24, ↓ld36, ↓ld34, ↓ld38, ↓ld89, ↓ld3, ↓st36, ↓st34, ↓st89, ↓st3, z36, z34, z89, fa36_0, fa36_1, fa38_0, fa38_1, boolOf_undef, nb, ↓q_not, ↓aop_lookup, ↓aop_makeFunc, ↓aop_makeMap, ↓aop_mapUpdate, ↓aop_mapEntry, ↓aop_entryStore, ↓aop_buildSlice, ↓aop_extract, ↓EvC_seq, ↓EvC_skip, ↓EvC_exit, ↓EvC_ret, ↓EvC_block, ↓EvC_cond, ↓ev_region, ↓runL_cons, ↓runL_nil, ↓stepO_none, ↓stepO_guard, ↓aop_move, ↓aop_assign, ↓aop_load, ↓aop_store, ↓aop_alloc, ↓aop_box, ↓aop_nilCheck, ↓aop_fieldAddr, ↓aop_field, ↓aop_indexAddr, ↓aop_binOp, ↓aop_pick, ↓aop_extract, ↓aop_buildSlice, ↓aop_slice, ↓aop_not, ↓aop_call, ↓callA_len, ↓callA_append, ev_tmp, ev_const, ofV_int, ofV_bool, ofV_str, ofV_nilSlice, ofV_nilPtr, putA_some, putA_none, gs_self, gs_ne, List.length_set, Option.bind_some, Option.map_some, intBinA, evL, evO, evP, ne_eq, not_false_eq_true, if_true, if_false, reduceCtorEq, ite_true, ite_false, reduceIte, put_app, AV.cells, and_true, true_and, and_self, decide_true, decide_false, ↓yielded_eq, yv_some, boolOf_bool, List.getElem?_toArray, List.getElem?_cons_zero, List.getElem?_cons_succ, Nat.reduceLT, Nat.reduceEqDiff, beq_self_eq_true, Option.some_beq_some, wr_app, wr_app0, rd_app, rd_app0, rdL_here, rdL_next, wrL_here, wrL_next, spl, List.all_cons, List.all_nil, AV.one, Bool.and_self, Bool.true_and, List.drop_zero, List.take_succ_cons, List.take_zero, List.drop_succ_cons, List.head?_cons, Nat.reduceAdd, Nat.reduceLeDiff, List.length_cons, List.length_nil, List.nil_append, List.cons_append, List.set_cons_zero, List.set_cons_succ, Int.toNat_natCast, Nat.add_zero, b_ft, b_tf, Bool.false_eq_true, ↓rp_done, ↓rp_take, ↓rp_all, ↓ra_nil, ↓ra_first, ↓ra_next, ↓quietO_none, ↓quietO_guard, ↓q_move, ↓q_assign, ↓q_pick, ↓q_binOp, ↓q_field, ↓q_fieldAddr, ↓q_indexAddr, ↓q_nilCheck, set_order, keepV_eq, stBeq_self, ↓rp_graft, put_slot, put_slot_app, List.length_append, List.append_assoc, Nat.add_assoc, ↓aop_build, evP, Bool.true_and, Bool.and_true, Bool.false_and, Bool.and_false, Bool.true_or, Bool.or_true, Bool.false_or, Bool.or_false, Bool.not_true, Bool.not_false]
  refine ⟨_, rfl, by simp only [List.length_set, hlen], by simp only [hlen, gs_self, gs_ne, List.length_set, ne_eq, Nat.reduceEqDiff, Nat.reduceLT, not_false_eq_true], fun t ht => ?_⟩
  simp only [List.mem_cons, List.not_mem_nil, or_false] at ht
  rcases ht with rfl | rfl | rfl | rfl <;> simp only [hlen, gs_self, gs_ne, List.length_set, ne_eq, Nat.reduceEqDiff, Nat.reduceLT, not_false_eq_true]

set_option maxHeartbeats 4000000 in
theorem reg7_23 {G : AH} {tm : List AV} {ov v : AV} {i k io ko ie ke : Nat} {b x : E6} {met : Bool} (hlen : tm.length = 150) (h0 : tm.getD 0 undefA = v) (h3 : tm.getD 3 undefA = ov) (h10 : tm.getD 10 undefA = I k) (h12 : tm.getD 12 undefA = .bool met) (h13 : tm.getD 13 undefA = I i)
    (hio : indexAddrA Try.prog 24 ov (I i) = some (.ptr io ko)) (rb : rdCells G io (ko + 5) 5 = some [I b.sp, I b.bl, I b.ce, I b.th, I b.ki]) (hiv : indexAddrA Try.prog 22 v (I k) = some (.ptr ie ke)) (rx : rdCells G ie ke 5 = some [I x.sp, I x.bl, I x.ce, I x.th, I x.ki]) :
    ∃ tm', EvC Try.prog C5 d7_23 (tm, G) = some (.normal, (tm', G)) ∧ tm'.length = 150 ∧ tm'.getD 12 undefA = .bool (met || b.same x) ∧ (∀ t ∈ [0, 3, 10, 11, 13], tm'.getD t undefA = tm.getD t undefA) := by
  have ks : Ev Try.prog C5 25 [acc b.sp b.bl b.ce b.th b.ki, acc x.sp x.bl x.ce x.th x.ki] G = some (.bool (b.same x), G) := k5_same G b.sp b.bl b.ce b.th b.ki x.sp x.bl x.ce x.th x.ki
  have dd := ed7_23
  simp only [d7_23, opsAt, atPath, Try.f7, Option.getD_some] at dd ⊢
  rw [dd]
  cases met
  · simp -implicitDefEqProofs only [hlen, h0, h3, h10, h12, h13, hio, rb, hiv, rx, ks, ↓fc25, ↓ld36, ↓ld34, ↓ld38, ↓ld89, ↓ld3, ↓st36, ↓st34, ↓st89, ↓st3, z36, z34, z89, fa36_0, fa36_1, fa38_0, fa38_1, boolOf_undef, nb, ↓q_not, ↓aop_lookup, ↓aop_makeFunc, ↓aop_makeMap, ↓aop_mapUpdate, ↓aop_mapEntry, ↓aop_entryStore, ↓aop_buildSlice, ↓aop_extract, ↓EvC_seq, ↓EvC_skip, ↓EvC_exit, ↓EvC_ret, ↓EvC_block, ↓EvC_cond, ↓ev_region, ↓runL_cons, ↓runL_nil, ↓stepO_none, ↓stepO_guard, ↓aop_move, ↓aop_assign, ↓aop_load, ↓aop_store, ↓aop_alloc, ↓aop_box, ↓aop_nilCheck, ↓aop_fieldAddr, ↓aop_field, ↓aop_indexAddr, ↓aop_binOp, ↓aop_pick, ↓aop_extract, ↓aop_buildSlice, ↓aop_slice, ↓aop_not, ↓aop_call, ↓callA_len, ↓callA_append, ev_tmp, ev_const, ofV_int, ofV_bool, ofV_str, ofV_nilSlice, ofV_nilPtr, putA_some, putA_none, gs_self, gs_ne, List.length_set, Option.bind_some, Option.map_some, intBinA, evL, evO, evP, ne_eq, not_false_eq_true, if_true, if_false, reduceCtorEq, ite_true, ite_false, reduceIte, put_app, AV.cells, and_true, true_and, and_self, decide_true, decide_false, ↓yielded_eq, yv_some, boolOf_bool, List.getElem?_toArray, List.getElem?_cons_zero, List.getElem?_cons_succ, Nat.reduceLT, Nat.reduceEqDiff, beq_self_eq_true, Option.some_beq_some, wr_app, wr_app0, rd_app, rd_app0, rdL_here, rdL_next, wrL_here, wrL_next, spl, List.all_cons, List.all_nil, AV.one, Bool.and_self, Bool.true_and, List.drop_zero, List.take_succ_cons, List.take_zero, List.drop_succ_cons, List.head?_cons, Nat.reduceAdd, Nat.reduceLeDiff, List.length_cons, List.length_nil, List.nil_append, List.cons_append, List.set_cons_zero, List.set_cons_succ, Int.toNat_natCast, Nat.add_zero, b_ft, b_tf, Bool.false_eq_true, ↓rp_done, ↓rp_take, ↓rp_all, ↓ra_nil, ↓ra_first, ↓ra_next, ↓quietO_none, ↓quietO_guard, ↓q_move, ↓q_assign, ↓q_pick, ↓q_binOp, ↓q_field, ↓q_fieldAddr, ↓q_indexAddr, ↓q_nilCheck, set_order, keepV_eq, stBeq_self, ↓rp_graft, put_slot, put_slot_app, List.length_append, List.append_assoc, Nat.add_assoc, ↓aop_build, evP, Bool.true_and, Bool.and_true, Bool.false_and, Bool.and_false, Bool.true_or, Bool.or_true, Bool.false_or, Bool.or_false, Bool.not_true, Bool.not_false]
    refine ⟨_, rfl, by simp only [List.length_set, hlen], by simp only [hlen, gs_self, gs_ne, List.length_set, ne_eq, Nat.reduceEqDiff, Nat.reduceLT, not_false_eq_true], fun t ht => ?_⟩
    simp only [List.mem_cons, List.not_mem_nil, or_false] at ht
    rcases ht with rfl | rfl | rfl | rfl | rfl <;> simp only [hlen, gs_self, gs_ne, List.length_set, ne_eq, Nat.reduceEqDiff, Nat.reduceLT, not_false_eq_true]

  · simp -implicitDefEqProofs only [hlen, h0, h3, h10, h12, h13, hio, rb, hiv, rx, ks, ↓fc25, ↓ld36, ↓ld34, ↓ld38, ↓ld89, ↓ld3, ↓st36, ↓st34, ↓st89, ↓st3, z36, z34, z89, fa36_0, fa36_1, fa38_0, fa38_1, boolOf_undef, nb, ↓q_not, ↓aop_lookup, ↓aop_makeFunc, ↓aop_makeMap, ↓aop_mapUpdate, ↓aop_mapEntry, ↓aop_entryStore, ↓aop_buildSlice, ↓aop_extract, ↓EvC_seq, ↓EvC_skip, ↓EvC_exit, ↓EvC_ret, ↓EvC_block, ↓EvC_cond, ↓ev_region, ↓runL_cons, ↓runL_nil, ↓stepO_none, ↓stepO_guard, ↓aop_move, ↓aop_assign, ↓aop_load, ↓aop_store, ↓aop_alloc, ↓aop_box, ↓aop_nilCheck, ↓aop_fieldAddr, ↓aop_field, ↓aop_indexAddr, ↓aop_binOp, ↓aop_pick, ↓aop_extract, ↓aop_buildSlice, ↓aop_slice, ↓aop_not, ↓aop_call, ↓callA_len, ↓callA_append, ev_tmp, ev_const, ofV_int, ofV_bool, ofV_str, ofV_nilSlice, ofV_nilPtr, putA_some, putA_none, gs_self, gs_ne, List.length_set, Option.bind_some, Option.map_some, intBinA, evL, evO, evP, ne_eq, not_false_eq_true, if_true, if_false, reduceCtorEq, ite_true, ite_false, reduceIte, put_app, AV.cells, and_true, true_and, and_self, decide_true, decide_false, ↓yielded_eq, yv_some, boolOf_bool, List.getElem?_toArray, List.getElem?_cons_zero, List.getElem?_cons_succ, Nat.reduceLT, Nat.reduceEqDiff, beq_self_eq_true, Option.some_beq_some, wr_app, wr_app0, rd_app, rd_app0, rdL_here, rdL_next, wrL_here, wrL_next, spl, List.all_cons, List.all_nil, AV.one, Bool.and_self, Bool.true_and, List.drop_zero, List.take_succ_cons, List.take_zero, List.drop_succ_cons, List.head?_cons, Nat.reduceAdd, Nat.reduceLeDiff, List.length_cons, List.length_nil, List.nil_append, List.cons_append, List.set_cons_zero, List.set_cons_succ, Int.toNat_natCast, Nat.add_zero, b_ft, b_tf, Bool.false_eq_true, ↓rp_done, ↓rp_take, ↓rp_all, ↓ra_nil, ↓ra_first, ↓ra_next, ↓quietO_none, ↓quietO_guard, ↓q_move, ↓q_assign, ↓q_pick, ↓q_binOp, ↓q_field, ↓q_fieldAddr, ↓q_indexAddr, ↓q_nilCheck, set_order, keepV_eq, stBeq_self, ↓rp_graft, put_slot, put_slot_app, List.length_append, List.append_assoc, Nat.add_assoc, ↓aop_build, evP, Bool.true_and, Bool.and_true, Bool.false_and, Bool.and_false, Bool.true_or, Bool.or_true, Bool.false_or, Bool.or_false, Bool.not_true, Bool.not_false]
    refine ⟨_, rfl, by simp only [List.length_set, hlen], by simp only [hlen, gs_self, gs_ne, List.length_set, ne_eq, Nat.reduceEqDiff, Nat.reduceLT, not_false_eq_true], fun t ht => ?_⟩
    simp only [List.mem_cons, List.not_mem_nil, or_false] at ht
    rcases ht with rfl | rfl | rfl | rfl | rfl <;> simp only [hlen, gs_self, gs_ne, List.length_set, ne_eq, Nat.reduceEqDiff, Nat.reduceLT, not_false_eq_true]

theorem reg7_10' {G : AH} {tm : List AV} {v ov : AV} {i p q n ip kp iq kq io ko : Nat} {x y a b : E6} {X : Option (AExit × St)} (hX : EvC Try.prog C5 d7_10 (tm, G) = X) (hlen : tm.length = 150) (h0 : tm.getD 0 undefA = v) (h3 : tm.getD 3 undefA = ov) (h5 : tm.getD 5 undefA = I i) (h6 : tm.getD 6 undefA = I p) (h7 : tm.getD 7 undefA = I q) (h8 : tm.getD 8 undefA = .bool true) (h9 : tm.getD 9 undefA = I 0)
    (hpq : p < q) (hqn : q < n) (hla : ∀ H, lenA Try.prog 22 H v = some (I n)) (hip : indexAddrA Try.prog 22 v (I p) = some (.ptr ip kp)) (rx : rdCells G ip kp 6 = some [I x.sp, I x.bl, I x.ce, I x.th, I x.ki, I x.ph]) (rx5 : rdCells G ip kp 5 = some [I x.sp, I x.bl, I x.ce, I x.th, I x.ki])
    (hiq : indexAddrA Try.prog 22 v (I q) = some (.ptr iq kq)) (ry : rdCells G iq kq 6 = some [I y.sp, I y.bl, I y.ce, I y.th, I y.ki, I y.ph]) (ry5 : rdCells G iq kq 5 = some [I y.sp, I y.bl, I y.ce, I y.th, I y.ki])
    (hio : indexAddrA Try.prog 24 ov (I i) = some (.ptr io ko)) (ra : rdCells G io ko 5 = some [I a.sp, I a.bl, I a.ce, I a.th, I a.ki]) (rb : rdCells G io (ko + 5) 5 = some [I b.sp, I b.bl, I b.ce, I b.th, I b.ki])
    (hx : x.accEq a = true) (hy : y.accEq b = true) (hr : x.race y = true) : ∃ tm', X = some (.normal, (tm', G)) ∧ tm'.length = 150 ∧ tm'.getD 105 undefA = .bool false ∧ (∀ t ∈ [0, 3, 5], tm'.getD t undefA = tm.getD t undefA) := by
  subst hX; exact reg7_10 hlen h0 h3 h5 h6 h7 h8 h9 hpq hqn hla hip rx rx5 hiq ry ry5 hio ra rb hx hy hr
theorem reg7_18' {G : AH} {tm : List AV} {v : AV} {i k iy ky ie ke : Nat} {y x : E6} {X : Option (AExit × St)} (hX : EvC Try.prog C5 d7_18 (tm, G) = X) (hlen : tm.length = 150) (h0 : tm.getD 0 undefA = v) (h10 : tm.getD 10 undefA = I k) (h11 : tm.getD 11 undefA = I i)
    (hiy : indexAddrA Try.prog 22 v (I i) = some (.ptr iy ky)) (ry : rdCells G iy ky 6 = some [I y.sp, I y.bl, I y.ce, I y.th, I y.ki, I y.ph]) (hiv : indexAddrA Try.prog 22 v (I k) = some (.ptr ie ke)) (rx : rdCells G ie ke 6 = some [I x.sp, I x.bl, I x.ce, I x.th, I x.ki, I x.ph]) : ∃ tm', X = some (.normal, (tm', G)) ∧ tm'.length = 150 ∧ tm'.getD 126 undefA = .bool (!(y.race x)) ∧ (∀ t ∈ [0, 3, 10, 11], tm'.getD t undefA = tm.getD t undefA) := by
  subst hX; exact reg7_18 hlen h0 h10 h11 hiy ry hiv rx
theorem reg7_23' {G : AH} {tm : List AV} {ov v : AV} {i k io ko ie ke : Nat} {b x : E6} {met : Bool} {X : Option (AExit × St)} (hX : EvC Try.prog C5 d7_23 (tm, G) = X) (hlen : tm.length = 150) (h0 : tm.getD 0 undefA = v) (h3 : tm.getD 3 undefA = ov) (h10 : tm.getD 10 undefA = I k) (h12 : tm.getD 12 undefA = .bool met) (h13 : tm.getD 13 undefA = I i)
    (hio : indexAddrA Try.prog 24 ov (I i) = some (.ptr io ko)) (rb : rdCells G io (ko + 5) 5 = some [I b.sp, I b.bl, I b.ce, I b.th, I b.ki]) (hiv : indexAddrA Try.prog 22 v (I k) = some (.ptr ie ke)) (rx : rdCells G ie ke 5 = some [I x.sp, I x.bl, I x.ce, I x.th, I x.ki]) : ∃ tm', X = some (.normal, (tm', G)) ∧ tm'.length = 150 ∧ tm'.getD 12 undefA = .bool (met || b.same x) ∧ (∀ t ∈ [0, 3, 10, 11, 13], tm'.getD t undefA = tm.getD t undefA) := by
  subst hX; exact reg7_23 hlen h0 h3 h10 h12 h13 hio rb hiv rx

end Go.Dv

/- The law RacePairs on abstract heaps (printed by t61.py, own work). -/
namespace Go.Dv
open Go.Proofs
set_option maxRecDepth 100000
set_option linter.unusedSimpArgs false
set_option linter.unusedVariables false
attribute [local congr] bind_congr_first

theorem pa_end {H : AH} {tm : List AV} {ov : AV} {O : List (E6 × E6)} (ho : RRow H ov O) (hlen : tm.length = 150) (h3 : tm.getD 3 undefA = ov) (h5 : tm.getD 5 undefA = I O.length) : ∃ tm', EvC Try.prog C5 l7_0 (tm, H) = some (.exit 0, (tm', H)) ∧ tm'.length = 150 ∧ (∀ t ∈ [0, 3], tm'.getD t undefA = tm.getD t undefA) := by
  have hlt : decide ((O.length : Int) < (O.length : Int)) = false := by simp
  have hlo := ho.len
  rw [el7_0]
  simp -implicitDefEqProofs only [b7_0, atPath, Try.f7, Option.getD_some, hlen, h3, h5, hlo, hlt, ↓EvC_seq, ↓EvC_skip, ↓EvC_exit, ↓EvC_ret, ↓EvC_block, ↓EvC_cond, ↓ev_region, ↓runL_cons, ↓runL_nil, ↓stepO_none, ↓stepO_guard, ↓aop_move, ↓aop_assign, ↓aop_load, ↓aop_store, ↓aop_alloc, ↓aop_box, ↓aop_nilCheck, ↓aop_fieldAddr, ↓aop_field, ↓aop_indexAddr, ↓aop_binOp, ↓aop_pick, ↓aop_extract, ↓aop_buildSlice, ↓aop_slice, ↓aop_not, ↓aop_call, ↓callA_len, ↓callA_append, ev_tmp, ev_const, ofV_int, ofV_bool, ofV_str, ofV_nilSlice, ofV_nilPtr, putA_some, putA_none, gs_self, gs_ne, List.length_set, Option.bind_some, Option.map_some, intBinA, evL, evO, evP, ne_eq, not_false_eq_true, if_true, if_false, reduceCtorEq, ite_true, ite_false, reduceIte, put_app, AV.cells, and_true, true_and, and_self, decide_true, decide_false, ↓yielded_eq, yv_some, boolOf_bool, List.getElem?_toArray, List.getElem?_cons_zero, List.getElem?_cons_succ, Nat.reduceLT, Nat.reduceEqDiff, beq_self_eq_true, Option.some_beq_some, wr_app, wr_app0, rd_app, rd_app0, rdL_here, rdL_next, wrL_here, wrL_next, spl, List.all_cons, List.all_nil, AV.one, Bool.and_self, Bool.true_and, List.drop_zero, List.take_succ_cons, List.take_zero, List.drop_succ_cons, List.head?_cons, Nat.reduceAdd, Nat.reduceLeDiff, List.length_cons, List.length_nil, List.nil_append, List.cons_append, List.set_cons_zero, List.set_cons_succ, Int.toNat_natCast, Nat.add_zero, b_ft, b_tf, Bool.false_eq_true]
  refine ⟨_, rfl, by simp only [List.length_set, hlen], fun t ht => ?_⟩
  simp only [List.mem_cons, List.not_mem_nil, or_false] at ht
  rcases ht with rfl | rfl <;> simp only [hlen, gs_self, gs_ne, List.length_set, ne_eq, Nat.reduceEqDiff, Nat.reduceLT, not_false_eq_true]

theorem pa_loop {H : AH} {v ov : AV} {l : List E6} (hv : EvS H v l) (hl : l.length < 2 ^ 30) (hval : (!(decide ((l.length : Int) > 4000)) && !(l.any E6.bad)) = true) (ho : RRow H ov (findS l)) (hon : (findS l).length ≤ l.length) : ∀ (d i : Nat) (tm : List AV), (findS l).length - i = d → i ≤ (findS l).length →
    tm.length = 150 → tm.getD 0 undefA = v → tm.getD 3 undefA = ov → tm.getD 5 undefA = I i →
    ∃ tm', EvC Try.prog C5 l7_0 (tm, H) = some (.exit 0, (tm', H)) ∧ tm'.length = 150 ∧ (∀ t ∈ [0, 3], tm'.getD t undefA = tm.getD t undefA) := by
  intro d
  induction d with
  | zero =>
    intro i tm hd hi hlen h0 h3 h5
    obtain rfl : i = (findS l).length := by omega
    exact pa_end ho hlen h3 h5
  | succ d ih =>
    intro i tm hd hi hlen h0 h3 h5
    obtain ⟨q, hq⟩ : ∃ q, (findS l)[i]? = some q := ⟨_, List.getElem?_eq_getElem (by omega)⟩
    obtain ⟨pi, pk, x, y, hf, hpk, hx, hy, ax, ay, hr⟩ := pairs_wit l (List.mem_of_getElem? hq)
    have hkl := lt_of_get hy
    obtain ⟨ip, kp, hip, rx⟩ := hv.evs.ix _ x hx
    obtain ⟨iq, kq, hiq, ry⟩ := hv.evs.ix _ y hy
    obtain ⟨io, ko, hio, ro'⟩ := ho.ix i q hq
    have rx5 : rdCells H ip kp 5 = some [I x.sp, I x.bl, I x.ce, I x.th, I x.ki] := by have := rd5 rx []; rwa [List.append_nil] at this
    have ry5 : rdCells H iq kq 5 = some [I y.sp, I y.bl, I y.ce, I y.th, I y.ki] := by have := rd5 ry []; rwa [List.append_nil] at this
    have ra : rdCells H io ko 5 = some [I q.1.sp, I q.1.bl, I q.1.ce, I q.1.th, I q.1.ki] := by have := rd_sub ro' 0 5 (by omega); simpa [rcells] using this
    have rb : rdCells H io (ko + 5) 5 = some [I q.2.sp, I q.2.bl, I q.2.ce, I q.2.th, I q.2.ki] := by have := rd_sub ro' 5 5 (by omega); simpa [rcells] using this
    have hld : ldA Try.prog 38 H io ko = some (.agg (rcells q.1 q.2)) := by rw [ld38', ro']; rfl
    have hwit := k5_witness (a := q.1) (b := q.2) hv (by omega) hval hf
    have hlt : decide ((i : Int) < ((findS l).length : Int)) = true := by simp; omega
    have hw : IntKind.i64.wrap ((i : Int) + 1) = ((i + 1 : Nat) : Int) := by rw [IntWalk.i64_in _ (by omega)]; omega
    have hlo := ho.len
    have key : ∃ tm1, EvC Try.prog C5 l7_0 (tm, H) = EvC Try.prog C5 l7_0 (tm1, H) ∧ tm1.length = 150 ∧ tm1.getD 5 undefA = I ((i + 1 : Nat) : Int) ∧ (∀ t ∈ [0, 3], tm1.getD t undefA = tm.getD t undefA) := by
      rw [el7_0]
      simp -implicitDefEqProofs only [b7_0, atPath, Try.f7, Option.getD_some, hlen, h0, h3, h5, hlo, hlt, hio, ↓hld, hwit, ↓fc22, ↓aop_extract, ↓EvC_seq, ↓EvC_skip, ↓EvC_exit, ↓EvC_ret, ↓EvC_block, ↓EvC_cond, ↓ev_region, ↓runL_cons, ↓runL_nil, ↓stepO_none, ↓stepO_guard, ↓aop_move, ↓aop_assign, ↓aop_load, ↓aop_store, ↓aop_alloc, ↓aop_box, ↓aop_nilCheck, ↓aop_fieldAddr, ↓aop_field, ↓aop_indexAddr, ↓aop_binOp, ↓aop_pick, ↓aop_extract, ↓aop_buildSlice, ↓aop_slice, ↓aop_not, ↓aop_call, ↓callA_len, ↓callA_append, ev_tmp, ev_const, ofV_int, ofV_bool, ofV_str, ofV_nilSlice, ofV_nilPtr, putA_some, putA_none, gs_self, gs_ne, List.length_set, Option.bind_some, Option.map_some, intBinA, evL, evO, evP, ne_eq, not_false_eq_true, if_true, if_false, reduceCtorEq, ite_true, ite_false, reduceIte, put_app, AV.cells, and_true, true_and, and_self, decide_true, decide_false, ↓yielded_eq, yv_some, boolOf_bool, List.getElem?_toArray, List.getElem?_cons_zero, List.getElem?_cons_succ, Nat.reduceLT, Nat.reduceEqDiff, beq_self_eq_true, Option.some_beq_some, wr_app, wr_app0, rd_app, rd_app0, rdL_here, rdL_next, wrL_here, wrL_next, spl, List.all_cons, List.all_nil, AV.one, Bool.and_self, Bool.true_and, List.drop_zero, List.take_succ_cons, List.take_zero, List.drop_succ_cons, List.head?_cons, Nat.reduceAdd, Nat.reduceLeDiff, List.length_cons, List.length_nil, List.nil_append, List.cons_append, List.set_cons_zero, List.set_cons_succ, Int.toNat_natCast, Nat.add_zero, b_ft, b_tf, Bool.false_eq_true]
      generalize hX : EvC Try.prog C5 (Code.region 10 _ true) _ = X
      obtain ⟨tm1, he, hl1, g105, hk⟩ := reg7_10' (i := i) (p := pi) (q := pk) (n := l.length) (a := q.1) (b := q.2) (v := v) (ov := ov) hX (by simp only [List.length_set, hlen]) (by simp only [hlen, h0, gs_self, gs_ne, List.length_set, ne_eq, Nat.reduceEqDiff, Nat.reduceLT, not_false_eq_true]) (by simp only [hlen, h3, gs_self, gs_ne, List.length_set, ne_eq, Nat.reduceEqDiff, Nat.reduceLT, not_false_eq_true]) (by simp only [hlen, h5, gs_self, gs_ne, List.length_set, ne_eq, Nat.reduceEqDiff, Nat.reduceLT, not_false_eq_true]) (by simp only [hlen, gs_self, gs_ne, List.length_set, ne_eq, Nat.reduceEqDiff, Nat.reduceLT, not_false_eq_true]) (by simp only [hlen, gs_self, gs_ne, List.length_set, ne_eq, Nat.reduceEqDiff, Nat.reduceLT, not_false_eq_true]) (by simp only [hlen, gs_self, gs_ne, List.length_set, ne_eq, Nat.reduceEqDiff, Nat.reduceLT, not_false_eq_true]) (by simp only [hlen, gs_self, gs_ne, List.length_set, ne_eq, Nat.reduceEqDiff, Nat.reduceLT, not_false_eq_true]) hpk hkl hv.evs.len hip rx rx5 hiq ry ry5 hio ra rb ax ay hr
      subst he
      have z0 := hk 0 (by simp)
      have z3 := hk 3 (by simp)
      have z5 := hk 5 (by simp)
      simp only [hlen, h5, gs_self, gs_ne, List.length_set, ne_eq, Nat.reduceEqDiff, Nat.reduceLT, not_false_eq_true] at z0 z3 z5
      simp -implicitDefEqProofs only [hl1, g105, z5, hw, ↓EvC_seq, ↓EvC_skip, ↓EvC_exit, ↓EvC_ret, ↓EvC_block, ↓EvC_cond, ↓ev_region, ↓runL_cons, ↓runL_nil, ↓stepO_none, ↓stepO_guard, ↓aop_move, ↓aop_assign, ↓aop_load, ↓aop_store, ↓aop_alloc, ↓aop_box, ↓aop_nilCheck, ↓aop_fieldAddr, ↓aop_field, ↓aop_indexAddr, ↓aop_binOp, ↓aop_pick, ↓aop_extract, ↓aop_buildSlice, ↓aop_slice, ↓aop_not, ↓aop_call, ↓callA_len, ↓callA_append, ev_tmp, ev_const, ofV_int, ofV_bool, ofV_str, ofV_nilSlice, ofV_nilPtr, putA_some, putA_none, gs_self, gs_ne, List.length_set, Option.bind_some, Option.map_some, intBinA, evL, evO, evP, ne_eq, not_false_eq_true, if_true, if_false, reduceCtorEq, ite_true, ite_false, reduceIte, put_app, AV.cells, and_true, true_and, and_self, decide_true, decide_false, ↓yielded_eq, yv_some, boolOf_bool, List.getElem?_toArray, List.getElem?_cons_zero, List.getElem?_cons_succ, Nat.reduceLT, Nat.reduceEqDiff, beq_self_eq_true, Option.some_beq_some, wr_app, wr_app0, rd_app, rd_app0, rdL_here, rdL_next, wrL_here, wrL_next, spl, List.all_cons, List.all_nil, AV.one, Bool.and_self, Bool.true_and, List.drop_zero, List.take_succ_cons, List.take_zero, List.drop_succ_cons, List.head?_cons, Nat.reduceAdd, Nat.reduceLeDiff, List.length_cons, List.length_nil, List.nil_append, List.cons_append, List.set_cons_zero, List.set_cons_succ, Int.toNat_natCast, Nat.add_zero, b_ft, b_tf, Bool.false_eq_true]
      refine ⟨_, rfl, by simp only [List.length_set, hl1], by simp only [hl1, gs_self, gs_ne, List.length_set, ne_eq, Nat.reduceEqDiff, Nat.reduceLT, not_false_eq_true], fun t ht => ?_⟩
      simp only [List.mem_cons, List.not_mem_nil, or_false] at ht
      rcases ht with rfl | rfl <;> simp only [hl1, z0, z3, gs_self, gs_ne, List.length_set, ne_eq, Nat.reduceEqDiff, Nat.reduceLT, not_false_eq_true]

    obtain ⟨tm1, he, hl1, g5, hk⟩ := key
    obtain ⟨tm', he2, hl', hk'⟩ := ih (i + 1) tm1 (by omega) (by omega) hl1 ((hk 0 (by simp)).trans h0) ((hk 3 (by simp)).trans h3) g5
    exact ⟨tm', he.trans he2, hl', fun t ht => (hk' t ht).trans (hk t ht)⟩
theorem pa_loop' {H : AH} {v ov : AV} {l : List E6} {tm : List AV} {X : Option (AExit × St)} (hX : EvC Try.prog C5 l7_0 (tm, H) = X) (hv : EvS H v l) (hl : l.length < 2 ^ 30) (hval : (!(decide ((l.length : Int) > 4000)) && !(l.any E6.bad)) = true) (ho : RRow H ov (findS l)) (hon : (findS l).length ≤ l.length)
    (hlen : tm.length = 150) (h0 : tm.getD 0 undefA = v) (h3 : tm.getD 3 undefA = ov) (h5 : tm.getD 5 undefA = I ((0 : Nat) : Int)) : ∃ tm', X = some (.exit 0, (tm', H)) ∧ tm'.length = 150 ∧ (∀ t ∈ [0, 3], tm'.getD t undefA = tm.getD t undefA) := by
  subst hX
  exact pa_loop hv hl hval ho hon _ 0 tm rfl (by omega) hlen h0 h3 h5

theorem pm_loop {H : AH} {v ov : AV} {O : List (E6 × E6)} {k ie ke : Nat} {x : E6} (hn : O.length < 2 ^ 62) (ho : RRow H ov O) (hiv : indexAddrA Try.prog 22 v (I k) = some (.ptr ie ke)) (rx : rdCells H ie ke 5 = some [I x.sp, I x.bl, I x.ce, I x.th, I x.ki]) : ∀ (d i : Nat) (tm : List AV) (met : Bool), O.length - i = d → i ≤ O.length →
    tm.length = 150 → tm.getD 0 undefA = v → tm.getD 3 undefA = ov → tm.getD 10 undefA = I k → tm.getD 12 undefA = .bool met → tm.getD 13 undefA = I i →
    ∃ tm', EvC Try.prog C5 l7_1 (tm, H) = some (.exit 6, (tm', H)) ∧ tm'.length = 150 ∧ tm'.getD 12 undefA = .bool (met || (O.drop i).any fun p => p.2.same x) ∧ (∀ t ∈ [0, 3, 10, 11], tm'.getD t undefA = tm.getD t undefA) := by
  intro d
  induction d with
  | zero =>
    intro i tm met hd hi hlen h0 h3 h10 h12 h13
    obtain rfl : i = O.length := by omega
    have hlt : decide ((O.length : Int) < (O.length : Int)) = false := by simp
    have hlo := ho.len
    rw [el7_1]
    simp -implicitDefEqProofs only [b7_1, atPath, Try.f7, Option.getD_some, hlen, h3, h13, hlo, hlt, ↓EvC_seq, ↓EvC_skip, ↓EvC_exit, ↓EvC_ret, ↓EvC_block, ↓EvC_cond, ↓ev_region, ↓runL_cons, ↓runL_nil, ↓stepO_none, ↓stepO_guard, ↓aop_move, ↓aop_assign, ↓aop_load, ↓aop_store, ↓aop_alloc, ↓aop_box, ↓aop_nilCheck, ↓aop_fieldAddr, ↓aop_field, ↓aop_indexAddr, ↓aop_binOp, ↓aop_pick, ↓aop_extract, ↓aop_buildSlice, ↓aop_slice, ↓aop_not, ↓aop_call, ↓callA_len, ↓callA_append, ev_tmp, ev_const, ofV_int, ofV_bool, ofV_str, ofV_nilSlice, ofV_nilPtr, putA_some, putA_none, gs_self, gs_ne, List.length_set, Option.bind_some, Option.map_some, intBinA, evL, evO, evP, ne_eq, not_false_eq_true, if_true, if_false, reduceCtorEq, ite_true, ite_false, reduceIte, put_app, AV.cells, and_true, true_and, and_self, decide_true, decide_false, ↓yielded_eq, yv_some, boolOf_bool, List.getElem?_toArray, List.getElem?_cons_zero, List.getElem?_cons_succ, Nat.reduceLT, Nat.reduceEqDiff, beq_self_eq_true, Option.some_beq_some, wr_app, wr_app0, rd_app, rd_app0, rdL_here, rdL_next, wrL_here, wrL_next, spl, List.all_cons, List.all_nil, AV.one, Bool.and_self, Bool.true_and, List.drop_zero, List.take_succ_cons, List.take_zero, List.drop_succ_cons, List.head?_cons, Nat.reduceAdd, Nat.reduceLeDiff, List.length_cons, List.length_nil, List.nil_append, List.cons_append, List.set_cons_zero, List.set_cons_succ, Int.toNat_natCast, Nat.add_zero, b_ft, b_tf, Bool.false_eq_true]
    refine ⟨_, rfl, by simp only [List.length_set, hlen], ?_, fun t ht => ?_⟩
    · simp only [hlen, h12, gs_self, gs_ne, List.length_set, ne_eq, Nat.reduceEqDiff, Nat.reduceLT, not_false_eq_true]; simp
    simp only [List.mem_cons, List.not_mem_nil, or_false] at ht
    rcases ht with rfl | rfl | rfl | rfl <;> simp only [hlen, gs_self, gs_ne, List.length_set, ne_eq, Nat.reduceEqDiff, Nat.reduceLT, not_false_eq_true]
  | succ d ih =>
    intro i tm met hd hi hlen h0 h3 h10 h12 h13
    obtain ⟨p, hp⟩ : ∃ p, O[i]? = some p := ⟨_, List.getElem?_eq_getElem (by omega)⟩
    have hdl : O.drop i = p :: O.drop (i + 1) := by rw [List.drop_eq_getElem_cons (by omega)]; congr 1; rw [List.getElem?_eq_getElem (by omega)] at hp; exact Option.some.inj hp
    have hlt : decide ((i : Int) < (O.length : Int)) = true := by simp; omega
    have hw : IntKind.i64.wrap ((i : Int) + 1) = ((i + 1 : Nat) : Int) := by rw [IntWalk.i64_in _ (by omega)]; omega
    have hlo := ho.len
    obtain ⟨io, ko, hio, ro'⟩ := ho.ix i p hp
    have rb : rdCells H io (ko + 5) 5 = some [I p.2.sp, I p.2.bl, I p.2.ce, I p.2.th, I p.2.ki] := by have := rd_sub ro' 5 5 (by omega); simpa [rcells] using this
    have key : ∃ tm1, EvC Try.prog C5 l7_1 (tm, H) = EvC Try.prog C5 l7_1 (tm1, H) ∧ tm1.length = 150 ∧ tm1.getD 12 undefA = .bool (met || p.2.same x) ∧ tm1.getD 13 undefA = I ((i + 1 : Nat) : Int) ∧ (∀ t ∈ [0, 3, 10, 11], tm1.getD t undefA = tm.getD t undefA) := by
      rw [el7_1]
      simp -implicitDefEqProofs only [b7_1, atPath, Try.f7, Option.getD_some, hlen, h3, h13, hlo, hlt, ↓EvC_seq, ↓EvC_skip, ↓EvC_exit, ↓EvC_ret, ↓EvC_block, ↓EvC_cond, ↓ev_region, ↓runL_cons, ↓runL_nil, ↓stepO_none, ↓stepO_guard, ↓aop_move, ↓aop_assign, ↓aop_load, ↓aop_store, ↓aop_alloc, ↓aop_box, ↓aop_nilCheck, ↓aop_fieldAddr, ↓aop_field, ↓aop_indexAddr, ↓aop_binOp, ↓aop_pick, ↓aop_extract, ↓aop_buildSlice, ↓aop_slice, ↓aop_not, ↓aop_call, ↓callA_len, ↓callA_append, ev_tmp, ev_const, ofV_int, ofV_bool, ofV_str, ofV_nilSlice, ofV_nilPtr, putA_some, putA_none, gs_self, gs_ne, List.length_set, Option.bind_some, Option.map_some, intBinA, evL, evO, evP, ne_eq, not_false_eq_true, if_true, if_false, reduceCtorEq, ite_true, ite_false, reduceIte, put_app, AV.cells, and_true, true_and, and_self, decide_true, decide_false, ↓yielded_eq, yv_some, boolOf_bool, List.getElem?_toArray, List.getElem?_cons_zero, List.getElem?_cons_succ, Nat.reduceLT, Nat.reduceEqDiff, beq_self_eq_true, Option.some_beq_some, wr_app, wr_app0, rd_app, rd_app0, rdL_here, rdL_next, wrL_here, wrL_next, spl, List.all_cons, List.all_nil, AV.one, Bool.and_self, Bool.true_and, List.drop_zero, List.take_succ_cons, List.take_zero, List.drop_succ_cons, List.head?_cons, Nat.reduceAdd, Nat.reduceLeDiff, List.length_cons, List.length_nil, List.nil_append, List.cons_append, List.set_cons_zero, List.set_cons_succ, Int.toNat_natCast, Nat.add_zero, b_ft, b_tf, Bool.false_eq_true]
      generalize hX : EvC Try.prog C5 (Code.region 23 _ true) _ = X
      obtain ⟨tm1, he, hl1, g12, hk⟩ := reg7_23' (b := p.2) (x := x) (met := met) (i := i) (k := k) (v := v) (ov := ov) hX (by simp only [List.length_set, hlen]) (by simp only [hlen, h0, gs_self, gs_ne, List.length_set, ne_eq, Nat.reduceEqDiff, Nat.reduceLT, not_false_eq_true]) (by simp only [hlen, h3, gs_self, gs_ne, List.length_set, ne_eq, Nat.reduceEqDiff, Nat.reduceLT, not_false_eq_true]) (by simp only [hlen, h10, gs_self, gs_ne, List.length_set, ne_eq, Nat.reduceEqDiff, Nat.reduceLT, not_false_eq_true]) (by simp only [hlen, h12, gs_self, gs_ne, List.length_set, ne_eq, Nat.reduceEqDiff, Nat.reduceLT, not_false_eq_true]) (by simp only [hlen, h13, gs_self, gs_ne, List.length_set, ne_eq, Nat.reduceEqDiff, Nat.reduceLT, not_false_eq_true]) hio rb hiv rx
      subst he
      have z0 := hk 0 (by simp)
      have z3 := hk 3 (by simp)
      have z10 := hk 10 (by simp)
      have z11 := hk 11 (by simp)
      have z13 := hk 13 (by simp)
      simp only [hlen, h13, gs_self, gs_ne, List.length_set, ne_eq, Nat.reduceEqDiff, Nat.reduceLT, not_false_eq_true] at z0 z3 z10 z11 z13
      simp -implicitDefEqProofs only [hl1, z13, hw, ↓EvC_seq, ↓EvC_skip, ↓EvC_exit, ↓EvC_ret, ↓EvC_block, ↓EvC_cond, ↓ev_region, ↓runL_cons, ↓runL_nil, ↓stepO_none, ↓stepO_guard, ↓aop_move, ↓aop_assign, ↓aop_load, ↓aop_store, ↓aop_alloc, ↓aop_box, ↓aop_nilCheck, ↓aop_fieldAddr, ↓aop_field, ↓aop_indexAddr, ↓aop_binOp, ↓aop_pick, ↓aop_extract, ↓aop_buildSlice, ↓aop_slice, ↓aop_not, ↓aop_call, ↓callA_len, ↓callA_append, ev_tmp, ev_const, ofV_int, ofV_bool, ofV_str, ofV_nilSlice, ofV_nilPtr, putA_some, putA_none, gs_self, gs_ne, List.length_set, Option.bind_some, Option.map_some, intBinA, evL, evO, evP, ne_eq, not_false_eq_true, if_true, if_false, reduceCtorEq, ite_true, ite_false, reduceIte, put_app, AV.cells, and_true, true_and, and_self, decide_true, decide_false, ↓yielded_eq, yv_some, boolOf_bool, List.getElem?_toArray, List.getElem?_cons_zero, List.getElem?_cons_succ, Nat.reduceLT, Nat.reduceEqDiff, beq_self_eq_true, Option.some_beq_some, wr_app, wr_app0, rd_app, rd_app0, rdL_here, rdL_next, wrL_here, wrL_next, spl, List.all_cons, List.all_nil, AV.one, Bool.and_self, Bool.true_and, List.drop_zero, List.take_succ_cons, List.take_zero, List.drop_succ_cons, List.head?_cons, Nat.reduceAdd, Nat.reduceLeDiff, List.length_cons, List.length_nil, List.nil_append, List.cons_append, List.set_cons_zero, List.set_cons_succ, Int.toNat_natCast, Nat.add_zero, b_ft, b_tf, Bool.false_eq_true]
      refine ⟨_, rfl, by simp only [List.length_set, hl1], by simp only [hl1, g12, gs_self, gs_ne, List.length_set, ne_eq, Nat.reduceEqDiff, Nat.reduceLT, not_false_eq_true], by simp only [hl1, gs_self, gs_ne, List.length_set, ne_eq, Nat.reduceEqDiff, Nat.reduceLT, not_false_eq_true], fun t ht => ?_⟩
      simp only [List.mem_cons, List.not_mem_nil, or_false] at ht
      rcases ht with rfl | rfl | rfl | rfl <;> simp only [hl1, z0, z3, z10, z11, gs_self, gs_ne, List.length_set, ne_eq, Nat.reduceEqDiff, Nat.reduceLT, not_false_eq_true]

    obtain ⟨tm1, he, hl1, g12, g13, hk⟩ := key
    obtain ⟨tm', he2, hl', h12', hk'⟩ := ih (i + 1) tm1 _ (by omega) (by omega) hl1 ((hk 0 (by simp)).trans h0) ((hk 3 (by simp)).trans h3) ((hk 10 (by simp)).trans h10) g12 g13
    exact ⟨tm', he.trans he2, hl', by rw [h12', hdl, List.any_cons, Bool.or_assoc], fun t ht => (hk' t ht).trans (hk t ht)⟩
theorem pm_loop' {H : AH} {v ov : AV} {O : List (E6 × E6)} {k ie ke : Nat} {x : E6} {tm : List AV} {X : Option (AExit × St)} (hX : EvC Try.prog C5 l7_1 (tm, H) = X) (hn : O.length < 2 ^ 62) (ho : RRow H ov O) (hiv : indexAddrA Try.prog 22 v (I k) = some (.ptr ie ke)) (rx : rdCells H ie ke 5 = some [I x.sp, I x.bl, I x.ce, I x.th, I x.ki])
    (hlen : tm.length = 150) (h0 : tm.getD 0 undefA = v) (h3 : tm.getD 3 undefA = ov) (h10 : tm.getD 10 undefA = I k) (h12 : tm.getD 12 undefA = .bool false) (h13 : tm.getD 13 undefA = I ((0 : Nat) : Int)) :
    ∃ tm', X = some (.exit 6, (tm', H)) ∧ tm'.length = 150 ∧ tm'.getD 12 undefA = .bool (O.any fun p => p.2.same x) ∧ (∀ t ∈ [0, 3, 10, 11], tm'.getD t undefA = tm.getD t undefA) := by
  subst hX
  have := pm_loop hn ho hiv rx O.length 0 tm false (by omega) (by omega) hlen h0 h3 h10 h12 h13
  rw [List.drop_zero, Bool.false_or] at this
  exact this

theorem pi_loop {H : AH} {v ov : AV} {l : List E6} {k : Nat} {x : E6} (hv : EvS H v l) (hl : l.length < 2 ^ 30) (ho : RRow H ov (findS l)) (hon : (findS l).length ≤ l.length) (hx : l[k]? = some x) : ∀ (d i : Nat) (tm : List AV), k - i = d → i ≤ k →
    tm.length = 150 → tm.getD 0 undefA = v → tm.getD 3 undefA = ov → tm.getD 10 undefA = I k → tm.getD 11 undefA = I i →
    ∃ tm', EvC Try.prog C5 l7_2 (tm, H) = some (.exit 4, (tm', H)) ∧ tm'.length = 150 ∧ (∀ t ∈ [0, 3, 10], tm'.getD t undefA = tm.getD t undefA) := by
  have hkl := lt_of_get hx
  obtain ⟨ie, ke, hiv, rx⟩ := hv.evs.ix k x hx
  have rx5 : rdCells H ie ke 5 = some [I x.sp, I x.bl, I x.ce, I x.th, I x.ki] := by have := rd5 rx []; rwa [List.append_nil] at this
  intro d
  induction d with
  | zero =>
    intro i tm hd hi hlen h0 h3 h10 h11
    obtain rfl : i = k := by omega
    have hlt : decide ((i : Int) < (i : Int)) = false := by simp
    rw [el7_2]
    simp -implicitDefEqProofs only [b7_2, atPath, Try.f7, Option.getD_some, hlen, h10, h11, hlt, ↓EvC_seq, ↓EvC_skip, ↓EvC_exit, ↓EvC_ret, ↓EvC_block, ↓EvC_cond, ↓ev_region, ↓runL_cons, ↓runL_nil, ↓stepO_none, ↓stepO_guard, ↓aop_move, ↓aop_assign, ↓aop_load, ↓aop_store, ↓aop_alloc, ↓aop_box, ↓aop_nilCheck, ↓aop_fieldAddr, ↓aop_field, ↓aop_indexAddr, ↓aop_binOp, ↓aop_pick, ↓aop_extract, ↓aop_buildSlice, ↓aop_slice, ↓aop_not, ↓aop_call, ↓callA_len, ↓callA_append, ev_tmp, ev_const, ofV_int, ofV_bool, ofV_str, ofV_nilSlice, ofV_nilPtr, putA_some, putA_none, gs_self, gs_ne, List.length_set, Option.bind_some, Option.map_some, intBinA, evL, evO, evP, ne_eq, not_false_eq_true, if_true, if_false, reduceCtorEq, ite_true, ite_false, reduceIte, put_app, AV.cells, and_true, true_and, and_self, decide_true, decide_false, ↓yielded_eq, yv_some, boolOf_bool, List.getElem?_toArray, List.getElem?_cons_zero, List.getElem?_cons_succ, Nat.reduceLT, Nat.reduceEqDiff, beq_self_eq_true, Option.some_beq_some, wr_app, wr_app0, rd_app, rd_app0, rdL_here, rdL_next, wrL_here, wrL_next, spl, List.all_cons, List.all_nil, AV.one, Bool.and_self, Bool.true_and, List.drop_zero, List.take_succ_cons, List.take_zero, List.drop_succ_cons, List.head?_cons, Nat.reduceAdd, Nat.reduceLeDiff, List.length_cons, List.length_nil, List.nil_append, List.cons_append, List.set_cons_zero, List.set_cons_succ, Int.toNat_natCast, Nat.add_zero, b_ft, b_tf, Bool.false_eq_true]
    refine ⟨_, rfl, by simp only [List.length_set, hlen], fun t ht => ?_⟩
    simp only [List.mem_cons, List.not_mem_nil, or_false] at ht
    rcases ht with rfl | rfl | rfl <;> simp only [hlen, gs_self, gs_ne, List.length_set, ne_eq, Nat.reduceEqDiff, Nat.reduceLT, not_false_eq_true]

  | succ d ih =>
    intro i tm hd hi hlen h0 h3 h10 h11
    obtain ⟨y, hy⟩ : ∃ y, l[i]? = some y := ⟨_, List.getElem?_eq_getElem (by omega)⟩
    obtain ⟨iy, ky, hiy, ry⟩ := hv.evs.ix i y hy
    have hlt : decide ((i : Int) < (k : Int)) = true := by simp; omega
    have hw : IntKind.i64.wrap ((i : Int) + 1) = ((i + 1 : Nat) : Int) := by rw [IntWalk.i64_in _ (by omega)]; omega
    have key : ∃ tm1, EvC Try.prog C5 l7_2 (tm, H) = EvC Try.prog C5 l7_2 (tm1, H) ∧ tm1.length = 150 ∧ tm1.getD 11 undefA = I ((i + 1 : Nat) : Int) ∧ (∀ t ∈ [0, 3, 10], tm1.getD t undefA = tm.getD t undefA) := by
      rw [el7_2]
      simp -implicitDefEqProofs only [b7_2, atPath, Try.f7, Option.getD_some, hlen, h10, h11, hlt, ↓EvC_seq, ↓EvC_skip, ↓EvC_exit, ↓EvC_ret, ↓EvC_block, ↓EvC_cond, ↓ev_region, ↓runL_cons, ↓runL_nil, ↓stepO_none, ↓stepO_guard, ↓aop_move, ↓aop_assign, ↓aop_load, ↓aop_store, ↓aop_alloc, ↓aop_box, ↓aop_nilCheck, ↓aop_fieldAddr, ↓aop_field, ↓aop_indexAddr, ↓aop_binOp, ↓aop_pick, ↓aop_extract, ↓aop_buildSlice, ↓aop_slice, ↓aop_not, ↓aop_call, ↓callA_len, ↓callA_append, ev_tmp, ev_const, ofV_int, ofV_bool, ofV_str, ofV_nilSlice, ofV_nilPtr, putA_some, putA_none, gs_self, gs_ne, List.length_set, Option.bind_some, Option.map_some, intBinA, evL, evO, evP, ne_eq, not_false_eq_true, if_true, if_false, reduceCtorEq, ite_true, ite_false, reduceIte, put_app, AV.cells, and_true, true_and, and_self, decide_true, decide_false, ↓yielded_eq, yv_some, boolOf_bool, List.getElem?_toArray, List.getElem?_cons_zero, List.getElem?_cons_succ, Nat.reduceLT, Nat.reduceEqDiff, beq_self_eq_true, Option.some_beq_some, wr_app, wr_app0, rd_app, rd_app0, rdL_here, rdL_next, wrL_here, wrL_next, spl, List.all_cons, List.all_nil, AV.one, Bool.and_self, Bool.true_and, List.drop_zero, List.take_succ_cons, List.take_zero, List.drop_succ_cons, List.head?_cons, Nat.reduceAdd, Nat.reduceLeDiff, List.length_cons, List.length_nil, List.nil_append, List.cons_append, List.set_cons_zero, List.set_cons_succ, Int.toNat_natCast, Nat.add_zero, b_ft, b_tf, Bool.false_eq_true]
      generalize hX : EvC Try.prog C5 (Code.region 18 _ true) _ = X
      obtain ⟨tm1, he, hl1, g126, hk⟩ := reg7_18' (y := y) (x := x) (i := i) (k := k) (v := v) hX (by simp only [List.length_set, hlen]) (by simp only [hlen, h0, gs_self, gs_ne, List.length_set, ne_eq, Nat.reduceEqDiff, Nat.reduceLT, not_false_eq_true]) (by simp only [hlen, h10, gs_self, gs_ne, List.length_set, ne_eq, Nat.reduceEqDiff, Nat.reduceLT, not_false_eq_true]) (by simp only [hlen, h11, gs_self, gs_ne, List.length_set, ne_eq, Nat.reduceEqDiff, Nat.reduceLT, not_false_eq_true]) hiy ry hiv rx
      subst he
      have z0 := hk 0 (by simp)
      have z3 := hk 3 (by simp)
      have z10 := hk 10 (by simp)
      have z11 := hk 11 (by simp)
      simp only [hlen, h11, gs_self, gs_ne, List.length_set, ne_eq, Nat.reduceEqDiff, Nat.reduceLT, not_false_eq_true] at z0 z3 z10 z11
      cases hr : y.race x
      · rw [hr] at g126
        simp -implicitDefEqProofs only [hl1, g126, z11, hw, Bool.not_false, ↓EvC_seq, ↓EvC_skip, ↓EvC_exit, ↓EvC_ret, ↓EvC_block, ↓EvC_cond, ↓ev_region, ↓runL_cons, ↓runL_nil, ↓stepO_none, ↓stepO_guard, ↓aop_move, ↓aop_assign, ↓aop_load, ↓aop_store, ↓aop_alloc, ↓aop_box, ↓aop_nilCheck, ↓aop_fieldAddr, ↓aop_field, ↓aop_indexAddr, ↓aop_binOp, ↓aop_pick, ↓aop_extract, ↓aop_buildSlice, ↓aop_slice, ↓aop_not, ↓aop_call, ↓callA_len, ↓callA_append, ev_tmp, ev_const, ofV_int, ofV_bool, ofV_str, ofV_nilSlice, ofV_nilPtr, putA_some, putA_none, gs_self, gs_ne, List.length_set, Option.bind_some, Option.map_some, intBinA, evL, evO, evP, ne_eq, not_false_eq_true, if_true, if_false, reduceCtorEq, ite_true, ite_false, reduceIte, put_app, AV.cells, and_true, true_and, and_self, decide_true, decide_false, ↓yielded_eq, yv_some, boolOf_bool, List.getElem?_toArray, List.getElem?_cons_zero, List.getElem?_cons_succ, Nat.reduceLT, Nat.reduceEqDiff, beq_self_eq_true, Option.some_beq_some, wr_app, wr_app0, rd_app, rd_app0, rdL_here, rdL_next, wrL_here, wrL_next, spl, List.all_cons, List.all_nil, AV.one, Bool.and_self, Bool.true_and, List.drop_zero, List.take_succ_cons, List.take_zero, List.drop_succ_cons, List.head?_cons, Nat.reduceAdd, Nat.reduceLeDiff, List.length_cons, List.length_nil, List.nil_append, List.cons_append, List.set_cons_zero, List.set_cons_succ, Int.toNat_natCast, Nat.add_zero, b_ft, b_tf, Bool.false_eq_true]
        refine ⟨_, rfl, by simp only [List.length_set, hl1], by simp only [hl1, gs_self, gs_ne, List.length_set, ne_eq, Nat.reduceEqDiff, Nat.reduceLT, not_false_eq_true], fun t ht => ?_⟩
        simp only [List.mem_cons, List.not_mem_nil, or_false] at ht
        rcases ht with rfl | rfl | rfl <;> simp only [hl1, z0, z3, z10, gs_self, gs_ne, List.length_set, ne_eq, Nat.reduceEqDiff, Nat.reduceLT, not_false_eq_true]

      · rw [hr] at g126
        simp -implicitDefEqProofs only [hl1, g126, Bool.not_true, ↓EvC_seq, ↓EvC_skip, ↓EvC_exit, ↓EvC_ret, ↓EvC_block, ↓EvC_cond, ↓ev_region, ↓runL_cons, ↓runL_nil, ↓stepO_none, ↓stepO_guard, ↓aop_move, ↓aop_assign, ↓aop_load, ↓aop_store, ↓aop_alloc, ↓aop_box, ↓aop_nilCheck, ↓aop_fieldAddr, ↓aop_field, ↓aop_indexAddr, ↓aop_binOp, ↓aop_pick, ↓aop_extract, ↓aop_buildSlice, ↓aop_slice, ↓aop_not, ↓aop_call, ↓callA_len, ↓callA_append, ev_tmp, ev_const, ofV_int, ofV_bool, ofV_str, ofV_nilSlice, ofV_nilPtr, putA_some, putA_none, gs_self, gs_ne, List.length_set, Option.bind_some, Option.map_some, intBinA, evL, evO, evP, ne_eq, not_false_eq_true, if_true, if_false, reduceCtorEq, ite_true, ite_false, reduceIte, put_app, AV.cells, and_true, true_and, and_self, decide_true, decide_false, ↓yielded_eq, yv_some, boolOf_bool, List.getElem?_toArray, List.getElem?_cons_zero, List.getElem?_cons_succ, Nat.reduceLT, Nat.reduceEqDiff, beq_self_eq_true, Option.some_beq_some, wr_app, wr_app0, rd_app, rd_app0, rdL_here, rdL_next, wrL_here, wrL_next, spl, List.all_cons, List.all_nil, AV.one, Bool.and_self, Bool.true_and, List.drop_zero, List.take_succ_cons, List.take_zero, List.drop_succ_cons, List.head?_cons, Nat.reduceAdd, Nat.reduceLeDiff, List.length_cons, List.length_nil, List.nil_append, List.cons_append, List.set_cons_zero, List.set_cons_succ, Int.toNat_natCast, Nat.add_zero, b_ft, b_tf, Bool.false_eq_true]
        generalize hX : EvC Try.prog C5 (Code.loop _) _ = X
        obtain ⟨tm2, he, hl2, g12, hk2⟩ := pm_loop' (k := k) (v := v) (ov := ov) hX (by omega) ho hiv rx5 (by simp only [List.length_set, hl1]) (by simp only [hl1, z0, h0, gs_self, gs_ne, List.length_set, ne_eq, Nat.reduceEqDiff, Nat.reduceLT, not_false_eq_true]) (by simp only [hl1, z3, h3, gs_self, gs_ne, List.length_set, ne_eq, Nat.reduceEqDiff, Nat.reduceLT, not_false_eq_true]) (by simp only [hl1, z10, h10, gs_self, gs_ne, List.length_set, ne_eq, Nat.reduceEqDiff, Nat.reduceLT, not_false_eq_true]) (by simp only [hl1, gs_self, gs_ne, List.length_set, ne_eq, Nat.reduceEqDiff, Nat.reduceLT, not_false_eq_true]) (by simp only [hl1, gs_self, gs_ne, List.length_set, ne_eq, Nat.reduceEqDiff, Nat.reduceLT, not_false_eq_true] <;> rfl)
        subst he
        rw [pairs_met l (by omega : i < k) hy hx hr] at g12
        have y0 := hk2 0 (by simp)
        have y3 := hk2 3 (by simp)
        have y10 := hk2 10 (by simp)
        have y11 := hk2 11 (by simp)
        simp only [hl1, z0, z3, z10, z11, gs_self, gs_ne, List.length_set, ne_eq, Nat.reduceEqDiff, Nat.reduceLT, not_false_eq_true] at y0 y3 y10 y11
        simp -implicitDefEqProofs only [hl2, g12, y11, hw, Bool.not_true, ↓EvC_seq, ↓EvC_skip, ↓EvC_exit, ↓EvC_ret, ↓EvC_block, ↓EvC_cond, ↓ev_region, ↓runL_cons, ↓runL_nil, ↓stepO_none, ↓stepO_guard, ↓aop_move, ↓aop_assign, ↓aop_load, ↓aop_store, ↓aop_alloc, ↓aop_box, ↓aop_nilCheck, ↓aop_fieldAddr, ↓aop_field, ↓aop_indexAddr, ↓aop_binOp, ↓aop_pick, ↓aop_extract, ↓aop_buildSlice, ↓aop_slice, ↓aop_not, ↓aop_call, ↓callA_len, ↓callA_append, ev_tmp, ev_const, ofV_int, ofV_bool, ofV_str, ofV_nilSlice, ofV_nilPtr, putA_some, putA_none, gs_self, gs_ne, List.length_set, Option.bind_some, Option.map_some, intBinA, evL, evO, evP, ne_eq, not_false_eq_true, if_true, if_false, reduceCtorEq, ite_true, ite_false, reduceIte, put_app, AV.cells, and_true, true_and, and_self, decide_true, decide_false, ↓yielded_eq, yv_some, boolOf_bool, List.getElem?_toArray, List.getElem?_cons_zero, List.getElem?_cons_succ, Nat.reduceLT, Nat.reduceEqDiff, beq_self_eq_true, Option.some_beq_some, wr_app, wr_app0, rd_app, rd_app0, rdL_here, rdL_next, wrL_here, wrL_next, spl, List.all_cons, List.all_nil, AV.one, Bool.and_self, Bool.true_and, List.drop_zero, List.take_succ_cons, List.take_zero, List.drop_succ_cons, List.head?_cons, Nat.reduceAdd, Nat.reduceLeDiff, List.length_cons, List.length_nil, List.nil_append, List.cons_append, List.set_cons_zero, List.set_cons_succ, Int.toNat_natCast, Nat.add_zero, b_ft, b_tf, Bool.false_eq_true]
        refine ⟨_, rfl, by simp only [List.length_set, hl2], by simp only [hl2, gs_self, gs_ne, List.length_set, ne_eq, Nat.reduceEqDiff, Nat.reduceLT, not_false_eq_true], fun t ht => ?_⟩
        simp only [List.mem_cons, List.not_mem_nil, or_false] at ht
        rcases ht with rfl | rfl | rfl <;> simp only [hl2, y0, y3, y10, gs_self, gs_ne, List.length_set, ne_eq, Nat.reduceEqDiff, Nat.reduceLT, not_false_eq_true]

    obtain ⟨tm1, he, hl1, g11, hk⟩ := key
    obtain ⟨tm', he2, hl', hk'⟩ := ih (i + 1) tm1 (by omega) (by omega) hl1 ((hk 0 (by simp)).trans h0) ((hk 3 (by simp)).trans h3) ((hk 10 (by simp)).trans h10) g11
    exact ⟨tm', he.trans he2, hl', fun t ht => (hk' t ht).trans (hk t ht)⟩
theorem pi_loop' {H : AH} {v ov : AV} {l : List E6} {k : Nat} {x : E6} {tm : List AV} {X : Option (AExit × St)} (hX : EvC Try.prog C5 l7_2 (tm, H) = X) (hv : EvS H v l) (hl : l.length < 2 ^ 30) (ho : RRow H ov (findS l)) (hon : (findS l).length ≤ l.length) (hx : l[k]? = some x)
    (hlen : tm.length = 150) (h0 : tm.getD 0 undefA = v) (h3 : tm.getD 3 undefA = ov) (h10 : tm.getD 10 undefA = I k) (h11 : tm.getD 11 undefA = I ((0 : Nat) : Int)) : ∃ tm', X = some (.exit 4, (tm', H)) ∧ tm'.length = 150 ∧ (∀ t ∈ [0, 3, 10], tm'.getD t undefA = tm.getD t undefA) := by
  subst hX
  exact pi_loop hv hl ho hon hx _ 0 tm rfl (by omega) hlen h0 h3 h10 h11

theorem pk_loop {H : AH} {v ov : AV} {l : List E6} (hv : EvS H v l) (hl : l.length < 2 ^ 30) (ho : RRow H ov (findS l)) (hon : (findS l).length ≤ l.length) : ∀ (d k : Nat) (tm : List AV), l.length - k = d → k ≤ l.length →
    tm.length = 150 → tm.getD 0 undefA = v → tm.getD 3 undefA = ov → tm.getD 10 undefA = I k →
    ∃ tm', EvC Try.prog C5 l7_3 (tm, H) = some (.exit 2, (tm', H)) ∧ tm'.length = 150 := by
  have hla := hv.evs.len
  intro d
  induction d with
  | zero =>
    intro k tm hd hk hlen h0 h3 h10
    obtain rfl : k = l.length := by omega
    have hlt : decide ((l.length : Int) < (l.length : Int)) = false := by simp
    rw [el7_3]
    simp -implicitDefEqProofs only [b7_3, atPath, Try.f7, Option.getD_some, hlen, h0, h10, hla, hlt, ↓EvC_seq, ↓EvC_skip, ↓EvC_exit, ↓EvC_ret, ↓EvC_block, ↓EvC_cond, ↓ev_region, ↓runL_cons, ↓runL_nil, ↓stepO_none, ↓stepO_guard, ↓aop_move, ↓aop_assign, ↓aop_load, ↓aop_store, ↓aop_alloc, ↓aop_box, ↓aop_nilCheck, ↓aop_fieldAddr, ↓aop_field, ↓aop_indexAddr, ↓aop_binOp, ↓aop_pick, ↓aop_extract, ↓aop_buildSlice, ↓aop_slice, ↓aop_not, ↓aop_call, ↓callA_len, ↓callA_append, ev_tmp, ev_const, ofV_int, ofV_bool, ofV_str, ofV_nilSlice, ofV_nilPtr, putA_some, putA_none, gs_self, gs_ne, List.length_set, Option.bind_some, Option.map_some, intBinA, evL, evO, evP, ne_eq, not_false_eq_true, if_true, if_false, reduceCtorEq, ite_true, ite_false, reduceIte, put_app, AV.cells, and_true, true_and, and_self, decide_true, decide_false, ↓yielded_eq, yv_some, boolOf_bool, List.getElem?_toArray, List.getElem?_cons_zero, List.getElem?_cons_succ, Nat.reduceLT, Nat.reduceEqDiff, beq_self_eq_true, Option.some_beq_some, wr_app, wr_app0, rd_app, rd_app0, rdL_here, rdL_next, wrL_here, wrL_next, spl, List.all_cons, List.all_nil, AV.one, Bool.and_self, Bool.true_and, List.drop_zero, List.take_succ_cons, List.take_zero, List.drop_succ_cons, List.head?_cons, Nat.reduceAdd, Nat.reduceLeDiff, List.length_cons, List.length_nil, List.nil_append, List.cons_append, List.set_cons_zero, List.set_cons_succ, Int.toNat_natCast, Nat.add_zero, b_ft, b_tf, Bool.false_eq_true]
    exact ⟨_, rfl, by simp only [List.length_set, hlen]⟩
  | succ d ih =>
    intro k tm hd hk hlen h0 h3 h10
    obtain ⟨x, hx⟩ : ∃ x, l[k]? = some x := ⟨_, List.getElem?_eq_getElem (by omega)⟩
    have hlt : decide ((k : Int) < (l.length : Int)) = true := by simp; omega
    have hw : IntKind.i64.wrap ((k : Int) + 1) = ((k + 1 : Nat) : Int) := by rw [IntWalk.i64_in _ (by omega)]; omega
    have key : ∃ tm1, EvC Try.prog C5 l7_3 (tm, H) = EvC Try.prog C5 l7_3 (tm1, H) ∧ tm1.length = 150 ∧ tm1.getD 10 undefA = I ((k + 1 : Nat) : Int) ∧ tm1.getD 0 undefA = v ∧ tm1.getD 3 undefA = ov := by
      rw [el7_3]
      simp -implicitDefEqProofs only [b7_3, atPath, Try.f7, Option.getD_some, hlen, h0, h10, hla, hlt, ↓EvC_seq, ↓EvC_skip, ↓EvC_exit, ↓EvC_ret, ↓EvC_block, ↓EvC_cond, ↓ev_region, ↓runL_cons, ↓runL_nil, ↓stepO_none, ↓stepO_guard, ↓aop_move, ↓aop_assign, ↓aop_load, ↓aop_store, ↓aop_alloc, ↓aop_box, ↓aop_nilCheck, ↓aop_fieldAddr, ↓aop_field, ↓aop_indexAddr, ↓aop_binOp, ↓aop_pick, ↓aop_extract, ↓aop_buildSlice, ↓aop_slice, ↓aop_not, ↓aop_call, ↓callA_len, ↓callA_append, ev_tmp, ev_const, ofV_int, ofV_bool, ofV_str, ofV_nilSlice, ofV_nilPtr, putA_some, putA_none, gs_self, gs_ne, List.length_set, Option.bind_some, Option.map_some, intBinA, evL, evO, evP, ne_eq, not_false_eq_true, if_true, if_false, reduceCtorEq, ite_true, ite_false, reduceIte, put_app, AV.cells, and_true, true_and, and_self, decide_true, decide_false, ↓yielded_eq, yv_some, boolOf_bool, List.getElem?_toArray, List.getElem?_cons_zero, List.getElem?_cons_succ, Nat.reduceLT, Nat.reduceEqDiff, beq_self_eq_true, Option.some_beq_some, wr_app, wr_app0, rd_app, rd_app0, rdL_here, rdL_next, wrL_here, wrL_next, spl, List.all_cons, List.all_nil, AV.one, Bool.and_self, Bool.true_and, List.drop_zero, List.take_succ_cons, List.take_zero, List.drop_succ_cons, List.head?_cons, Nat.reduceAdd, Nat.reduceLeDiff, List.length_cons, List.length_nil, List.nil_append, List.cons_append, List.set_cons_zero, List.set_cons_succ, Int.toNat_natCast, Nat.add_zero, b_ft, b_tf, Bool.false_eq_true]
      generalize hX : EvC Try.prog C5 (Code.loop _) _ = X
      obtain ⟨tm1, he, hl1, hk1⟩ := pi_loop' (k := k) (v := v) (ov := ov) hX hv hl ho hon hx (by simp only [List.length_set, hlen]) (by simp only [hlen, h0, gs_self, gs_ne, List.length_set, ne_eq, Nat.reduceEqDiff, Nat.reduceLT, not_false_eq_true]) (by simp only [hlen, h3, gs_self, gs_ne, List.length_set, ne_eq, Nat.reduceEqDiff, Nat.reduceLT, not_false_eq_true]) (by simp only [hlen, h10, gs_self, gs_ne, List.length_set, ne_eq, Nat.reduceEqDiff, Nat.reduceLT, not_false_eq_true]) (by simp only [hlen, gs_self, gs_ne, List.length_set, ne_eq, Nat.reduceEqDiff, Nat.reduceLT, not_false_eq_true] <;> rfl)
      subst he
      have z0 := hk1 0 (by simp)
      have z3 := hk1 3 (by simp)
      have z10 := hk1 10 (by simp)
      simp only [hlen, h0, h3, h10, gs_self, gs_ne, List.length_set, ne_eq, Nat.reduceEqDiff, Nat.reduceLT, not_false_eq_true] at z0 z3 z10
      simp -implicitDefEqProofs only [hl1, z10, hw, ↓EvC_seq, ↓EvC_skip, ↓EvC_exit, ↓EvC_ret, ↓EvC_block, ↓EvC_cond, ↓ev_region, ↓runL_cons, ↓runL_nil, ↓stepO_none, ↓stepO_guard, ↓aop_move, ↓aop_assign, ↓aop_load, ↓aop_store, ↓aop_alloc, ↓aop_box, ↓aop_nilCheck, ↓aop_fieldAddr, ↓aop_field, ↓aop_indexAddr, ↓aop_binOp, ↓aop_pick, ↓aop_extract, ↓aop_buildSlice, ↓aop_slice, ↓aop_not, ↓aop_call, ↓callA_len, ↓callA_append, ev_tmp, ev_const, ofV_int, ofV_bool, ofV_str, ofV_nilSlice, ofV_nilPtr, putA_some, putA_none, gs_self, gs_ne, List.length_set, Option.bind_some, Option.map_some, intBinA, evL, evO, evP, ne_eq, not_false_eq_true, if_true, if_false, reduceCtorEq, ite_true, ite_false, reduceIte, put_app, AV.cells, and_true, true_and, and_self, decide_true, decide_false, ↓yielded_eq, yv_some, boolOf_bool, List.getElem?_toArray, List.getElem?_cons_zero, List.getElem?_cons_succ, Nat.reduceLT, Nat.reduceEqDiff, beq_self_eq_true, Option.some_beq_some, wr_app, wr_app0, rd_app, rd_app0, rdL_here, rdL_next, wrL_here, wrL_next, spl, List.all_cons, List.all_nil, AV.one, Bool.and_self, Bool.true_and, List.drop_zero, List.take_succ_cons, List.take_zero, List.drop_succ_cons, List.head?_cons, Nat.reduceAdd, Nat.reduceLeDiff, List.length_cons, List.length_nil, List.nil_append, List.cons_append, List.set_cons_zero, List.set_cons_succ, Int.toNat_natCast, Nat.add_zero, b_ft, b_tf, Bool.false_eq_true]
      exact ⟨_, rfl, by simp only [List.length_set, hl1], by simp only [hl1, gs_self, gs_ne, List.length_set, ne_eq, Nat.reduceEqDiff, Nat.reduceLT, not_false_eq_true], by simp only [hl1, z0, gs_self, gs_ne, List.length_set, ne_eq, Nat.reduceEqDiff, Nat.reduceLT, not_false_eq_true], by simp only [hl1, z3, gs_self, gs_ne, List.length_set, ne_eq, Nat.reduceEqDiff, Nat.reduceLT, not_false_eq_true]⟩
    obtain ⟨tm1, he, hl1, g10, q0, q3⟩ := key
    obtain ⟨tm', he2, hl'⟩ := ih (k + 1) tm1 (by omega) (by omega) hl1 q0 q3 g10
    exact ⟨tm', he.trans he2, hl'⟩
theorem pk_loop' {H : AH} {v ov : AV} {l : List E6} {tm : List AV} {X : Option (AExit × St)} (hX : EvC Try.prog C5 l7_3 (tm, H) = X) (hv : EvS H v l) (hl : l.length < 2 ^ 30) (ho : RRow H ov (findS l)) (hon : (findS l).length ≤ l.length)
    (hlen : tm.length = 150) (h0 : tm.getD 0 undefA = v) (h3 : tm.getD 3 undefA = ov) (h10 : tm.getD 10 undefA = I ((0 : Nat) : Int)) : ∃ tm', X = some (.exit 2, (tm', H)) ∧ tm'.length = 150 := by
  subst hX
  exact pk_loop hv hl ho hon _ 0 tm rfl (by omega) hlen h0 h3 h10

theorem law7_ev (H : AH) (v : AV) (l : List E6) (hl : l.length < 2 ^ 62) (hv : EvS H v l) : ∃ H', Ev Try.prog C5 7 [v] H = some (.bool true, H') := by
  have g0 : ([v] ++ List.replicate (150 - [v].length) undefA).length = 150 := by simp
  have g1 : ([v] ++ List.replicate (150 - [v].length) undefA).getD 0 undefA = v := rfl
  have hla := hv.evs.len
  have e0 := k5_ref_valid hv.evs hl
  rw [fe7]
  generalize [v] ++ List.replicate (150 - [v].length) undefA = tm at *
  cases hb : (decide ((l.length : Int) ≤ 4000) && !(l.any E6.bad))
  · rw [hb] at e0
    apply Exists.intro
    simp -implicitDefEqProofs only [c7, Try.f7, Option.getD_some, g0, g1, hla, e0, k5_awake, ↓fc15, ↓fc17, Bool.not_true, Bool.not_false, Bool.true_and, Bool.and_true, Bool.false_and, Bool.and_false, Bool.true_or, Bool.or_true, Bool.false_or, Bool.or_false, cond_true, cond_false, boolOf_undef, nb, beq_self_eq_true, Bool.and_self, z_e1, z_e0, z_n0, ↓EvC_seq, ↓EvC_skip, ↓EvC_exit, ↓EvC_ret, ↓EvC_block, ↓EvC_cond, ↓ev_region, ↓runL_cons, ↓runL_nil, ↓stepO_none, ↓stepO_guard, ↓aop_move, ↓aop_assign, ↓aop_load, ↓aop_store, ↓aop_alloc, ↓aop_box, ↓aop_nilCheck, ↓aop_fieldAddr, ↓aop_field, ↓aop_indexAddr, ↓aop_binOp, ↓aop_pick, ↓aop_extract, ↓aop_buildSlice, ↓aop_slice, ↓aop_not, ↓aop_call, ↓callA_len, ↓callA_append, ev_tmp, ev_const, ofV_int, ofV_bool, ofV_str, ofV_nilSlice, ofV_nilPtr, putA_some, putA_none, gs_self, gs_ne, List.length_set, Option.bind_some, Option.map_some, intBinA, evL, evO, evP, ne_eq, not_false_eq_true, if_true, if_false, reduceCtorEq, ite_true, ite_false, reduceIte, put_app, AV.cells, and_true, true_and, and_self, decide_true, decide_false, ↓yielded_eq, yv_some, boolOf_bool, List.getElem?_toArray, List.getElem?_cons_zero, List.getElem?_cons_succ, Nat.reduceLT, Nat.reduceEqDiff, beq_self_eq_true, Option.some_beq_some, wr_app, wr_app0, rd_app, rd_app0, rdL_here, rdL_next, wrL_here, wrL_next, spl, List.all_cons, List.all_nil, AV.one, Bool.and_self, Bool.true_and, List.drop_zero, List.take_succ_cons, List.take_zero, List.drop_succ_cons, List.head?_cons, Nat.reduceAdd, Nat.reduceLeDiff, List.length_cons, List.length_nil, List.nil_append, List.cons_append, List.set_cons_zero, List.set_cons_succ, Int.toNat_natCast, Nat.add_zero, b_ft, b_tf, Bool.false_eq_true]
    with_reducible rfl
  · rw [hb] at e0
    cases h4 : decide ((l.length : Int) > 150)
    · have h4000 : l.length ≤ 4000 := by simp at hb; omega
      have hval : (!(decide ((l.length : Int) > 4000)) && !(l.any E6.bad)) = true := by rw [← hb]; congr 1; rw [Bool.eq_iff_iff]; simp
      obtain ⟨H1, ov, k1, n1, good, _⟩ := find_ev hv (by omega)
      obtain ⟨r1, rl1, e1⟩ := good hval
      have e1' := k5_find e1
      have hv1 := hv.same k1
      simp -implicitDefEqProofs only [c7, Try.f7, Option.getD_some, g0, g1, hla, e0, e1', h4, k5_awake, ↓fc15, ↓fc16, ↓fc17, Bool.not_true, Bool.not_false, Bool.true_and, Bool.and_true, Bool.false_and, Bool.and_false, Bool.true_or, Bool.or_true, Bool.false_or, Bool.or_false, cond_true, cond_false, boolOf_undef, nb, beq_self_eq_true, Bool.and_self, z_e1, z_e0, z_n0, ↓EvC_seq, ↓EvC_skip, ↓EvC_exit, ↓EvC_ret, ↓EvC_block, ↓EvC_cond, ↓ev_region, ↓runL_cons, ↓runL_nil, ↓stepO_none, ↓stepO_guard, ↓aop_move, ↓aop_assign, ↓aop_load, ↓aop_store, ↓aop_alloc, ↓aop_box, ↓aop_nilCheck, ↓aop_fieldAddr, ↓aop_field, ↓aop_indexAddr, ↓aop_binOp, ↓aop_pick, ↓aop_extract, ↓aop_buildSlice, ↓aop_slice, ↓aop_not, ↓aop_call, ↓callA_len, ↓callA_append, ev_tmp, ev_const, ofV_int, ofV_bool, ofV_str, ofV_nilSlice, ofV_nilPtr, putA_some, putA_none, gs_self, gs_ne, List.length_set, Option.bind_some, Option.map_some, intBinA, evL, evO, evP, ne_eq, not_false_eq_true, if_true, if_false, reduceCtorEq, ite_true, ite_false, reduceIte, put_app, AV.cells, and_true, true_and, and_self, decide_true, decide_false, ↓yielded_eq, yv_some, boolOf_bool, List.getElem?_toArray, List.getElem?_cons_zero, List.getElem?_cons_succ, Nat.reduceLT, Nat.reduceEqDiff, beq_self_eq_true, Option.some_beq_some, wr_app, wr_app0, rd_app, rd_app0, rdL_here, rdL_next, wrL_here, wrL_next, spl, List.all_cons, List.all_nil, AV.one, Bool.and_self, Bool.true_and, List.drop_zero, List.take_succ_cons, List.take_zero, List.drop_succ_cons, List.head?_cons, Nat.reduceAdd, Nat.reduceLeDiff, List.length_cons, List.length_nil, List.nil_append, List.cons_append, List.set_cons_zero, List.set_cons_succ, Int.toNat_natCast, Nat.add_zero, b_ft, b_tf, Bool.false_eq_true]
      generalize hX : EvC Try.prog C5 (Code.loop _) _ = X
      obtain ⟨tm1, he, hl1, hk1⟩ := pa_loop' (v := v) (ov := ov) hX hv1 (by omega) hval r1.row rl1 (by simp only [List.length_set, g0]) (by simp only [g0, g1, gs_self, gs_ne, List.length_set, ne_eq, Nat.reduceEqDiff, Nat.reduceLT, not_false_eq_true]) (by simp only [g0, gs_self, gs_ne, List.length_set, ne_eq, Nat.reduceEqDiff, Nat.reduceLT, not_false_eq_true]) (by simp only [g0, gs_self, gs_ne, List.length_set, ne_eq, Nat.reduceEqDiff, Nat.reduceLT, not_false_eq_true] <;> rfl)
      subst he
      have z0 := hk1 0 (by simp)
      have z3 := hk1 3 (by simp)
      simp only [g0, g1, gs_self, gs_ne, List.length_set, ne_eq, Nat.reduceEqDiff, Nat.reduceLT, not_false_eq_true] at z0 z3
      simp -implicitDefEqProofs only [hl1, Bool.not_true, Bool.not_false, Bool.true_and, Bool.and_true, Bool.false_and, Bool.and_false, Bool.true_or, Bool.or_true, Bool.false_or, Bool.or_false, cond_true, cond_false, boolOf_undef, nb, beq_self_eq_true, Bool.and_self, z_e1, z_e0, z_n0, ↓EvC_seq, ↓EvC_skip, ↓EvC_exit, ↓EvC_ret, ↓EvC_block, ↓EvC_cond, ↓ev_region, ↓runL_cons, ↓runL_nil, ↓stepO_none, ↓stepO_guard, ↓aop_move, ↓aop_assign, ↓aop_load, ↓aop_store, ↓aop_alloc, ↓aop_box, ↓aop_nilCheck, ↓aop_fieldAddr, ↓aop_field, ↓aop_indexAddr, ↓aop_binOp, ↓aop_pick, ↓aop_extract, ↓aop_buildSlice, ↓aop_slice, ↓aop_not, ↓aop_call, ↓callA_len, ↓callA_append, ev_tmp, ev_const, ofV_int, ofV_bool, ofV_str, ofV_nilSlice, ofV_nilPtr, putA_some, putA_none, gs_self, gs_ne, List.length_set, Option.bind_some, Option.map_some, intBinA, evL, evO, evP, ne_eq, not_false_eq_true, if_true, if_false, reduceCtorEq, ite_true, ite_false, reduceIte, put_app, AV.cells, and_true, true_and, and_self, decide_true, decide_false, ↓yielded_eq, yv_some, boolOf_bool, List.getElem?_toArray, List.getElem?_cons_zero, List.getElem?_cons_succ, Nat.reduceLT, Nat.reduceEqDiff, beq_self_eq_true, Option.some_beq_some, wr_app, wr_app0, rd_app, rd_app0, rdL_here, rdL_next, wrL_here, wrL_next, spl, List.all_cons, List.all_nil, AV.one, Bool.and_self, Bool.true_and, List.drop_zero, List.take_succ_cons, List.take_zero, List.drop_succ_cons, List.head?_cons, Nat.reduceAdd, Nat.reduceLeDiff, List.length_cons, List.length_nil, List.nil_append, List.cons_append, List.set_cons_zero, List.set_cons_succ, Int.toNat_natCast, Nat.add_zero, b_ft, b_tf, Bool.false_eq_true]
      generalize hX : EvC Try.prog C5 (Code.loop _) _ = X
      obtain ⟨tm2, he, hl2⟩ := pk_loop' (v := v) (ov := ov) hX hv1 (by omega) r1.row rl1 (by simp only [List.length_set, hl1]) (by simp only [hl1, z0, gs_self, gs_ne, List.length_set, ne_eq, Nat.reduceEqDiff, Nat.reduceLT, not_false_eq_true]) (by simp only [hl1, z3, gs_self, gs_ne, List.length_set, ne_eq, Nat.reduceEqDiff, Nat.reduceLT, not_false_eq_true]) (by simp only [hl1, gs_self, gs_ne, List.length_set, ne_eq, Nat.reduceEqDiff, Nat.reduceLT, not_false_eq_true] <;> rfl)
      subst he
      apply Exists.intro
      simp -implicitDefEqProofs only [hl2, k5_awake, ↓fc15, Bool.not_true, Bool.not_false, Bool.true_and, Bool.and_true, Bool.false_and, Bool.and_false, Bool.true_or, Bool.or_true, Bool.false_or, Bool.or_false, cond_true, cond_false, boolOf_undef, nb, beq_self_eq_true, Bool.and_self, z_e1, z_e0, z_n0, ↓EvC_seq, ↓EvC_skip, ↓EvC_exit, ↓EvC_ret, ↓EvC_block, ↓EvC_cond, ↓ev_region, ↓runL_cons, ↓runL_nil, ↓stepO_none, ↓stepO_guard, ↓aop_move, ↓aop_assign, ↓aop_load, ↓aop_store, ↓aop_alloc, ↓aop_box, ↓aop_nilCheck, ↓aop_fieldAddr, ↓aop_field, ↓aop_indexAddr, ↓aop_binOp, ↓aop_pick, ↓aop_extract, ↓aop_buildSlice, ↓aop_slice, ↓aop_not, ↓aop_call, ↓callA_len, ↓callA_append, ev_tmp, ev_const, ofV_int, ofV_bool, ofV_str, ofV_nilSlice, ofV_nilPtr, putA_some, putA_none, gs_self, gs_ne, List.length_set, Option.bind_some, Option.map_some, intBinA, evL, evO, evP, ne_eq, not_false_eq_true, if_true, if_false, reduceCtorEq, ite_true, ite_false, reduceIte, put_app, AV.cells, and_true, true_and, and_self, decide_true, decide_false, ↓yielded_eq, yv_some, boolOf_bool, List.getElem?_toArray, List.getElem?_cons_zero, List.getElem?_cons_succ, Nat.reduceLT, Nat.reduceEqDiff, beq_self_eq_true, Option.some_beq_some, wr_app, wr_app0, rd_app, rd_app0, rdL_here, rdL_next, wrL_here, wrL_next, spl, List.all_cons, List.all_nil, AV.one, Bool.and_self, Bool.true_and, List.drop_zero, List.take_succ_cons, List.take_zero, List.drop_succ_cons, List.head?_cons, Nat.reduceAdd, Nat.reduceLeDiff, List.length_cons, List.length_nil, List.nil_append, List.cons_append, List.set_cons_zero, List.set_cons_succ, Int.toNat_natCast, Nat.add_zero, b_ft, b_tf, Bool.false_eq_true]
      with_reducible rfl
    · apply Exists.intro
      simp -implicitDefEqProofs only [c7, Try.f7, Option.getD_some, g0, g1, hla, e0, h4, k5_awake, ↓fc15, ↓fc17, Bool.not_true, Bool.not_false, Bool.true_and, Bool.and_true, Bool.false_and, Bool.and_false, Bool.true_or, Bool.or_true, Bool.false_or, Bool.or_false, cond_true, cond_false, boolOf_undef, nb, beq_self_eq_true, Bool.and_self, z_e1, z_e0, z_n0, ↓EvC_seq, ↓EvC_skip, ↓EvC_exit, ↓EvC_ret, ↓EvC_block, ↓EvC_cond, ↓ev_region, ↓runL_cons, ↓runL_nil, ↓stepO_none, ↓stepO_guard, ↓aop_move, ↓aop_assign, ↓aop_load, ↓aop_store, ↓aop_alloc, ↓aop_box, ↓aop_nilCheck, ↓aop_fieldAddr, ↓aop_field, ↓aop_indexAddr, ↓aop_binOp, ↓aop_pick, ↓aop_extract, ↓aop_buildSlice, ↓aop_slice, ↓aop_not, ↓aop_call, ↓callA_len, ↓callA_append, ev_tmp, ev_const, ofV_int, ofV_bool, ofV_str, ofV_nilSlice, ofV_nilPtr, putA_some, putA_none, gs_self, gs_ne, List.length_set, Option.bind_some, Option.map_some, intBinA, evL, evO, evP, ne_eq, not_false_eq_true, if_true, if_false, reduceCtorEq, ite_true, ite_false, reduceIte, put_app, AV.cells, and_true, true_and, and_self, decide_true, decide_false, ↓yielded_eq, yv_some, boolOf_bool, List.getElem?_toArray, List.getElem?_cons_zero, List.getElem?_cons_succ, Nat.reduceLT, Nat.reduceEqDiff, beq_self_eq_true, Option.some_beq_some, wr_app, wr_app0, rd_app, rd_app0, rdL_here, rdL_next, wrL_here, wrL_next, spl, List.all_cons, List.all_nil, AV.one, Bool.and_self, Bool.true_and, List.drop_zero, List.take_succ_cons, List.take_zero, List.drop_succ_cons, List.head?_cons, Nat.reduceAdd, Nat.reduceLeDiff, List.length_cons, List.length_nil, List.nil_append, List.cons_append, List.set_cons_zero, List.set_cons_succ, Int.toNat_natCast, Nat.add_zero, b_ft, b_tf, Bool.false_eq_true]
      with_reducible rfl

end Go.Dv
