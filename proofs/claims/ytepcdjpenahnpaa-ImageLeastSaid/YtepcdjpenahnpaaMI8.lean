/- Texts of the evaluator and of the laws' walks, put together in the order of their build: T108, T109, T110 (own work). -/
import Derived.Test.YtepcdjpenahnpaaMI7
import Derived.OpenShut

/- fewest: all pages tried, and whole (printed by a program of mine, own work). -/
namespace Go.Dv
open Go.Proofs
set_option maxRecDepth 100000
set_option linter.unusedSimpArgs false
set_option linter.unusedVariables false
attribute [local congr] bind_congr_first


theorem app_cut1 {b0 : Nat} {G : AH} {w : AV} {l : List Int} (x : Int) (hb0 : b0 ≤ G.length) (hc : CutRow b0 G w l) (hl : l.length < 2 ^ 38) :
    ∃ G', appendA Try.prog none 46 (some 46) w (.slice G.length 0 1 1 1 true) (G ++ [AObj.cells (ii [x]) 3]) = some (ov (G.length + 1) (l.length + 1), G' ++ [.cells (ii (l ++ [x])) 3]) ∧ G'.length = G.length + 1 ∧ (∀ j, j < b0 → G'[j]? = G[j]?) := by
  have hr : rdCells (G ++ [AObj.cells (ii [x]) 3]) G.length 0 1 = some (ii [x]) := by
    have : (G ++ [AObj.cells (ii [x]) 3])[G.length]? = some (.cells (ii [x]) 3) := by simp
    exact rd_at this rfl
  rcases hc with ⟨rfl, j, rfl, hj⟩ | ⟨hne, b, rfl, hge, hb⟩
  · refine ⟨G ++ [AObj.cells (ii [x]) 3], ?_, by simp, fun j hj => List.getElem?_append_left (by omega)⟩
    rw [app_new hr (by omega) (rd_old hj _) (by omega)]
    simp
  · have := app_more x hb0 (h := l) (b := b) ⟨fun _ => hge, fun _ => hb⟩ (by omega)
    rwa [hV_cons hne] at this
/-- fewest from a place on answers as the plain law -/
def FewsAt (v : AV) (N f im : Nat) (t : List Int) (a : Nat) : Prop := ∀ (G : AH) (h : List Int) (b : Nat), IntS G v t → HS 0 G h b → h.length ≤ f → (∀ x ∈ h, inI x) → Few G im N f t G →
  ∃ G', Ev Try.prog C0 56 [v, I f, I (a : Nat), hV h b, .map im] G = some (I (fewS N f (t.drop a) h : Nat), G') ∧ Few G im N f t G'
structure MinInv (v : AV) (f a im b n : Nat) (kv : AV) (tm : List AV) (best i : Nat) : Prop where
  len : tm.length = 123
  t0 : tm.getD 0 undefA = v
  t1 : tm.getD 1 undefA = I f
  t2 : tm.getD 2 undefA = I a
  t3 : tm.getD 3 undefA = ov b n
  t4 : tm.getD 4 undefA = .map im
  t11 : tm.getD 11 undefA = kv
  t14 : tm.getD 14 undefA = I best
  t17 : tm.getD 17 undefA = I i
theorem ris_in {l : List Int} (h : ∀ x ∈ l, inI x) : ∀ x ∈ risS l [], inI x := fun x hx => h x ((ris_perm l).mem_iff.1 hx)
theorem min_round {v : AV} {N f a im b : Nat} {t h : List Int} {kv : AV} {tm : List AV} {best i : Nat} {x : Int} {G : AH} (hf0 : 0 < f) (hf : f ≤ 64) (ht : t.length < 2 ^ 30) (hF : FewsAt v N f im t (a + 1)) (hv : IntS G v t) (hb : G[b]? = some (.cells (ii h) 3)) (hhf : h.length = f) (hin : ∀ x ∈ h, inI x) (hxI : inI x) (hx : t[a]? = some x) (hW : Few G im N f t G) (hil : i < h.length) (hbest : best < 2 ^ 31)
    (hI : MinInv v f a im b h.length kv tm best i) :
    ∀ X, EvC Try.prog C0 l56_1 (tm, G) = X → ∃ tm' G', EvC Try.prog C0 l56_1 (tm', G') = X ∧ Few G im N f t G' ∧ MinInv v f a im b h.length kv tm' (min best (1 + fewS N f (t.drop (a + 1)) (risS (h.take i ++ h.drop (i + 1) ++ [x]) []))) (i + 1) := by
  intro X hX
  have hlen := hI.len
  have h0 := hI.t0
  have h1 := hI.t1
  have h2 := hI.t2
  have h3 := hI.t3
  have h4 := hI.t4
  have h11 := hI.t11
  have h14 := hI.t14
  have h17 := hI.t17
  have hal := lt_of_get hx
  have hlo : ∀ H, lenA Try.prog 46 H (ov b h.length) = some (I h.length) := fun H => ln46 ..
  have hlt : decide ((i : Int) < (h.length : Int)) = true := by simp; omega
  have hinc := inc_i (j := i) (by omega)
  have hinca := inc_i (j := a) (by omega)
  rw [el56_1] at hX
  simp -implicitDefEqProofs only [b56_1, atPath, Try.f56, Option.getD_some, hlen, h0, h1, h2, h3, h4, h11, h14, h17, hlo, hlt, ↓ld3, ↓st3, z3, boolOf_undef, nb, ↓aop_lookup, ↓aop_makeFunc, ↓aop_makeMap, ↓aop_mapUpdate, ↓aop_buildSlice, ↓aop_extract, ↓EvC_seq, ↓EvC_skip, ↓EvC_exit, ↓EvC_ret, ↓EvC_block, ↓EvC_cond, ↓ev_region, ↓runL_cons, ↓runL_nil, ↓stepO_none, ↓stepO_guard, ↓aop_move, ↓aop_assign, ↓aop_load, ↓aop_store, ↓aop_alloc, ↓aop_box, ↓aop_nilCheck, ↓aop_fieldAddr, ↓aop_field, ↓aop_indexAddr, ↓aop_binOp, ↓aop_pick, ↓aop_extract, ↓aop_buildSlice, ↓aop_slice, ↓aop_not, ↓aop_call, ↓callA_len, ↓callA_append, ev_tmp, ev_const, ofV_int, ofV_bool, ofV_str, ofV_nilSlice, ofV_nilPtr, putA_some, putA_none, gs_self, gs_ne, List.length_set, Option.bind_some, Option.map_some, intBinA, evL, evO, evP, ne_eq, not_false_eq_true, if_true, if_false, reduceCtorEq, ite_true, ite_false, reduceIte, put_app, AV.cells, and_true, true_and, and_self, decide_true, decide_false, ↓yielded_eq, yv_some, boolOf_bool, List.getElem?_toArray, List.getElem?_cons_zero, List.getElem?_cons_succ, Nat.reduceLT, Nat.reduceEqDiff, beq_self_eq_true, Option.some_beq_some, wr_app, wr_app0, rd_app, rd_app0, rdL_here, rdL_next, wrL_here, wrL_next, spl, List.all_cons, List.all_nil, AV.one, Bool.and_self, Bool.true_and, List.drop_zero, List.take_succ_cons, List.take_zero, List.drop_succ_cons, List.head?_cons, Nat.reduceAdd, Nat.reduceLeDiff, List.length_cons, List.length_nil, List.nil_append, List.cons_append, List.set_cons_zero, List.set_cons_succ, Int.toNat_natCast, Nat.add_zero, b_ft, b_tf, Bool.false_eq_true] at hX
  generalize hY : EvC Try.prog C0 (Code.region 17 _ true) _ = Y at hX
  generalize hl' : h.take i ++ h.drop (i + 1) = l' at *
  have hl'l : l'.length + 1 = h.length := by rw [← hl']; simp; omega
  have hl'in : ∀ y ∈ l' ++ [x], inI y := by
    intro y hy
    rcases List.mem_append.1 hy with hy | hy
    · rw [← hl'] at hy
      rcases List.mem_append.1 hy with hy | hy
      · exact hin y (List.mem_of_mem_take hy)
      · exact hin y (List.mem_of_mem_drop hy)
    · simp only [List.mem_cons, List.not_mem_nil, or_false] at hy
      subst hy; exact hxI
  obtain ⟨tm1, L, w, he, hl1, k18, hcut, hk⟩ := reg56_17' hY hil (by omega) hb hl' (by simp only [List.length_set, hlen]) (by simp only [hlen, h3, gs_self, gs_ne, List.length_set, ne_eq, Nat.reduceEqDiff, Nat.reduceLT, not_false_eq_true]) (by simp only [hlen, h17, gs_self, gs_ne, List.length_set, ne_eq, Nat.reduceEqDiff, Nat.reduceLT, not_false_eq_true])
  subst he
  have k0 := hk 0 (by simp)
  have k1 := hk 1 (by simp)
  have k2 := hk 2 (by simp)
  have k3 := hk 3 (by simp)
  have k4 := hk 4 (by simp)
  have k11 := hk 11 (by simp)
  have k14 := hk 14 (by simp)
  have k17 := hk 17 (by simp)
  simp only [hlen, h0, h1, h2, h3, h4, h11, h14, h17, gs_self, gs_ne, List.length_set, ne_eq, Nat.reduceEqDiff, Nat.reduceLT, not_false_eq_true] at k0 k1 k2 k3 k4 k11 k14 k17
  generalize hG1 : G ++ L = G1 at hX hcut
  have hb1 : G.length ≤ G1.length := by rw [← hG1]; simp
  have hk1 : ∀ j, j < G.length → G1[j]? = G[j]? := fun j hj => by rw [← hG1, List.getElem?_append_left hj]
  obtain ⟨G2, ea, hlG, hkG⟩ := app_cut1 x hb1 hcut (by omega)
  have hu := app_to (h := l' ++ [x]) hb1 hlG hkG
  have eb := bs46 G1 x
  have hv1 := hv.same hk1
  obtain ⟨i2, k2', hi2, hr2⟩ := hv1.ix a x hx
  have hrow : hV (l' ++ [x]) (G1.length + 1) = ov (G1.length + 1) (l'.length + 1) := by rw [hV_cons (by simp)]; simp
  generalize hG3 : G2 ++ [AObj.cells (ii (l' ++ [x])) 3] = G3 at ea hu
  obtain ⟨G4, b4, e42, s4, kp4, bg4⟩ := rising_ev (G := G3) hu.1.ints (by simp; omega)
  rw [hrow] at e42
  have hW4 : Few G im N f t G4 := (hW.more (fun j hj => (hu.2.1 j hj).trans (hk1 j hj)) (Nat.le_trans hb1 hu.2.2)).more kp4 bg4
  have hv4 := hW.ints hW4 hv
  have hrl : (risS (l' ++ [x]) []).length ≤ f := by rw [(ris_perm _).length_eq]; simp; omega
  obtain ⟨G5, e56, hW5⟩ := hF G4 (risS (l' ++ [x]) []) b4 hv4 (s4.mono (Nat.zero_le _)) hrl (ris_in hl'in) ⟨hW4.memo, fun _ _ _ => rfl, Nat.le_refl _⟩
  have hle := few_le (N := N) hf0 (t.drop (a + 1)) (risS (l' ++ [x]) []) hrl
  rw [List.length_drop] at hle
  generalize fewS N f (t.drop (a + 1)) (risS (l' ++ [x]) []) = m at *
  have hm : IntKind.i64.wrap (1 + (m : Int)) = ((1 + m : Nat) : Int) := by rw [IntWalk.i64_in _ (by omega)]; omega
  have hmin := minI_nat best (1 + m)
  generalize hV (risS (l' ++ [x]) []) b4 = sv at *
  simp -implicitDefEqProofs only [hl1, k0, k1, k2, k3, k4, k11, k14, k17, k18, hinc, hinca, hi2, hr2, ea, eb, e42, e56, hm, hmin, ↓fc42, ↓fc56, ↓callA_min, ↓ld3, ↓st3, z3, boolOf_undef, nb, ↓aop_lookup, ↓aop_makeFunc, ↓aop_makeMap, ↓aop_mapUpdate, ↓aop_buildSlice, ↓aop_extract, ↓EvC_seq, ↓EvC_skip, ↓EvC_exit, ↓EvC_ret, ↓EvC_block, ↓EvC_cond, ↓ev_region, ↓runL_cons, ↓runL_nil, ↓stepO_none, ↓stepO_guard, ↓aop_move, ↓aop_assign, ↓aop_load, ↓aop_store, ↓aop_alloc, ↓aop_box, ↓aop_nilCheck, ↓aop_fieldAddr, ↓aop_field, ↓aop_indexAddr, ↓aop_binOp, ↓aop_pick, ↓aop_extract, ↓aop_buildSlice, ↓aop_slice, ↓aop_not, ↓aop_call, ↓callA_len, ↓callA_append, ev_tmp, ev_const, ofV_int, ofV_bool, ofV_str, ofV_nilSlice, ofV_nilPtr, putA_some, putA_none, gs_self, gs_ne, List.length_set, Option.bind_some, Option.map_some, intBinA, evL, evO, evP, ne_eq, not_false_eq_true, if_true, if_false, reduceCtorEq, ite_true, ite_false, reduceIte, put_app, AV.cells, and_true, true_and, and_self, decide_true, decide_false, ↓yielded_eq, yv_some, boolOf_bool, List.getElem?_toArray, List.getElem?_cons_zero, List.getElem?_cons_succ, Nat.reduceLT, Nat.reduceEqDiff, beq_self_eq_true, Option.some_beq_some, wr_app, wr_app0, rd_app, rd_app0, rdL_here, rdL_next, wrL_here, wrL_next, spl, List.all_cons, List.all_nil, AV.one, Bool.and_self, Bool.true_and, List.drop_zero, List.take_succ_cons, List.take_zero, List.drop_succ_cons, List.head?_cons, Nat.reduceAdd, Nat.reduceLeDiff, List.length_cons, List.length_nil, List.nil_append, List.cons_append, List.set_cons_zero, List.set_cons_succ, Int.toNat_natCast, Nat.add_zero, b_ft, b_tf, Bool.false_eq_true] at hX
  refine ⟨_, G5, hX, hW4.trans hW5, ?_, ?_, ?_, ?_, ?_, ?_, ?_, ?_, ?_⟩
  all_goals simp only [List.length_set, hl1, k0, k1, k2, k3, k4, k11, k14, k17, gs_self, gs_ne, List.length_set, ne_eq, Nat.reduceEqDiff, Nat.reduceLT, not_false_eq_true]
theorem minF_snoc (g : Nat → Nat) (N i : Nat) : minF N g (List.range (i + 1)) = min (minF N g (List.range i)) (1 + g i) := by
  unfold minF
  rw [List.range_succ, List.foldl_append]; rfl
theorem min_loop {v : AV} {N f a im b : Nat} {t h : List Int} {kv : AV} {x : Int} {G0 : AH} (hf0 : 0 < f) (hf : f ≤ 64) (ht : t.length < 2 ^ 30) (hN : N < 2 ^ 30) (hF : FewsAt v N f im t (a + 1)) (hv : IntS G0 v t) (hb : G0[b]? = some (.cells (ii h) 3)) (hhf : h.length = f) (hin : ∀ x ∈ h, inI x) (hxI : inI x) (hx : t[a]? = some x) (hW0 : Few G0 im N f t G0) :
    ∀ (d i : Nat) (tm : List AV) (G : AH), h.length - i = d → i ≤ h.length → Few G0 im N f t G → MinInv v f a im b h.length kv tm (minF (N + 1) (fun i => fewS N f (t.drop (a + 1)) (risS (h.take i ++ h.drop (i + 1) ++ [x]) [])) (List.range i)) i →
    ∃ tm' G', EvC Try.prog C0 l56_1 (tm, G) = some (.exit 3, (tm', G')) ∧ Few G0 im N f t G' ∧ MinInv v f a im b h.length kv tm' (minF (N + 1) (fun i => fewS N f (t.drop (a + 1)) (risS (h.take i ++ h.drop (i + 1) ++ [x]) [])) (List.range h.length)) h.length := by
  intro d
  induction d with
  | zero =>
    intro i tm G hd hi hW hI
    obtain rfl : i = h.length := by omega
    have hlen := hI.len
    have h0 := hI.t0
    have h1 := hI.t1
    have h2 := hI.t2
    have h3 := hI.t3
    have h4 := hI.t4
    have h11 := hI.t11
    have h14 := hI.t14
    have h17 := hI.t17
    have hlo : ∀ H, lenA Try.prog 46 H (ov b h.length) = some (I h.length) := fun H => ln46 ..
    have hlt : decide ((h.length : Int) < (h.length : Int)) = false := by simp
    rw [el56_1]
    simp -implicitDefEqProofs only [b56_1, atPath, Try.f56, Option.getD_some, hlen, h3, h17, hlo, hlt, ↓ld3, ↓st3, z3, boolOf_undef, nb, ↓aop_lookup, ↓aop_makeFunc, ↓aop_makeMap, ↓aop_mapUpdate, ↓aop_buildSlice, ↓aop_extract, ↓EvC_seq, ↓EvC_skip, ↓EvC_exit, ↓EvC_ret, ↓EvC_block, ↓EvC_cond, ↓ev_region, ↓runL_cons, ↓runL_nil, ↓stepO_none, ↓stepO_guard, ↓aop_move, ↓aop_assign, ↓aop_load, ↓aop_store, ↓aop_alloc, ↓aop_box, ↓aop_nilCheck, ↓aop_fieldAddr, ↓aop_field, ↓aop_indexAddr, ↓aop_binOp, ↓aop_pick, ↓aop_extract, ↓aop_buildSlice, ↓aop_slice, ↓aop_not, ↓aop_call, ↓callA_len, ↓callA_append, ev_tmp, ev_const, ofV_int, ofV_bool, ofV_str, ofV_nilSlice, ofV_nilPtr, putA_some, putA_none, gs_self, gs_ne, List.length_set, Option.bind_some, Option.map_some, intBinA, evL, evO, evP, ne_eq, not_false_eq_true, if_true, if_false, reduceCtorEq, ite_true, ite_false, reduceIte, put_app, AV.cells, and_true, true_and, and_self, decide_true, decide_false, ↓yielded_eq, yv_some, boolOf_bool, List.getElem?_toArray, List.getElem?_cons_zero, List.getElem?_cons_succ, Nat.reduceLT, Nat.reduceEqDiff, beq_self_eq_true, Option.some_beq_some, wr_app, wr_app0, rd_app, rd_app0, rdL_here, rdL_next, wrL_here, wrL_next, spl, List.all_cons, List.all_nil, AV.one, Bool.and_self, Bool.true_and, List.drop_zero, List.take_succ_cons, List.take_zero, List.drop_succ_cons, List.head?_cons, Nat.reduceAdd, Nat.reduceLeDiff, List.length_cons, List.length_nil, List.nil_append, List.cons_append, List.set_cons_zero, List.set_cons_succ, Int.toNat_natCast, Nat.add_zero, b_ft, b_tf, Bool.false_eq_true]
    refine ⟨_, G, rfl, hW, ?_, ?_, ?_, ?_, ?_, ?_, ?_, ?_, ?_⟩
    all_goals simp only [List.length_set, hlen, h0, h1, h2, h3, h4, h11, h14, h17, gs_self, gs_ne, List.length_set, ne_eq, Nat.reduceEqDiff, Nat.reduceLT, not_false_eq_true]
  | succ d ih =>
    intro i tm G hd hi hW hI
    have hbG : G[b]? = some (.cells (ii h) 3) := by
      have hne : h ≠ [] := by intro e; subst e; simp at hhf; omega
      exact (hW0.own hW (h := h) (b := b) ⟨fun _ => Nat.zero_le _, fun _ => hb⟩).at' hne
    have hle := (minF_le (fun i => fewS N f (t.drop (a + 1)) (risS (h.take i ++ h.drop (i + 1) ++ [x]) [])) (List.range i) (N + 1)).1
    obtain ⟨tm1, G1, he, hW1, hI1⟩ := min_round hf0 hf ht hF (hW0.ints hW hv) hbG hhf hin hxI hx ⟨hW.memo, fun _ _ _ => rfl, Nat.le_refl _⟩ (by omega) (by omega) hI _ rfl
    obtain ⟨tm', G', he2, r⟩ := ih (i + 1) tm1 G1 (by omega) (by omega) (hW.trans hW1) (by rw [minF_snoc]; exact hI1)
    exact ⟨tm', G', he.symm.trans he2, r⟩
theorem min_loop' {v : AV} {N f a im b : Nat} {t h : List Int} {kv : AV} {x : Int} {G0 : AH} {tm : List AV} {X : Option (AExit × St)} (hX : EvC Try.prog C0 l56_1 (tm, G0) = X) (hf0 : 0 < f) (hf : f ≤ 64) (ht : t.length < 2 ^ 30) (hN : N < 2 ^ 30) (hF : FewsAt v N f im t (a + 1)) (hv : IntS G0 v t) (hb : G0[b]? = some (.cells (ii h) 3)) (hhf : h.length = f) (hin : ∀ x ∈ h, inI x) (hxI : inI x) (hx : t[a]? = some x) (hW0 : Few G0 im N f t G0)
    (hI : MinInv v f a im b h.length kv tm (N + 1) 0) :
    ∃ tm' G', X = some (.exit 3, (tm', G')) ∧ Few G0 im N f t G' ∧ MinInv v f a im b h.length kv tm' (minF (N + 1) (fun i => fewS N f (t.drop (a + 1)) (risS (h.take i ++ h.drop (i + 1) ++ [x]) [])) (List.range h.length)) h.length := by
  subst hX
  exact min_loop hf0 hf ht hN hF hv hb hhf hin hxI hx hW0 h.length 0 tm G0 (by omega) (by omega) ⟨hW0.memo, fun _ _ _ => rfl, Nat.le_refl _⟩ hI
end Go.Dv

/- fewest and ref22.Least, whole (printed by a program of mine, own work). -/
namespace Go.Dv
open Go.Proofs
set_option maxRecDepth 100000
set_option linter.unusedSimpArgs false
set_option linter.unusedVariables false
attribute [local congr] bind_congr_first


theorem Few.put {G0 G : AH} {im N f : Nat} {t : List Int} (h : Few G0 im N f t G) {es : List (AV × AV × Nat)} {c : Nat} (hm : MemoOk N f t es) : Few G0 im N f t (G.set im (.map es c)) := by
  obtain ⟨es0, c0, h1, _⟩ := h.memo
  have hl := lt_of_get h1
  exact ⟨⟨es, c, List.getElem?_set_self hl, hm⟩, fun j hj hne => by rw [List.getElem?_set_ne (fun e => hne e.symm)]; exact h.keep j hj hne, by simpa using h.big⟩
/-- the region that takes one more page, whatever is held -/
theorem reg56_22 {G : AH} {v : AV} {N f a im b : Nat} {t h : List Int} {x : Int} {tm : List AV} (hf0 : 0 < f) (hf : f ≤ 64) (ht : t.length < 2 ^ 30) (hF : FewsAt v N f im t (a + 1)) (hv : IntS G v t) (hs : HS 0 G h b) (hhf : h.length < f) (hin : ∀ x ∈ h, inI x) (hxI : inI x) (hx : t[a]? = some x) (hW : Few G im N f t G)
    (hlen : tm.length = 123) (h0 : tm.getD 0 undefA = v) (h1 : tm.getD 1 undefA = I f) (h2 : tm.getD 2 undefA = I a) (h3 : tm.getD 3 undefA = hV h b) (h4 : tm.getD 4 undefA = .map im) :
    ∃ tm' G', EvC Try.prog C0 d56_22 (tm, G) = some (.normal, (tm', G')) ∧ Few G im N f t G' ∧ tm'.length = 123 ∧ tm'.getD 14 undefA = I ((1 + fewS N f (t.drop (a + 1)) (risS (h ++ [x]) []) : Nat) : Int) ∧ (∀ t ∈ [0, 1, 2, 3, 4, 11], tm'.getD t undefA = tm.getD t undefA) := by
  have hal := lt_of_get hx
  have hin' : ∀ y ∈ h ++ [x], inI y := by
    intro y hy
    rcases List.mem_append.1 hy with hy | hy
    · exact hin y hy
    · simp only [List.mem_cons, List.not_mem_nil, or_false] at hy
      subst hy; exact hxI
  have hrl : (risS (h ++ [x]) []).length ≤ f := by rw [(ris_perm _).length_eq]; simp; omega
  have hle := few_le (N := N) hf0 (t.drop (a + 1)) (risS (h ++ [x]) []) hrl
  rw [List.length_drop] at hle
  have go : ∀ L : AH, L[12]? = some (.cells (ii (h ++ [x])) 3) → ∃ s G2 G3, Ev Try.prog C0 42 [ov (G.length + 12) (h.length + 1)] (G ++ L) = some (s, G2) ∧ Ev Try.prog C0 56 [v, I f, I ((a + 1 : Nat) : Int), s, .map im] G2 = some (I (fewS N f (t.drop (a + 1)) (risS (h ++ [x]) []) : Nat), G3) ∧ Few G im N f t G3 := by
    intro L hL
    have hsL : HS 0 (G ++ L) (h ++ [x]) (G.length + 12) := ⟨fun _ => Nat.zero_le _, fun _ => get_app hL⟩
    obtain ⟨G2, b2, e42, s2, kp2, bg2⟩ := rising_ev (G := G ++ L) hsL.ints (by simp; omega)
    rw [hV_cons (h := h ++ [x]) (by simp), show (h ++ [x]).length = h.length + 1 by simp] at e42
    have hW2 : Few G im N f t G2 := (hW.more (fun j hj => List.getElem?_append_left hj) (by simp)).more kp2 bg2
    obtain ⟨G3, e56, hW3⟩ := hF G2 (risS (h ++ [x]) []) b2 (hW.ints hW2 hv) (s2.mono (Nat.zero_le _)) hrl (ris_in hin') ⟨hW2.memo, fun _ _ _ => rfl, Nat.le_refl _⟩
    exact ⟨_, G2, G3, e42, e56, hW2.trans hW3⟩
  generalize fewS N f (t.drop (a + 1)) (risS (h ++ [x]) []) = m at *
  have hm : IntKind.i64.wrap (1 + (m : Int)) = ((1 + m : Nat) : Int) := by rw [IntWalk.i64_in _ (by omega)]; omega
  by_cases hne : h = []
  · subst hne
    obtain ⟨s, G2, G3, e42, e56, hW3⟩ := go ([.fresh, .fresh, .fresh, .fresh, .cells (ii []) 3, .fresh, .fresh, .fresh, .fresh, .fresh, .fresh, .cells (ii [x]) 3, .cells (ii [x]) 3, .fresh, .fresh, .fresh, .fresh, .fresh]) rfl
    obtain ⟨tm', a1, a2, a3, a4⟩ := reg56_22a hv hx (by omega) hm e42 e56 hlen h0 h1 h2 h4 h3
    exact ⟨tm', G3, a1, hW3, a2, a3, a4⟩
  · rw [hV_cons hne] at h3
    obtain ⟨s, G2, G3, e42, e56, hW3⟩ := go ([.fresh, .fresh, .fresh, .fresh, .cells (ii []) 3, .fresh, .dead, .fresh, .fresh, .fresh, .fresh, .cells (ii [x]) 3, .cells (ii (h ++ [x])) 3, .fresh, .fresh, .fresh, .fresh, .fresh]) rfl
    obtain ⟨tm', a1, a2, a3, a4⟩ := reg56_22b hv hx (by omega) hm hne (by omega) (hs.at' hne) rfl e42 e56 hlen h0 h1 h2 h4 h3
    exact ⟨tm', G3, a1, hW3, a2, a3, a4⟩
theorem reg56_22' {G : AH} {v : AV} {N f a im b : Nat} {t h : List Int} {x : Int} {tm : List AV} {X : Option (AExit × St)} (hX : EvC Try.prog C0 d56_22 (tm, G) = X) (hf0 : 0 < f) (hf : f ≤ 64) (ht : t.length < 2 ^ 30) (hF : FewsAt v N f im t (a + 1)) (hv : IntS G v t) (hs : HS 0 G h b) (hhf : h.length < f) (hin : ∀ x ∈ h, inI x) (hxI : inI x) (hx : t[a]? = some x) (hW : Few G im N f t G)
    (hlen : tm.length = 123) (h0 : tm.getD 0 undefA = v) (h1 : tm.getD 1 undefA = I f) (h2 : tm.getD 2 undefA = I a) (h3 : tm.getD 3 undefA = hV h b) (h4 : tm.getD 4 undefA = .map im) :
    ∃ tm' G', X = some (.normal, (tm', G')) ∧ Few G im N f t G' ∧ tm'.length = 123 ∧ tm'.getD 14 undefA = I ((1 + fewS N f (t.drop (a + 1)) (risS (h ++ [x]) []) : Nat) : Int) ∧ (∀ t ∈ [0, 1, 2, 3, 4, 11], tm'.getD t undefA = tm.getD t undefA) := by
  subst hX; exact reg56_22 hf0 hf ht hF hv hs hhf hin hxI hx hW hlen h0 h1 h2 h3 h4

theorem few_end {G : AH} {v w : AV} {f im : Nat} {t : List Int} (hv : IntS G v t) : Ev Try.prog C0 56 [v, I f, I (t.length : Nat), w, .map im] G = some (I 0, G) := by
  have hla := hv.len
  have q0 : ((t.length : Int) == (t.length : Int)) = true := by simp
  have g0 : ([v, I f, I (t.length : Nat), w, .map im] ++ List.replicate (123 - [v, I f, I (t.length : Nat), w, .map im].length) undefA).length = 123 := by simp
  have g1 : ([v, I f, I (t.length : Nat), w, .map im] ++ List.replicate (123 - [v, I f, I (t.length : Nat), w, .map im].length) undefA).getD 0 undefA = v := rfl
  have g2 : ([v, I f, I (t.length : Nat), w, .map im] ++ List.replicate (123 - [v, I f, I (t.length : Nat), w, .map im].length) undefA).getD 1 undefA = I f := rfl
  have g3 : ([v, I f, I (t.length : Nat), w, .map im] ++ List.replicate (123 - [v, I f, I (t.length : Nat), w, .map im].length) undefA).getD 2 undefA = I (t.length : Nat) := rfl
  have g4 : ([v, I f, I (t.length : Nat), w, .map im] ++ List.replicate (123 - [v, I f, I (t.length : Nat), w, .map im].length) undefA).getD 3 undefA = w := rfl
  have g5 : ([v, I f, I (t.length : Nat), w, .map im] ++ List.replicate (123 - [v, I f, I (t.length : Nat), w, .map im].length) undefA).getD 4 undefA = .map im := rfl
  rw [fe56]
  generalize [v, I f, I (t.length : Nat), w, .map im] ++ List.replicate (123 - [v, I f, I (t.length : Nat), w, .map im].length) undefA = tm at *
  simp -implicitDefEqProofs only [c56, Try.f56, Option.getD_some, g0, g1, g2, g3, g4, g5, hla, q0, ↓ld3, ↓st3, z3, boolOf_undef, nb, ↓aop_lookup, ↓aop_makeFunc, ↓aop_makeMap, ↓aop_mapUpdate, ↓aop_buildSlice, ↓aop_extract, ↓EvC_seq, ↓EvC_skip, ↓EvC_exit, ↓EvC_ret, ↓EvC_block, ↓EvC_cond, ↓ev_region, ↓runL_cons, ↓runL_nil, ↓stepO_none, ↓stepO_guard, ↓aop_move, ↓aop_assign, ↓aop_load, ↓aop_store, ↓aop_alloc, ↓aop_box, ↓aop_nilCheck, ↓aop_fieldAddr, ↓aop_field, ↓aop_indexAddr, ↓aop_binOp, ↓aop_pick, ↓aop_extract, ↓aop_buildSlice, ↓aop_slice, ↓aop_not, ↓aop_call, ↓callA_len, ↓callA_append, ev_tmp, ev_const, ofV_int, ofV_bool, ofV_str, ofV_nilSlice, ofV_nilPtr, putA_some, putA_none, gs_self, gs_ne, List.length_set, Option.bind_some, Option.map_some, intBinA, evL, evO, evP, ne_eq, not_false_eq_true, if_true, if_false, reduceCtorEq, ite_true, ite_false, reduceIte, put_app, AV.cells, and_true, true_and, and_self, decide_true, decide_false, ↓yielded_eq, yv_some, boolOf_bool, List.getElem?_toArray, List.getElem?_cons_zero, List.getElem?_cons_succ, Nat.reduceLT, Nat.reduceEqDiff, beq_self_eq_true, Option.some_beq_some, wr_app, wr_app0, rd_app, rd_app0, rdL_here, rdL_next, wrL_here, wrL_next, spl, List.all_cons, List.all_nil, AV.one, Bool.and_self, Bool.true_and, List.drop_zero, List.take_succ_cons, List.take_zero, List.drop_succ_cons, List.head?_cons, Nat.reduceAdd, Nat.reduceLeDiff, List.length_cons, List.length_nil, List.nil_append, List.cons_append, List.set_cons_zero, List.set_cons_succ, Int.toNat_natCast, Nat.add_zero, b_ft, b_tf, Bool.false_eq_true]
theorem few_met {G G1 : AH} {v w : AV} {f a im m : Nat} {t : List Int} {s : ByteArray} (hv : IntS G v t) (ha : a < t.length) (hkey : Ev Try.prog C0 70 [I a, w] G = some (.str s, G1)) (hlook : lookupA Try.prog 100 (.map im) (.str s) true G1 = some (.tuple [I m, .bool true])) : Ev Try.prog C0 56 [v, I f, I a, w, .map im] G = some (I m, G1) := by
  have hla := hv.len
  have q0 : ((a : Int) == (t.length : Int)) = false := by simp; omega
  have g0 : ([v, I f, I a, w, .map im] ++ List.replicate (123 - [v, I f, I a, w, .map im].length) undefA).length = 123 := by simp
  have g1 : ([v, I f, I a, w, .map im] ++ List.replicate (123 - [v, I f, I a, w, .map im].length) undefA).getD 0 undefA = v := rfl
  have g2 : ([v, I f, I a, w, .map im] ++ List.replicate (123 - [v, I f, I a, w, .map im].length) undefA).getD 1 undefA = I f := rfl
  have g3 : ([v, I f, I a, w, .map im] ++ List.replicate (123 - [v, I f, I a, w, .map im].length) undefA).getD 2 undefA = I a := rfl
  have g4 : ([v, I f, I a, w, .map im] ++ List.replicate (123 - [v, I f, I a, w, .map im].length) undefA).getD 3 undefA = w := rfl
  have g5 : ([v, I f, I a, w, .map im] ++ List.replicate (123 - [v, I f, I a, w, .map im].length) undefA).getD 4 undefA = .map im := rfl
  rw [fe56]
  generalize [v, I f, I a, w, .map im] ++ List.replicate (123 - [v, I f, I a, w, .map im].length) undefA = tm at *
  simp -implicitDefEqProofs only [c56, Try.f56, Option.getD_some, g0, g1, g2, g3, g4, g5, hla, q0, hkey, hlook, ↓fc70, ↓ld3, ↓st3, z3, boolOf_undef, nb, ↓aop_lookup, ↓aop_makeFunc, ↓aop_makeMap, ↓aop_mapUpdate, ↓aop_buildSlice, ↓aop_extract, ↓EvC_seq, ↓EvC_skip, ↓EvC_exit, ↓EvC_ret, ↓EvC_block, ↓EvC_cond, ↓ev_region, ↓runL_cons, ↓runL_nil, ↓stepO_none, ↓stepO_guard, ↓aop_move, ↓aop_assign, ↓aop_load, ↓aop_store, ↓aop_alloc, ↓aop_box, ↓aop_nilCheck, ↓aop_fieldAddr, ↓aop_field, ↓aop_indexAddr, ↓aop_binOp, ↓aop_pick, ↓aop_extract, ↓aop_buildSlice, ↓aop_slice, ↓aop_not, ↓aop_call, ↓callA_len, ↓callA_append, ev_tmp, ev_const, ofV_int, ofV_bool, ofV_str, ofV_nilSlice, ofV_nilPtr, putA_some, putA_none, gs_self, gs_ne, List.length_set, Option.bind_some, Option.map_some, intBinA, evL, evO, evP, ne_eq, not_false_eq_true, if_true, if_false, reduceCtorEq, ite_true, ite_false, reduceIte, put_app, AV.cells, and_true, true_and, and_self, decide_true, decide_false, ↓yielded_eq, yv_some, boolOf_bool, List.getElem?_toArray, List.getElem?_cons_zero, List.getElem?_cons_succ, Nat.reduceLT, Nat.reduceEqDiff, beq_self_eq_true, Option.some_beq_some, wr_app, wr_app0, rd_app, rd_app0, rdL_here, rdL_next, wrL_here, wrL_next, spl, List.all_cons, List.all_nil, AV.one, Bool.and_self, Bool.true_and, List.drop_zero, List.take_succ_cons, List.take_zero, List.drop_succ_cons, List.head?_cons, Nat.reduceAdd, Nat.reduceLeDiff, List.length_cons, List.length_nil, List.nil_append, List.cons_append, List.set_cons_zero, List.set_cons_succ, Int.toNat_natCast, Nat.add_zero, b_ft, b_tf, Bool.false_eq_true]
theorem few_has {G G1 G2 : AH} {v w : AV} {f a im m : Nat} {t h : List Int} {s : ByteArray} {x : Int} {o : AObj} (hv : IntS G v t) (hv1 : IntS G1 v t) (hw1 : IntS G1 w h) (hl : h.length < 2 ^ 38) (hal : a < 2 ^ 38) (hx : t[a]? = some x) (hxh : x ∈ h) (hkey : Ev Try.prog C0 70 [I a, w] G = some (.str s, G1)) (hlook : lookupA Try.prog 100 (.map im) (.str s) true G1 = some (.tuple [I 0, .bool false]))
    (h56 : Ev Try.prog C0 56 [v, I f, I ((a + 1 : Nat) : Int), w, .map im] G1 = some (I m, G2)) (hput : mapPutA Try.prog 100 (.map im) (.str s) (I m) G2 = some (G2.set im o)) : Ev Try.prog C0 56 [v, I f, I a, w, .map im] G = some (I m, G2.set im o) := by
  have ha := lt_of_get hx
  have hla := hv.len
  have hinca := inc_i (j := a) (by omega)
  have q0 : ((a : Int) == (t.length : Int)) = false := by simp; omega
  have g0 : ([v, I f, I a, w, .map im] ++ List.replicate (123 - [v, I f, I a, w, .map im].length) undefA).length = 123 := by simp
  have g1 : ([v, I f, I a, w, .map im] ++ List.replicate (123 - [v, I f, I a, w, .map im].length) undefA).getD 0 undefA = v := rfl
  have g2 : ([v, I f, I a, w, .map im] ++ List.replicate (123 - [v, I f, I a, w, .map im].length) undefA).getD 1 undefA = I f := rfl
  have g3 : ([v, I f, I a, w, .map im] ++ List.replicate (123 - [v, I f, I a, w, .map im].length) undefA).getD 2 undefA = I a := rfl
  have g4 : ([v, I f, I a, w, .map im] ++ List.replicate (123 - [v, I f, I a, w, .map im].length) undefA).getD 3 undefA = w := rfl
  have g5 : ([v, I f, I a, w, .map im] ++ List.replicate (123 - [v, I f, I a, w, .map im].length) undefA).getD 4 undefA = .map im := rfl
  rw [fe56]
  generalize [v, I f, I a, w, .map im] ++ List.replicate (123 - [v, I f, I a, w, .map im].length) undefA = tm at *
  simp -implicitDefEqProofs only [c56, Try.f56, Option.getD_some, g0, g1, g2, g3, g4, g5, hla, q0, hkey, hlook, ↓fc70, ↓ld3, ↓st3, z3, boolOf_undef, nb, ↓aop_lookup, ↓aop_makeFunc, ↓aop_makeMap, ↓aop_mapUpdate, ↓aop_buildSlice, ↓aop_extract, ↓EvC_seq, ↓EvC_skip, ↓EvC_exit, ↓EvC_ret, ↓EvC_block, ↓EvC_cond, ↓ev_region, ↓runL_cons, ↓runL_nil, ↓stepO_none, ↓stepO_guard, ↓aop_move, ↓aop_assign, ↓aop_load, ↓aop_store, ↓aop_alloc, ↓aop_box, ↓aop_nilCheck, ↓aop_fieldAddr, ↓aop_field, ↓aop_indexAddr, ↓aop_binOp, ↓aop_pick, ↓aop_extract, ↓aop_buildSlice, ↓aop_slice, ↓aop_not, ↓aop_call, ↓callA_len, ↓callA_append, ev_tmp, ev_const, ofV_int, ofV_bool, ofV_str, ofV_nilSlice, ofV_nilPtr, putA_some, putA_none, gs_self, gs_ne, List.length_set, Option.bind_some, Option.map_some, intBinA, evL, evO, evP, ne_eq, not_false_eq_true, if_true, if_false, reduceCtorEq, ite_true, ite_false, reduceIte, put_app, AV.cells, and_true, true_and, and_self, decide_true, decide_false, ↓yielded_eq, yv_some, boolOf_bool, List.getElem?_toArray, List.getElem?_cons_zero, List.getElem?_cons_succ, Nat.reduceLT, Nat.reduceEqDiff, beq_self_eq_true, Option.some_beq_some, wr_app, wr_app0, rd_app, rd_app0, rdL_here, rdL_next, wrL_here, wrL_next, spl, List.all_cons, List.all_nil, AV.one, Bool.and_self, Bool.true_and, List.drop_zero, List.take_succ_cons, List.take_zero, List.drop_succ_cons, List.head?_cons, Nat.reduceAdd, Nat.reduceLeDiff, List.length_cons, List.length_nil, List.nil_append, List.cons_append, List.set_cons_zero, List.set_cons_succ, Int.toNat_natCast, Nat.add_zero, b_ft, b_tf, Bool.false_eq_true]
  generalize hX : EvC Try.prog C0 (Code.loop _) _ = X
  obtain ⟨tm1, he, hl1, k15, hk⟩ := has_loop' hX hv1 hw1 (by omega) hx (by simp only [List.length_set, g0]) (by simp only [g0, g1, gs_self, gs_ne, List.length_set, ne_eq, Nat.reduceEqDiff, Nat.reduceLT, not_false_eq_true]) (by simp only [g0, g3, gs_self, gs_ne, List.length_set, ne_eq, Nat.reduceEqDiff, Nat.reduceLT, not_false_eq_true]) (by simp only [g0, g4, gs_self, gs_ne, List.length_set, ne_eq, Nat.reduceEqDiff, Nat.reduceLT, not_false_eq_true]) (by simp only [g0, gs_self, gs_ne, List.length_set, ne_eq, Nat.reduceEqDiff, Nat.reduceLT, not_false_eq_true]) (by simp only [g0, gs_self, gs_ne, List.length_set, ne_eq, Nat.reduceEqDiff, Nat.reduceLT, not_false_eq_true]; rfl)
  subst he
  have k0 := hk 0 (by simp)
  have k1 := hk 1 (by simp)
  have k2 := hk 2 (by simp)
  have k3 := hk 3 (by simp)
  have k4 := hk 4 (by simp)
  have k11 := hk 11 (by simp)
  simp only [g0, g1, g2, g3, g4, g5, gs_self, gs_ne, List.length_set, ne_eq, Nat.reduceEqDiff, Nat.reduceLT, not_false_eq_true] at k0 k1 k2 k3 k4 k11
  rw [decide_eq_true hxh] at k15
  simp -implicitDefEqProofs only [hl1, k0, k1, k2, k3, k4, k11, k15, hinca, h56, hput, ↓fc56, ↓ld3, ↓st3, z3, boolOf_undef, nb, ↓aop_lookup, ↓aop_makeFunc, ↓aop_makeMap, ↓aop_mapUpdate, ↓aop_buildSlice, ↓aop_extract, ↓EvC_seq, ↓EvC_skip, ↓EvC_exit, ↓EvC_ret, ↓EvC_block, ↓EvC_cond, ↓ev_region, ↓runL_cons, ↓runL_nil, ↓stepO_none, ↓stepO_guard, ↓aop_move, ↓aop_assign, ↓aop_load, ↓aop_store, ↓aop_alloc, ↓aop_box, ↓aop_nilCheck, ↓aop_fieldAddr, ↓aop_field, ↓aop_indexAddr, ↓aop_binOp, ↓aop_pick, ↓aop_extract, ↓aop_buildSlice, ↓aop_slice, ↓aop_not, ↓aop_call, ↓callA_len, ↓callA_append, ev_tmp, ev_const, ofV_int, ofV_bool, ofV_str, ofV_nilSlice, ofV_nilPtr, putA_some, putA_none, gs_self, gs_ne, List.length_set, Option.bind_some, Option.map_some, intBinA, evL, evO, evP, ne_eq, not_false_eq_true, if_true, if_false, reduceCtorEq, ite_true, ite_false, reduceIte, put_app, AV.cells, and_true, true_and, and_self, decide_true, decide_false, ↓yielded_eq, yv_some, boolOf_bool, List.getElem?_toArray, List.getElem?_cons_zero, List.getElem?_cons_succ, Nat.reduceLT, Nat.reduceEqDiff, beq_self_eq_true, Option.some_beq_some, wr_app, wr_app0, rd_app, rd_app0, rdL_here, rdL_next, wrL_here, wrL_next, spl, List.all_cons, List.all_nil, AV.one, Bool.and_self, Bool.true_and, List.drop_zero, List.take_succ_cons, List.take_zero, List.drop_succ_cons, List.head?_cons, Nat.reduceAdd, Nat.reduceLeDiff, List.length_cons, List.length_nil, List.nil_append, List.cons_append, List.set_cons_zero, List.set_cons_succ, Int.toNat_natCast, Nat.add_zero, b_ft, b_tf, Bool.false_eq_true]
theorem few_more {G G1 : AH} {v : AV} {N f a im b : Nat} {t h : List Int} {s : ByteArray} {x : Int} (hf0 : 0 < f) (hf : f ≤ 64) (ht : t.length < 2 ^ 30) (hF : FewsAt v N f im t (a + 1)) (hv : IntS G v t) (hv1 : IntS G1 v t) (hs : HS 0 G1 h b) (hhf : h.length < f) (hin : ∀ x ∈ h, inI x) (hxI : inI x) (hx : t[a]? = some x) (hxh : x ∉ h) (hW : Few G1 im N f t G1) (hkey : Ev Try.prog C0 70 [I a, hV h b] G = some (.str s, G1)) (hlook : lookupA Try.prog 100 (.map im) (.str s) true G1 = some (.tuple [I 0, .bool false]))
    (hput : ∀ G2, Few G1 im N f t G2 → ∃ o, mapPutA Try.prog 100 (.map im) (.str s) (I ((1 + fewS N f (t.drop (a + 1)) (risS (h ++ [x]) []) : Nat) : Int)) G2 = some (G2.set im o) ∧ Few G1 im N f t (G2.set im o)) :
    ∃ G', Ev Try.prog C0 56 [v, I f, I a, hV h b, .map im] G = some (I ((1 + fewS N f (t.drop (a + 1)) (risS (h ++ [x]) []) : Nat) : Int), G') ∧ Few G1 im N f t G' := by
  have ha := lt_of_get hx
  have hla := hv.len
  have hw1 := hs.ints
  have q0 : ((a : Int) == (t.length : Int)) = false := by simp; omega
  have hlo := hw1.len
  have q1 : decide ((h.length : Int) < (f : Int)) = true := by simp; omega
  generalize hw : hV h b = w at *
  have g0 : ([v, I f, I a, w, .map im] ++ List.replicate (123 - [v, I f, I a, w, .map im].length) undefA).length = 123 := by simp
  have g1 : ([v, I f, I a, w, .map im] ++ List.replicate (123 - [v, I f, I a, w, .map im].length) undefA).getD 0 undefA = v := rfl
  have g2 : ([v, I f, I a, w, .map im] ++ List.replicate (123 - [v, I f, I a, w, .map im].length) undefA).getD 1 undefA = I f := rfl
  have g3 : ([v, I f, I a, w, .map im] ++ List.replicate (123 - [v, I f, I a, w, .map im].length) undefA).getD 2 undefA = I a := rfl
  have g4 : ([v, I f, I a, w, .map im] ++ List.replicate (123 - [v, I f, I a, w, .map im].length) undefA).getD 3 undefA = w := rfl
  have g5 : ([v, I f, I a, w, .map im] ++ List.replicate (123 - [v, I f, I a, w, .map im].length) undefA).getD 4 undefA = .map im := rfl
  rw [fe56]
  generalize [v, I f, I a, w, .map im] ++ List.replicate (123 - [v, I f, I a, w, .map im].length) undefA = tm at *
  simp -implicitDefEqProofs only [c56, Try.f56, Option.getD_some, g0, g1, g2, g3, g4, g5, hla, q0, hkey, hlook, ↓fc70, ↓ld3, ↓st3, z3, boolOf_undef, nb, ↓aop_lookup, ↓aop_makeFunc, ↓aop_makeMap, ↓aop_mapUpdate, ↓aop_buildSlice, ↓aop_extract, ↓EvC_seq, ↓EvC_skip, ↓EvC_exit, ↓EvC_ret, ↓EvC_block, ↓EvC_cond, ↓ev_region, ↓runL_cons, ↓runL_nil, ↓stepO_none, ↓stepO_guard, ↓aop_move, ↓aop_assign, ↓aop_load, ↓aop_store, ↓aop_alloc, ↓aop_box, ↓aop_nilCheck, ↓aop_fieldAddr, ↓aop_field, ↓aop_indexAddr, ↓aop_binOp, ↓aop_pick, ↓aop_extract, ↓aop_buildSlice, ↓aop_slice, ↓aop_not, ↓aop_call, ↓callA_len, ↓callA_append, ev_tmp, ev_const, ofV_int, ofV_bool, ofV_str, ofV_nilSlice, ofV_nilPtr, putA_some, putA_none, gs_self, gs_ne, List.length_set, Option.bind_some, Option.map_some, intBinA, evL, evO, evP, ne_eq, not_false_eq_true, if_true, if_false, reduceCtorEq, ite_true, ite_false, reduceIte, put_app, AV.cells, and_true, true_and, and_self, decide_true, decide_false, ↓yielded_eq, yv_some, boolOf_bool, List.getElem?_toArray, List.getElem?_cons_zero, List.getElem?_cons_succ, Nat.reduceLT, Nat.reduceEqDiff, beq_self_eq_true, Option.some_beq_some, wr_app, wr_app0, rd_app, rd_app0, rdL_here, rdL_next, wrL_here, wrL_next, spl, List.all_cons, List.all_nil, AV.one, Bool.and_self, Bool.true_and, List.drop_zero, List.take_succ_cons, List.take_zero, List.drop_succ_cons, List.head?_cons, Nat.reduceAdd, Nat.reduceLeDiff, List.length_cons, List.length_nil, List.nil_append, List.cons_append, List.set_cons_zero, List.set_cons_succ, Int.toNat_natCast, Nat.add_zero, b_ft, b_tf, Bool.false_eq_true]
  generalize hX : EvC Try.prog C0 (Code.loop _) _ = X
  obtain ⟨tm1, he, hl1, k15, hk⟩ := has_loop' hX hv1 hw1 (by omega) hx (by simp only [List.length_set, g0]) (by simp only [g0, g1, gs_self, gs_ne, List.length_set, ne_eq, Nat.reduceEqDiff, Nat.reduceLT, not_false_eq_true]) (by simp only [g0, g3, gs_self, gs_ne, List.length_set, ne_eq, Nat.reduceEqDiff, Nat.reduceLT, not_false_eq_true]) (by simp only [g0, g4, gs_self, gs_ne, List.length_set, ne_eq, Nat.reduceEqDiff, Nat.reduceLT, not_false_eq_true]) (by simp only [g0, gs_self, gs_ne, List.length_set, ne_eq, Nat.reduceEqDiff, Nat.reduceLT, not_false_eq_true]) (by simp only [g0, gs_self, gs_ne, List.length_set, ne_eq, Nat.reduceEqDiff, Nat.reduceLT, not_false_eq_true]; rfl)
  subst he
  have k0 := hk 0 (by simp)
  have k1 := hk 1 (by simp)
  have k2 := hk 2 (by simp)
  have k3 := hk 3 (by simp)
  have k4 := hk 4 (by simp)
  have k11 := hk 11 (by simp)
  simp only [g0, g1, g2, g3, g4, g5, gs_self, gs_ne, List.length_set, ne_eq, Nat.reduceEqDiff, Nat.reduceLT, not_false_eq_true] at k0 k1 k2 k3 k4 k11
  rw [decide_eq_false hxh] at k15
  simp -implicitDefEqProofs only [hl1, k0, k1, k2, k3, k4, k11, k15, hlo, q1, ↓ld3, ↓st3, z3, boolOf_undef, nb, ↓aop_lookup, ↓aop_makeFunc, ↓aop_makeMap, ↓aop_mapUpdate, ↓aop_buildSlice, ↓aop_extract, ↓EvC_seq, ↓EvC_skip, ↓EvC_exit, ↓EvC_ret, ↓EvC_block, ↓EvC_cond, ↓ev_region, ↓runL_cons, ↓runL_nil, ↓stepO_none, ↓stepO_guard, ↓aop_move, ↓aop_assign, ↓aop_load, ↓aop_store, ↓aop_alloc, ↓aop_box, ↓aop_nilCheck, ↓aop_fieldAddr, ↓aop_field, ↓aop_indexAddr, ↓aop_binOp, ↓aop_pick, ↓aop_extract, ↓aop_buildSlice, ↓aop_slice, ↓aop_not, ↓aop_call, ↓callA_len, ↓callA_append, ev_tmp, ev_const, ofV_int, ofV_bool, ofV_str, ofV_nilSlice, ofV_nilPtr, putA_some, putA_none, gs_self, gs_ne, List.length_set, Option.bind_some, Option.map_some, intBinA, evL, evO, evP, ne_eq, not_false_eq_true, if_true, if_false, reduceCtorEq, ite_true, ite_false, reduceIte, put_app, AV.cells, and_true, true_and, and_self, decide_true, decide_false, ↓yielded_eq, yv_some, boolOf_bool, List.getElem?_toArray, List.getElem?_cons_zero, List.getElem?_cons_succ, Nat.reduceLT, Nat.reduceEqDiff, beq_self_eq_true, Option.some_beq_some, wr_app, wr_app0, rd_app, rd_app0, rdL_here, rdL_next, wrL_here, wrL_next, spl, List.all_cons, List.all_nil, AV.one, Bool.and_self, Bool.true_and, List.drop_zero, List.take_succ_cons, List.take_zero, List.drop_succ_cons, List.head?_cons, Nat.reduceAdd, Nat.reduceLeDiff, List.length_cons, List.length_nil, List.nil_append, List.cons_append, List.set_cons_zero, List.set_cons_succ, Int.toNat_natCast, Nat.add_zero, b_ft, b_tf, Bool.false_eq_true]
  generalize hY : EvC Try.prog C0 (Code.region 22 _ true) _ = Y
  obtain ⟨tm2, G2, he2, hW2, hl2, m14, hk2⟩ := reg56_22' (h := h) (b := b) hY hf0 hf ht hF hv1 hs hhf hin hxI hx hW (by simp only [List.length_set, hl1]) (by simp only [hl1, k0, gs_self, gs_ne, List.length_set, ne_eq, Nat.reduceEqDiff, Nat.reduceLT, not_false_eq_true]) (by simp only [hl1, k1, gs_self, gs_ne, List.length_set, ne_eq, Nat.reduceEqDiff, Nat.reduceLT, not_false_eq_true]) (by simp only [hl1, k2, gs_self, gs_ne, List.length_set, ne_eq, Nat.reduceEqDiff, Nat.reduceLT, not_false_eq_true]) (by rw [hw]; simp only [hl1, k3, gs_self, gs_ne, List.length_set, ne_eq, Nat.reduceEqDiff, Nat.reduceLT, not_false_eq_true]) (by simp only [hl1, k4, gs_self, gs_ne, List.length_set, ne_eq, Nat.reduceEqDiff, Nat.reduceLT, not_false_eq_true])
  subst he2
  have m4 := hk2 4 (by simp)
  have m11 := hk2 11 (by simp)
  simp only [hl1, k4, k11, gs_self, gs_ne, List.length_set, ne_eq, Nat.reduceEqDiff, Nat.reduceLT, not_false_eq_true] at m4 m11
  obtain ⟨o, hp, hWp⟩ := hput G2 hW2
  refine ⟨G2.set im o, ?_, hWp⟩
  simp -implicitDefEqProofs only [hl2, m4, m11, m14, hp, ↓ld3, ↓st3, z3, boolOf_undef, nb, ↓aop_lookup, ↓aop_makeFunc, ↓aop_makeMap, ↓aop_mapUpdate, ↓aop_buildSlice, ↓aop_extract, ↓EvC_seq, ↓EvC_skip, ↓EvC_exit, ↓EvC_ret, ↓EvC_block, ↓EvC_cond, ↓ev_region, ↓runL_cons, ↓runL_nil, ↓stepO_none, ↓stepO_guard, ↓aop_move, ↓aop_assign, ↓aop_load, ↓aop_store, ↓aop_alloc, ↓aop_box, ↓aop_nilCheck, ↓aop_fieldAddr, ↓aop_field, ↓aop_indexAddr, ↓aop_binOp, ↓aop_pick, ↓aop_extract, ↓aop_buildSlice, ↓aop_slice, ↓aop_not, ↓aop_call, ↓callA_len, ↓callA_append, ev_tmp, ev_const, ofV_int, ofV_bool, ofV_str, ofV_nilSlice, ofV_nilPtr, putA_some, putA_none, gs_self, gs_ne, List.length_set, Option.bind_some, Option.map_some, intBinA, evL, evO, evP, ne_eq, not_false_eq_true, if_true, if_false, reduceCtorEq, ite_true, ite_false, reduceIte, put_app, AV.cells, and_true, true_and, and_self, decide_true, decide_false, ↓yielded_eq, yv_some, boolOf_bool, List.getElem?_toArray, List.getElem?_cons_zero, List.getElem?_cons_succ, Nat.reduceLT, Nat.reduceEqDiff, beq_self_eq_true, Option.some_beq_some, wr_app, wr_app0, rd_app, rd_app0, rdL_here, rdL_next, wrL_here, wrL_next, spl, List.all_cons, List.all_nil, AV.one, Bool.and_self, Bool.true_and, List.drop_zero, List.take_succ_cons, List.take_zero, List.drop_succ_cons, List.head?_cons, Nat.reduceAdd, Nat.reduceLeDiff, List.length_cons, List.length_nil, List.nil_append, List.cons_append, List.set_cons_zero, List.set_cons_succ, Int.toNat_natCast, Nat.add_zero, b_ft, b_tf, Bool.false_eq_true]
theorem few_full {G G1 : AH} {v : AV} {N f a im b : Nat} {t h : List Int} {s : ByteArray} {x : Int} (hf0 : 0 < f) (hf : f ≤ 64) (ht : t.length < 2 ^ 30) (hN : N = t.length) (hF : FewsAt v N f im t (a + 1)) (hv : IntS G v t) (hv1 : IntS G1 v t) (hs : HS 0 G1 h b) (hhf : h.length = f) (hin : ∀ x ∈ h, inI x) (hxI : inI x) (hx : t[a]? = some x) (hxh : x ∉ h) (hW : Few G1 im N f t G1) (hkey : Ev Try.prog C0 70 [I a, hV h b] G = some (.str s, G1)) (hlook : lookupA Try.prog 100 (.map im) (.str s) true G1 = some (.tuple [I 0, .bool false]))
    {m : Nat} (hm : m = minF (N + 1) (fun i => fewS N f (t.drop (a + 1)) (risS (h.take i ++ h.drop (i + 1) ++ [x]) [])) (List.range h.length))
    (hput : ∀ G2, Few G1 im N f t G2 → ∃ o, mapPutA Try.prog 100 (.map im) (.str s) (I (m : Nat)) G2 = some (G2.set im o) ∧ Few G1 im N f t (G2.set im o)) :
    ∃ G', Ev Try.prog C0 56 [v, I f, I a, hV h b, .map im] G = some (I (m : Nat), G') ∧ Few G1 im N f t G' := by
  have ha := lt_of_get hx
  have hla := hv.len
  have hw1 := hs.ints
  have q0 : ((a : Int) == (t.length : Int)) = false := by simp; omega
  have hlo := hw1.len
  have q1 : decide ((h.length : Int) < (f : Int)) = false := by simp; omega
  have hne : h ≠ [] := by intro e; subst e; simp at hhf; omega
  have hb := hs.at' hne
  have hincn : IntKind.i64.wrap ((t.length : Int) + 1) = ((t.length + 1 : Nat) : Int) := inc_i (by omega)
  rw [hV_cons hne] at *
  have g0 : ([v, I f, I a, ov b h.length, .map im] ++ List.replicate (123 - [v, I f, I a, ov b h.length, .map im].length) undefA).length = 123 := by simp
  have g1 : ([v, I f, I a, ov b h.length, .map im] ++ List.replicate (123 - [v, I f, I a, ov b h.length, .map im].length) undefA).getD 0 undefA = v := rfl
  have g2 : ([v, I f, I a, ov b h.length, .map im] ++ List.replicate (123 - [v, I f, I a, ov b h.length, .map im].length) undefA).getD 1 undefA = I f := rfl
  have g3 : ([v, I f, I a, ov b h.length, .map im] ++ List.replicate (123 - [v, I f, I a, ov b h.length, .map im].length) undefA).getD 2 undefA = I a := rfl
  have g4 : ([v, I f, I a, ov b h.length, .map im] ++ List.replicate (123 - [v, I f, I a, ov b h.length, .map im].length) undefA).getD 3 undefA = ov b h.length := rfl
  have g5 : ([v, I f, I a, ov b h.length, .map im] ++ List.replicate (123 - [v, I f, I a, ov b h.length, .map im].length) undefA).getD 4 undefA = .map im := rfl
  rw [fe56]
  generalize [v, I f, I a, ov b h.length, .map im] ++ List.replicate (123 - [v, I f, I a, ov b h.length, .map im].length) undefA = tm at *
  simp -implicitDefEqProofs only [c56, Try.f56, Option.getD_some, g0, g1, g2, g3, g4, g5, hla, q0, hkey, hlook, ↓fc70, ↓ld3, ↓st3, z3, boolOf_undef, nb, ↓aop_lookup, ↓aop_makeFunc, ↓aop_makeMap, ↓aop_mapUpdate, ↓aop_buildSlice, ↓aop_extract, ↓EvC_seq, ↓EvC_skip, ↓EvC_exit, ↓EvC_ret, ↓EvC_block, ↓EvC_cond, ↓ev_region, ↓runL_cons, ↓runL_nil, ↓stepO_none, ↓stepO_guard, ↓aop_move, ↓aop_assign, ↓aop_load, ↓aop_store, ↓aop_alloc, ↓aop_box, ↓aop_nilCheck, ↓aop_fieldAddr, ↓aop_field, ↓aop_indexAddr, ↓aop_binOp, ↓aop_pick, ↓aop_extract, ↓aop_buildSlice, ↓aop_slice, ↓aop_not, ↓aop_call, ↓callA_len, ↓callA_append, ev_tmp, ev_const, ofV_int, ofV_bool, ofV_str, ofV_nilSlice, ofV_nilPtr, putA_some, putA_none, gs_self, gs_ne, List.length_set, Option.bind_some, Option.map_some, intBinA, evL, evO, evP, ne_eq, not_false_eq_true, if_true, if_false, reduceCtorEq, ite_true, ite_false, reduceIte, put_app, AV.cells, and_true, true_and, and_self, decide_true, decide_false, ↓yielded_eq, yv_some, boolOf_bool, List.getElem?_toArray, List.getElem?_cons_zero, List.getElem?_cons_succ, Nat.reduceLT, Nat.reduceEqDiff, beq_self_eq_true, Option.some_beq_some, wr_app, wr_app0, rd_app, rd_app0, rdL_here, rdL_next, wrL_here, wrL_next, spl, List.all_cons, List.all_nil, AV.one, Bool.and_self, Bool.true_and, List.drop_zero, List.take_succ_cons, List.take_zero, List.drop_succ_cons, List.head?_cons, Nat.reduceAdd, Nat.reduceLeDiff, List.length_cons, List.length_nil, List.nil_append, List.cons_append, List.set_cons_zero, List.set_cons_succ, Int.toNat_natCast, Nat.add_zero, b_ft, b_tf, Bool.false_eq_true]
  generalize hX : EvC Try.prog C0 (Code.loop _) _ = X
  obtain ⟨tm1, he, hl1, k15, hk⟩ := has_loop' hX hv1 hw1 (by omega) hx (by simp only [List.length_set, g0]) (by simp only [g0, g1, gs_self, gs_ne, List.length_set, ne_eq, Nat.reduceEqDiff, Nat.reduceLT, not_false_eq_true]) (by simp only [g0, g3, gs_self, gs_ne, List.length_set, ne_eq, Nat.reduceEqDiff, Nat.reduceLT, not_false_eq_true]) (by simp only [g0, g4, gs_self, gs_ne, List.length_set, ne_eq, Nat.reduceEqDiff, Nat.reduceLT, not_false_eq_true]) (by simp only [g0, gs_self, gs_ne, List.length_set, ne_eq, Nat.reduceEqDiff, Nat.reduceLT, not_false_eq_true]) (by simp only [g0, gs_self, gs_ne, List.length_set, ne_eq, Nat.reduceEqDiff, Nat.reduceLT, not_false_eq_true]; rfl)
  subst he
  have k0 := hk 0 (by simp)
  have k1 := hk 1 (by simp)
  have k2 := hk 2 (by simp)
  have k3 := hk 3 (by simp)
  have k4 := hk 4 (by simp)
  have k11 := hk 11 (by simp)
  simp only [g0, g1, g2, g3, g4, g5, gs_self, gs_ne, List.length_set, ne_eq, Nat.reduceEqDiff, Nat.reduceLT, not_false_eq_true] at k0 k1 k2 k3 k4 k11
  rw [decide_eq_false hxh] at k15
  simp -implicitDefEqProofs only [hl1, k0, k1, k2, k3, k4, k11, k15, hlo, hla, q1, hincn, ↓ld3, ↓st3, z3, boolOf_undef, nb, ↓aop_lookup, ↓aop_makeFunc, ↓aop_makeMap, ↓aop_mapUpdate, ↓aop_buildSlice, ↓aop_extract, ↓EvC_seq, ↓EvC_skip, ↓EvC_exit, ↓EvC_ret, ↓EvC_block, ↓EvC_cond, ↓ev_region, ↓runL_cons, ↓runL_nil, ↓stepO_none, ↓stepO_guard, ↓aop_move, ↓aop_assign, ↓aop_load, ↓aop_store, ↓aop_alloc, ↓aop_box, ↓aop_nilCheck, ↓aop_fieldAddr, ↓aop_field, ↓aop_indexAddr, ↓aop_binOp, ↓aop_pick, ↓aop_extract, ↓aop_buildSlice, ↓aop_slice, ↓aop_not, ↓aop_call, ↓callA_len, ↓callA_append, ev_tmp, ev_const, ofV_int, ofV_bool, ofV_str, ofV_nilSlice, ofV_nilPtr, putA_some, putA_none, gs_self, gs_ne, List.length_set, Option.bind_some, Option.map_some, intBinA, evL, evO, evP, ne_eq, not_false_eq_true, if_true, if_false, reduceCtorEq, ite_true, ite_false, reduceIte, put_app, AV.cells, and_true, true_and, and_self, decide_true, decide_false, ↓yielded_eq, yv_some, boolOf_bool, List.getElem?_toArray, List.getElem?_cons_zero, List.getElem?_cons_succ, Nat.reduceLT, Nat.reduceEqDiff, beq_self_eq_true, Option.some_beq_some, wr_app, wr_app0, rd_app, rd_app0, rdL_here, rdL_next, wrL_here, wrL_next, spl, List.all_cons, List.all_nil, AV.one, Bool.and_self, Bool.true_and, List.drop_zero, List.take_succ_cons, List.take_zero, List.drop_succ_cons, List.head?_cons, Nat.reduceAdd, Nat.reduceLeDiff, List.length_cons, List.length_nil, List.nil_append, List.cons_append, List.set_cons_zero, List.set_cons_succ, Int.toNat_natCast, Nat.add_zero, b_ft, b_tf, Bool.false_eq_true]
  generalize hY : EvC Try.prog C0 (Code.loop _) _ = Y
  obtain ⟨tm2, G2, he2, hW2, hI2⟩ := min_loop' (N := N) (kv := .str s) (b := b) (h := h) (x := x) hY hf0 hf ht (by omega) hF hv1 hb hhf hin hxI hx hW ⟨by simp only [List.length_set, hl1], by simp only [hl1, k0, gs_self, gs_ne, List.length_set, ne_eq, Nat.reduceEqDiff, Nat.reduceLT, not_false_eq_true], by simp only [hl1, k1, gs_self, gs_ne, List.length_set, ne_eq, Nat.reduceEqDiff, Nat.reduceLT, not_false_eq_true], by simp only [hl1, k2, gs_self, gs_ne, List.length_set, ne_eq, Nat.reduceEqDiff, Nat.reduceLT, not_false_eq_true], by simp only [hl1, k3, gs_self, gs_ne, List.length_set, ne_eq, Nat.reduceEqDiff, Nat.reduceLT, not_false_eq_true], by simp only [hl1, k4, gs_self, gs_ne, List.length_set, ne_eq, Nat.reduceEqDiff, Nat.reduceLT, not_false_eq_true], by simp only [hl1, k11, gs_self, gs_ne, List.length_set, ne_eq, Nat.reduceEqDiff, Nat.reduceLT, not_false_eq_true], by rw [hN]; simp only [hl1, gs_self, gs_ne, List.length_set, ne_eq, Nat.reduceEqDiff, Nat.reduceLT, not_false_eq_true], by simp only [hl1, gs_self, gs_ne, List.length_set, ne_eq, Nat.reduceEqDiff, Nat.reduceLT, not_false_eq_true]; rfl⟩
  subst he2
  have hl2 := hI2.len
  have m4 := hI2.t4
  have m11 := hI2.t11
  have m14 := hI2.t14
  rw [← hm] at m14
  obtain ⟨o, hp, hWp⟩ := hput G2 hW2
  refine ⟨G2.set im o, ?_, hWp⟩
  simp -implicitDefEqProofs only [hl2, m4, m11, m14, hp, ↓ld3, ↓st3, z3, boolOf_undef, nb, ↓aop_lookup, ↓aop_makeFunc, ↓aop_makeMap, ↓aop_mapUpdate, ↓aop_buildSlice, ↓aop_extract, ↓EvC_seq, ↓EvC_skip, ↓EvC_exit, ↓EvC_ret, ↓EvC_block, ↓EvC_cond, ↓ev_region, ↓runL_cons, ↓runL_nil, ↓stepO_none, ↓stepO_guard, ↓aop_move, ↓aop_assign, ↓aop_load, ↓aop_store, ↓aop_alloc, ↓aop_box, ↓aop_nilCheck, ↓aop_fieldAddr, ↓aop_field, ↓aop_indexAddr, ↓aop_binOp, ↓aop_pick, ↓aop_extract, ↓aop_buildSlice, ↓aop_slice, ↓aop_not, ↓aop_call, ↓callA_len, ↓callA_append, ev_tmp, ev_const, ofV_int, ofV_bool, ofV_str, ofV_nilSlice, ofV_nilPtr, putA_some, putA_none, gs_self, gs_ne, List.length_set, Option.bind_some, Option.map_some, intBinA, evL, evO, evP, ne_eq, not_false_eq_true, if_true, if_false, reduceCtorEq, ite_true, ite_false, reduceIte, put_app, AV.cells, and_true, true_and, and_self, decide_true, decide_false, ↓yielded_eq, yv_some, boolOf_bool, List.getElem?_toArray, List.getElem?_cons_zero, List.getElem?_cons_succ, Nat.reduceLT, Nat.reduceEqDiff, beq_self_eq_true, Option.some_beq_some, wr_app, wr_app0, rd_app, rd_app0, rdL_here, rdL_next, wrL_here, wrL_next, spl, List.all_cons, List.all_nil, AV.one, Bool.and_self, Bool.true_and, List.drop_zero, List.take_succ_cons, List.take_zero, List.drop_succ_cons, List.head?_cons, Nat.reduceAdd, Nat.reduceLeDiff, List.length_cons, List.length_nil, List.nil_append, List.cons_append, List.set_cons_zero, List.set_cons_succ, Int.toNat_natCast, Nat.add_zero, b_ft, b_tf, Bool.false_eq_true]
/-- fewest tries all pages -/
theorem few_all {v : AV} {N f im : Nat} {t : List Int} (hf0 : 0 < f) (hf : f ≤ 64) (ht : t.length < 2 ^ 30) (hN : N = t.length) (htI : ∀ x ∈ t, inI x) : ∀ (d a : Nat), t.length - a = d → a ≤ t.length → FewsAt v N f im t a := by
  intro d
  induction d with
  | zero =>
    intro a hd ha G h b hv hs hhf hin hW
    obtain rfl : a = t.length := by omega
    refine ⟨G, ?_, hW⟩
    rw [few_end hv, List.drop_length]; rfl
  | succ d ih =>
    intro a hd ha G h b hv hs hhf hin hW
    have hF := ih (a + 1) (by omega) (by omega)
    obtain ⟨x, hx⟩ := get_of (xs := t) (j := a) (by omega)
    have hxI := htI x (List.mem_of_getElem? hx)
    have hdx := drop_at hx
    obtain ⟨G1, hkey, hk1, hb1⟩ := key_ev (a := (a : Int)) hs.ints (by omega)
    have hW1 : Few G im N f t G1 := hW.more hk1 hb1
    have hW1' : Few G1 im N f t G1 := ⟨hW1.memo, fun _ _ _ => rfl, Nat.le_refl _⟩
    have hv1 := hv.same hk1
    have hs1 : HS 0 G1 h b := hs.keep hk1
    obtain ⟨es, c, hmap, hmemo⟩ := hW1.memo
    have ha40 : a < 2 ^ 40 := by omega
    have hputs : ∀ G2, Few G1 im N f t G2 → ∃ o, mapPutA Try.prog 100 (.map im) (.str (keyS a h)) (I (fewS N f (t.drop a) h : Nat)) G2 = some (G2.set im o) ∧ Few G1 im N f t (G2.set im o) := by
      intro G2 hW2
      obtain ⟨es2, c2, hmap2, hmemo2⟩ := hW2.memo
      obtain ⟨es', c', hp, hm'⟩ := put_memo hmap2 hmemo2 ha40 hin
      exact ⟨_, hp, hW2.put hm'⟩
    rcases look_memo hmap hmemo ha40 hin with hlook | hlook
    · by_cases hxh : x ∈ h
      · have e : fewS N f (t.drop a) h = fewS N f (t.drop (a + 1)) h := by rw [hdx]; simp only [fewS, if_pos hxh]
        rw [e] at hputs ⊢
        obtain ⟨G2, h56, hW2⟩ := hF G1 h b hv1 hs1 hhf hin hW1'
        obtain ⟨o, hp, hWp⟩ := hputs G2 hW2
        exact ⟨G2.set im o, few_has hv hv1 hs1.ints (by omega) (by omega) hx hxh hkey hlook h56 hp, hW1.trans hWp⟩
      · by_cases hff : h.length < f
        · have e : fewS N f (t.drop a) h = 1 + fewS N f (t.drop (a + 1)) (risS (h ++ [x]) []) := by rw [hdx]; simp only [fewS, if_neg hxh, if_pos hff]
          rw [e] at hputs ⊢
          obtain ⟨G', he, hW'⟩ := few_more hf0 hf ht hF hv hv1 hs1 hff hin hxI hx hxh hW1' hkey hlook hputs
          exact ⟨G', he, hW1.trans hW'⟩
        · have e : fewS N f (t.drop a) h = minF (N + 1) (fun i => fewS N f (t.drop (a + 1)) (risS (h.take i ++ h.drop (i + 1) ++ [x]) [])) (List.range h.length) := by rw [hdx]; simp only [fewS, if_neg hxh, if_neg hff]
          obtain ⟨G', he, hW'⟩ := few_full hf0 hf ht hN hF hv hv1 hs1 (by omega) hin hxI hx hxh hW1' hkey hlook e hputs
          exact ⟨G', he, hW1.trans hW'⟩
    · exact ⟨G1, few_met hv (by omega) hkey hlook, hW1⟩
/-- the reference's Least -/
theorem rleast_ev {G : AH} {v : AV} {f : Nat} {t : List Int} (hf0 : 0 < f) (hf : f ≤ 64) (hv : IntS G v t) (ht : t.length < 2 ^ 30) (htI : ∀ x ∈ t, inI x) : ∃ G', Ev Try.prog C0 29 [v, I f] G = some (I (bel f t [] : Nat), G') := by
  have hk : ∀ j, j < G.length → (G ++ [AObj.map [] 0])[j]? = G[j]? := fun j hj => List.getElem?_append_left hj
  have hF := few_all (v := v) (N := t.length) (im := G.length) hf0 hf ht rfl htI t.length 0 (by omega) (by omega)
  obtain ⟨G', he, _⟩ := hF (G ++ [.map [] 0]) [] 0 (hv.same hk) (HS.nil _ _ _) (by simp) (by simp) ⟨⟨[], 0, by simp, by intro e he; cases he⟩, fun _ _ _ => rfl, Nat.le_refl _⟩
  rw [List.drop_zero, few_eq hf0 t (Nat.le_refl _), hV_nil] at he
  refine ⟨G', ?_⟩
  have g0 : ([v, I f] ++ List.replicate (9 - [v, I f].length) undefA).length = 9 := by simp
  have g1 : ([v, I f] ++ List.replicate (9 - [v, I f].length) undefA).getD 0 undefA = v := rfl
  have g2 : ([v, I f] ++ List.replicate (9 - [v, I f].length) undefA).getD 1 undefA = I f := rfl
  rw [fe29]
  generalize [v, I f] ++ List.replicate (9 - [v, I f].length) undefA = tm at *
  have he' : Ev Try.prog C0 56 [v, I f, I 0, .nilSlice, .map G.length] (G ++ [.map [] 0]) = some (I (bel f t [] : Nat), G') := he
  simp -implicitDefEqProofs only [c29, Try.f29, Option.getD_some, g0, g1, g2, he', ↓fc56, put_none, ↓ld3, ↓st3, z3, boolOf_undef, nb, ↓aop_lookup, ↓aop_makeFunc, ↓aop_makeMap, ↓aop_mapUpdate, ↓aop_buildSlice, ↓aop_extract, ↓EvC_seq, ↓EvC_skip, ↓EvC_exit, ↓EvC_ret, ↓EvC_block, ↓EvC_cond, ↓ev_region, ↓runL_cons, ↓runL_nil, ↓stepO_none, ↓stepO_guard, ↓aop_move, ↓aop_assign, ↓aop_load, ↓aop_store, ↓aop_alloc, ↓aop_box, ↓aop_nilCheck, ↓aop_fieldAddr, ↓aop_field, ↓aop_indexAddr, ↓aop_binOp, ↓aop_pick, ↓aop_extract, ↓aop_buildSlice, ↓aop_slice, ↓aop_not, ↓aop_call, ↓callA_len, ↓callA_append, ev_tmp, ev_const, ofV_int, ofV_bool, ofV_str, ofV_nilSlice, ofV_nilPtr, putA_some, putA_none, gs_self, gs_ne, List.length_set, Option.bind_some, Option.map_some, intBinA, evL, evO, evP, ne_eq, not_false_eq_true, if_true, if_false, reduceCtorEq, ite_true, ite_false, reduceIte, put_app, AV.cells, and_true, true_and, and_self, decide_true, decide_false, ↓yielded_eq, yv_some, boolOf_bool, List.getElem?_toArray, List.getElem?_cons_zero, List.getElem?_cons_succ, Nat.reduceLT, Nat.reduceEqDiff, beq_self_eq_true, Option.some_beq_some, wr_app, wr_app0, rd_app, rd_app0, rdL_here, rdL_next, wrL_here, wrL_next, spl, List.all_cons, List.all_nil, AV.one, Bool.and_self, Bool.true_and, List.drop_zero, List.take_succ_cons, List.take_zero, List.drop_succ_cons, List.head?_cons, Nat.reduceAdd, Nat.reduceLeDiff, List.length_cons, List.length_nil, List.nil_append, List.cons_append, List.set_cons_zero, List.set_cons_succ, Int.toNat_natCast, Nat.add_zero, b_ft, b_tf, Bool.false_eq_true]
end Go.Dv

/- the law ImageLeast on abstract heaps; the range of the numbers of a slice (printed by a program of mine, own work). -/
namespace Go.Dv
open Go.Proofs
set_option maxRecDepth 100000
set_option linter.unusedSimpArgs false
set_option linter.unusedVariables false
attribute [local congr] bind_congr_first


theorem law8_mid {G : AH} {v : AV} {fr : Int} {t : List Int} (hv : IntS G v t) (h1 : 14 < t.length) (h2 : t.length ≤ 400) : Ev Try.prog C0 8 [v, I fr] G = some (.bool true, G) := by
  have hla := hv.len
  have q0 : decide ((t.length : Int) > 14) = true := by simp; omega
  have q1 : decide ((t.length : Int) ≤ 400) = true := by simp; omega
  have h6 := awake_ev G
  have g0 : ([v, I fr] ++ List.replicate (57 - [v, I fr].length) undefA).length = 57 := by simp
  have g1 : ([v, I fr] ++ List.replicate (57 - [v, I fr].length) undefA).getD 0 undefA = v := rfl
  have g2 : ([v, I fr] ++ List.replicate (57 - [v, I fr].length) undefA).getD 1 undefA = I fr := rfl
  rw [fe8]
  generalize [v, I fr] ++ List.replicate (57 - [v, I fr].length) undefA = tm at *
  simp -implicitDefEqProofs only [c8, Try.f8, Option.getD_some, g0, g1, g2, hla, q0, q1, h6, ↓fc26, Bool.not_true, Bool.not_false, Bool.true_and, Bool.and_true, Bool.false_and, Bool.and_false, Bool.true_or, Bool.or_true, Bool.false_or, Bool.or_false, cond_true, cond_false, boolOf_undef, nb, beq_self_eq_true, Bool.and_self, ↓ld3, ↓st3, z3, boolOf_undef, nb, ↓aop_lookup, ↓aop_makeFunc, ↓aop_makeMap, ↓aop_mapUpdate, ↓aop_buildSlice, ↓aop_extract, ↓EvC_seq, ↓EvC_skip, ↓EvC_exit, ↓EvC_ret, ↓EvC_block, ↓EvC_cond, ↓ev_region, ↓runL_cons, ↓runL_nil, ↓stepO_none, ↓stepO_guard, ↓aop_move, ↓aop_assign, ↓aop_load, ↓aop_store, ↓aop_alloc, ↓aop_box, ↓aop_nilCheck, ↓aop_fieldAddr, ↓aop_field, ↓aop_indexAddr, ↓aop_binOp, ↓aop_pick, ↓aop_extract, ↓aop_buildSlice, ↓aop_slice, ↓aop_not, ↓aop_call, ↓callA_len, ↓callA_append, ev_tmp, ev_const, ofV_int, ofV_bool, ofV_str, ofV_nilSlice, ofV_nilPtr, putA_some, putA_none, gs_self, gs_ne, List.length_set, Option.bind_some, Option.map_some, intBinA, evL, evO, evP, ne_eq, not_false_eq_true, if_true, if_false, reduceCtorEq, ite_true, ite_false, reduceIte, put_app, AV.cells, and_true, true_and, and_self, decide_true, decide_false, ↓yielded_eq, yv_some, boolOf_bool, List.getElem?_toArray, List.getElem?_cons_zero, List.getElem?_cons_succ, Nat.reduceLT, Nat.reduceEqDiff, beq_self_eq_true, Option.some_beq_some, wr_app, wr_app0, rd_app, rd_app0, rdL_here, rdL_next, wrL_here, wrL_next, spl, List.all_cons, List.all_nil, AV.one, Bool.and_self, Bool.true_and, List.drop_zero, List.take_succ_cons, List.take_zero, List.drop_succ_cons, List.head?_cons, Nat.reduceAdd, Nat.reduceLeDiff, List.length_cons, List.length_nil, List.nil_append, List.cons_append, List.set_cons_zero, List.set_cons_succ, Int.toNat_natCast, Nat.add_zero, b_ft, b_tf, Bool.false_eq_true]
theorem law8_err {G G' : AH} {v : AV} {fr e : Int} {t : List Int} (hv : IntS G v t) (hk : ∀ j, j < G.length → G'[j]? = G[j]?) (h1 : t.length ≤ 14 ∨ 400 < t.length) (he : e ≠ 0) (h27 : Ev Try.prog C0 27 [v, I fr] G = some (.tuple [I 0, I e], G')) (hb : Ev Try.prog C0 28 [v, I fr] G' = some (I e, G')) : Ev Try.prog C0 8 [v, I fr] G = some (.bool true, G') := by
  have hla := hv.len
  have h6 := awake_ev G'
  have e1 : (e == 0) = false := by simpa using he
  have e2 : (e != 0) = true := by simpa using he
  rcases h1 with h1 | h1
  · have q0 : decide ((t.length : Int) > 14) = false := by simp; omega
    have g0 : ([v, I fr] ++ List.replicate (57 - [v, I fr].length) undefA).length = 57 := by simp
    have g1 : ([v, I fr] ++ List.replicate (57 - [v, I fr].length) undefA).getD 0 undefA = v := rfl
    have g2 : ([v, I fr] ++ List.replicate (57 - [v, I fr].length) undefA).getD 1 undefA = I fr := rfl
    rw [fe8]
    generalize [v, I fr] ++ List.replicate (57 - [v, I fr].length) undefA = tm at *
    simp -implicitDefEqProofs only [c8, Try.f8, Option.getD_some, g0, g1, g2, hla, q0, h27, hb, h6, e1, e2, ↓fc26, ↓fc27, ↓fc28, Bool.not_true, Bool.not_false, Bool.true_and, Bool.and_true, Bool.false_and, Bool.and_false, Bool.true_or, Bool.or_true, Bool.false_or, Bool.or_false, cond_true, cond_false, boolOf_undef, nb, beq_self_eq_true, Bool.and_self, ↓ld3, ↓st3, z3, boolOf_undef, nb, ↓aop_lookup, ↓aop_makeFunc, ↓aop_makeMap, ↓aop_mapUpdate, ↓aop_buildSlice, ↓aop_extract, ↓EvC_seq, ↓EvC_skip, ↓EvC_exit, ↓EvC_ret, ↓EvC_block, ↓EvC_cond, ↓ev_region, ↓runL_cons, ↓runL_nil, ↓stepO_none, ↓stepO_guard, ↓aop_move, ↓aop_assign, ↓aop_load, ↓aop_store, ↓aop_alloc, ↓aop_box, ↓aop_nilCheck, ↓aop_fieldAddr, ↓aop_field, ↓aop_indexAddr, ↓aop_binOp, ↓aop_pick, ↓aop_extract, ↓aop_buildSlice, ↓aop_slice, ↓aop_not, ↓aop_call, ↓callA_len, ↓callA_append, ev_tmp, ev_const, ofV_int, ofV_bool, ofV_str, ofV_nilSlice, ofV_nilPtr, putA_some, putA_none, gs_self, gs_ne, List.length_set, Option.bind_some, Option.map_some, intBinA, evL, evO, evP, ne_eq, not_false_eq_true, if_true, if_false, reduceCtorEq, ite_true, ite_false, reduceIte, put_app, AV.cells, and_true, true_and, and_self, decide_true, decide_false, ↓yielded_eq, yv_some, boolOf_bool, List.getElem?_toArray, List.getElem?_cons_zero, List.getElem?_cons_succ, Nat.reduceLT, Nat.reduceEqDiff, beq_self_eq_true, Option.some_beq_some, wr_app, wr_app0, rd_app, rd_app0, rdL_here, rdL_next, wrL_here, wrL_next, spl, List.all_cons, List.all_nil, AV.one, Bool.and_self, Bool.true_and, List.drop_zero, List.take_succ_cons, List.take_zero, List.drop_succ_cons, List.head?_cons, Nat.reduceAdd, Nat.reduceLeDiff, List.length_cons, List.length_nil, List.nil_append, List.cons_append, List.set_cons_zero, List.set_cons_succ, Int.toNat_natCast, Nat.add_zero, b_ft, b_tf, Bool.false_eq_true]
  · have q0 : decide ((t.length : Int) > 14) = true := by simp; omega
    have q1 : decide ((t.length : Int) ≤ 400) = false := by simp; omega
    have g0 : ([v, I fr] ++ List.replicate (57 - [v, I fr].length) undefA).length = 57 := by simp
    have g1 : ([v, I fr] ++ List.replicate (57 - [v, I fr].length) undefA).getD 0 undefA = v := rfl
    have g2 : ([v, I fr] ++ List.replicate (57 - [v, I fr].length) undefA).getD 1 undefA = I fr := rfl
    rw [fe8]
    generalize [v, I fr] ++ List.replicate (57 - [v, I fr].length) undefA = tm at *
    simp -implicitDefEqProofs only [c8, Try.f8, Option.getD_some, g0, g1, g2, hla, q0, q1, h27, hb, h6, e1, e2, ↓fc26, ↓fc27, ↓fc28, Bool.not_true, Bool.not_false, Bool.true_and, Bool.and_true, Bool.false_and, Bool.and_false, Bool.true_or, Bool.or_true, Bool.false_or, Bool.or_false, cond_true, cond_false, boolOf_undef, nb, beq_self_eq_true, Bool.and_self, ↓ld3, ↓st3, z3, boolOf_undef, nb, ↓aop_lookup, ↓aop_makeFunc, ↓aop_makeMap, ↓aop_mapUpdate, ↓aop_buildSlice, ↓aop_extract, ↓EvC_seq, ↓EvC_skip, ↓EvC_exit, ↓EvC_ret, ↓EvC_block, ↓EvC_cond, ↓ev_region, ↓runL_cons, ↓runL_nil, ↓stepO_none, ↓stepO_guard, ↓aop_move, ↓aop_assign, ↓aop_load, ↓aop_store, ↓aop_alloc, ↓aop_box, ↓aop_nilCheck, ↓aop_fieldAddr, ↓aop_field, ↓aop_indexAddr, ↓aop_binOp, ↓aop_pick, ↓aop_extract, ↓aop_buildSlice, ↓aop_slice, ↓aop_not, ↓aop_call, ↓callA_len, ↓callA_append, ev_tmp, ev_const, ofV_int, ofV_bool, ofV_str, ofV_nilSlice, ofV_nilPtr, putA_some, putA_none, gs_self, gs_ne, List.length_set, Option.bind_some, Option.map_some, intBinA, evL, evO, evP, ne_eq, not_false_eq_true, if_true, if_false, reduceCtorEq, ite_true, ite_false, reduceIte, put_app, AV.cells, and_true, true_and, and_self, decide_true, decide_false, ↓yielded_eq, yv_some, boolOf_bool, List.getElem?_toArray, List.getElem?_cons_zero, List.getElem?_cons_succ, Nat.reduceLT, Nat.reduceEqDiff, beq_self_eq_true, Option.some_beq_some, wr_app, wr_app0, rd_app, rd_app0, rdL_here, rdL_next, wrL_here, wrL_next, spl, List.all_cons, List.all_nil, AV.one, Bool.and_self, Bool.true_and, List.drop_zero, List.take_succ_cons, List.take_zero, List.drop_succ_cons, List.head?_cons, Nat.reduceAdd, Nat.reduceLeDiff, List.length_cons, List.length_nil, List.nil_append, List.cons_append, List.set_cons_zero, List.set_cons_succ, Int.toNat_natCast, Nat.add_zero, b_ft, b_tf, Bool.false_eq_true]
theorem law8_long {G G' : AH} {v : AV} {fr : Int} {t : List Int} (hv : IntS G v t) (h1 : 400 < t.length) (h27 : Ev Try.prog C0 27 [v, I fr] G = some (.tuple [I 0, I 5], G')) (hb : Ev Try.prog C0 28 [v, I fr] G' = some (I 0, G')) : Ev Try.prog C0 8 [v, I fr] G = some (.bool true, G') := by
  have hla := hv.len
  have h6 := awake_ev G'
  have q0 : decide ((t.length : Int) > 14) = true := by simp; omega
  have q1 : decide ((t.length : Int) ≤ 400) = false := by simp; omega
  have q2 : decide ((t.length : Int) > 400) = true := by simp; omega
  have e2 : ((5 : Int) != 0) = true := by simp
  have g0 : ([v, I fr] ++ List.replicate (57 - [v, I fr].length) undefA).length = 57 := by simp
  have g1 : ([v, I fr] ++ List.replicate (57 - [v, I fr].length) undefA).getD 0 undefA = v := rfl
  have g2 : ([v, I fr] ++ List.replicate (57 - [v, I fr].length) undefA).getD 1 undefA = I fr := rfl
  rw [fe8]
  generalize [v, I fr] ++ List.replicate (57 - [v, I fr].length) undefA = tm at *
  simp -implicitDefEqProofs only [c8, Try.f8, Option.getD_some, g0, g1, g2, hla, q0, q1, q2, h27, hb, h6, e2, ↓fc26, ↓fc27, ↓fc28, Bool.not_true, Bool.not_false, Bool.true_and, Bool.and_true, Bool.false_and, Bool.and_false, Bool.true_or, Bool.or_true, Bool.false_or, Bool.or_false, cond_true, cond_false, boolOf_undef, nb, beq_self_eq_true, Bool.and_self, ↓ld3, ↓st3, z3, boolOf_undef, nb, ↓aop_lookup, ↓aop_makeFunc, ↓aop_makeMap, ↓aop_mapUpdate, ↓aop_buildSlice, ↓aop_extract, ↓EvC_seq, ↓EvC_skip, ↓EvC_exit, ↓EvC_ret, ↓EvC_block, ↓EvC_cond, ↓ev_region, ↓runL_cons, ↓runL_nil, ↓stepO_none, ↓stepO_guard, ↓aop_move, ↓aop_assign, ↓aop_load, ↓aop_store, ↓aop_alloc, ↓aop_box, ↓aop_nilCheck, ↓aop_fieldAddr, ↓aop_field, ↓aop_indexAddr, ↓aop_binOp, ↓aop_pick, ↓aop_extract, ↓aop_buildSlice, ↓aop_slice, ↓aop_not, ↓aop_call, ↓callA_len, ↓callA_append, ev_tmp, ev_const, ofV_int, ofV_bool, ofV_str, ofV_nilSlice, ofV_nilPtr, putA_some, putA_none, gs_self, gs_ne, List.length_set, Option.bind_some, Option.map_some, intBinA, evL, evO, evP, ne_eq, not_false_eq_true, if_true, if_false, reduceCtorEq, ite_true, ite_false, reduceIte, put_app, AV.cells, and_true, true_and, and_self, decide_true, decide_false, ↓yielded_eq, yv_some, boolOf_bool, List.getElem?_toArray, List.getElem?_cons_zero, List.getElem?_cons_succ, Nat.reduceLT, Nat.reduceEqDiff, beq_self_eq_true, Option.some_beq_some, wr_app, wr_app0, rd_app, rd_app0, rdL_here, rdL_next, wrL_here, wrL_next, spl, List.all_cons, List.all_nil, AV.one, Bool.and_self, Bool.true_and, List.drop_zero, List.take_succ_cons, List.take_zero, List.drop_succ_cons, List.head?_cons, Nat.reduceAdd, Nat.reduceLeDiff, List.length_cons, List.length_nil, List.nil_append, List.cons_append, List.set_cons_zero, List.set_cons_succ, Int.toNat_natCast, Nat.add_zero, b_ft, b_tf, Bool.false_eq_true]
theorem law8_ok {G : AH} {v : AV} {f : Nat} {t : List Int} (hf0 : 0 < f) (hf : f ≤ 64) (hv : IntV G v t) (h1 : t.length ≤ 14) (htI : ∀ x ∈ t, inI x) : ∃ G', Ev Try.prog C0 8 [v, I f] G = some (.bool true, G') := by
  have hla := hv.len
  obtain ⟨G1, h27, k1, b1⟩ := least_ev hf0 hf hv (by omega)
  have hv1 := hv.same k1
  have hb := bad_ev (fr := (f : Int)) hv1.toIntS
  have hq : badF (f : Int) = false := by unfold badF; simp; omega
  rw [badS, hq, if_neg (by simp), if_neg (by omega)] at hb
  obtain ⟨G2, h29⟩ := rleast_ev hf0 hf hv1.toIntS (by omega) htI
  have h6 := awake_ev G2
  have q0 : decide ((t.length : Int) > 14) = false := by simp; omega
  have q2 : decide ((t.length : Int) > 400) = false := by simp; omega
  have e2 : ((0 : Int) != 0) = false := by simp
  refine ⟨G2, ?_⟩
  have g0 : ([v, I f] ++ List.replicate (57 - [v, I f].length) undefA).length = 57 := by simp
  have g1 : ([v, I f] ++ List.replicate (57 - [v, I f].length) undefA).getD 0 undefA = v := rfl
  have g2 : ([v, I f] ++ List.replicate (57 - [v, I f].length) undefA).getD 1 undefA = I f := rfl
  rw [fe8]
  generalize [v, I f] ++ List.replicate (57 - [v, I f].length) undefA = tm at *
  simp -implicitDefEqProofs only [c8, Try.f8, Option.getD_some, g0, g1, g2, hla, q0, q2, h27, hb, h29, h6, e2, ↓fc26, ↓fc27, ↓fc28, ↓fc29, Bool.not_true, Bool.not_false, Bool.true_and, Bool.and_true, Bool.false_and, Bool.and_false, Bool.true_or, Bool.or_true, Bool.false_or, Bool.or_false, cond_true, cond_false, boolOf_undef, nb, beq_self_eq_true, Bool.and_self, ↓ld3, ↓st3, z3, boolOf_undef, nb, ↓aop_lookup, ↓aop_makeFunc, ↓aop_makeMap, ↓aop_mapUpdate, ↓aop_buildSlice, ↓aop_extract, ↓EvC_seq, ↓EvC_skip, ↓EvC_exit, ↓EvC_ret, ↓EvC_block, ↓EvC_cond, ↓ev_region, ↓runL_cons, ↓runL_nil, ↓stepO_none, ↓stepO_guard, ↓aop_move, ↓aop_assign, ↓aop_load, ↓aop_store, ↓aop_alloc, ↓aop_box, ↓aop_nilCheck, ↓aop_fieldAddr, ↓aop_field, ↓aop_indexAddr, ↓aop_binOp, ↓aop_pick, ↓aop_extract, ↓aop_buildSlice, ↓aop_slice, ↓aop_not, ↓aop_call, ↓callA_len, ↓callA_append, ev_tmp, ev_const, ofV_int, ofV_bool, ofV_str, ofV_nilSlice, ofV_nilPtr, putA_some, putA_none, gs_self, gs_ne, List.length_set, Option.bind_some, Option.map_some, intBinA, evL, evO, evP, ne_eq, not_false_eq_true, if_true, if_false, reduceCtorEq, ite_true, ite_false, reduceIte, put_app, AV.cells, and_true, true_and, and_self, decide_true, decide_false, ↓yielded_eq, yv_some, boolOf_bool, List.getElem?_toArray, List.getElem?_cons_zero, List.getElem?_cons_succ, Nat.reduceLT, Nat.reduceEqDiff, beq_self_eq_true, Option.some_beq_some, wr_app, wr_app0, rd_app, rd_app0, rdL_here, rdL_next, wrL_here, wrL_next, spl, List.all_cons, List.all_nil, AV.one, Bool.and_self, Bool.true_and, List.drop_zero, List.take_succ_cons, List.take_zero, List.drop_succ_cons, List.head?_cons, Nat.reduceAdd, Nat.reduceLeDiff, List.length_cons, List.length_nil, List.nil_append, List.cons_append, List.set_cons_zero, List.set_cons_succ, Int.toNat_natCast, Nat.add_zero, b_ft, b_tf, Bool.false_eq_true]
theorem law8_ev {G : AH} {v : AV} {t : List Int} (hv : IntV G v t) (htI : ∀ x ∈ t, inI x) (fr : Int) : ∃ G', Ev Try.prog C0 8 [v, I fr] G = some (.bool true, G') := by
  have hb := bad_ev (fr := fr) hv.toIntS
  by_cases hmid : 14 < t.length ∧ t.length ≤ 400
  · exact ⟨G, law8_mid hv.toIntS hmid.1 hmid.2⟩
  · cases hq : badF fr
    · obtain ⟨f, rfl, hf0, hf⟩ := badF_not hq
      by_cases hl : t.length > 4000
      · have q : decide ((t.length : Int) > 4000) = true := by simp; omega
        exact ⟨G, law8_err hv.toIntS (fun _ _ => rfl) (by omega) (by omega) (least_err (run_long hq hv.toIntS q) (by omega)) (by rw [hb, badS, hq, if_neg (by simp), if_pos hl])⟩
      · by_cases h4 : 400 < t.length
        · obtain ⟨G', h27, k, bg⟩ := least_long hf0 hf hv.toIntS (by omega) h4
          refine ⟨G', law8_long hv.toIntS h4 h27 ?_⟩
          rw [bad_ev (fr := (f : Int)) (hv.same k).toIntS, badS, hq, if_neg (by simp), if_neg hl]
        · exact law8_ok hf0 hf hv (by omega) htI
    · exact ⟨G, law8_err hv.toIntS (fun _ _ => rfl) (by omega) (by omega) (least_err (run_bad hq) (by omega)) (by rw [hb, badS, hq, if_pos rfl])⟩
theorem open_rowI {H : Type} {enc : TypeId × Value → H} {w : World} {base : Nat} {held : Bool} {fuel : Nat} {a : Option Addr} {len cap : Nat} {x : DataW H × List MemPlace} (h : DataW.trod enc Try.prog w base (fun _ => true) held fuel 46 [.slice a len cap] = some x) : ∃ l, InRow w a len cap l ∧ ∀ z ∈ l, inI z := by
  rcases Go.ChangeShapes.open_ints un46 und3 ce3 h with ⟨hcs, _⟩ | ⟨b, l, c, zs, hcs, _, hl, _, hz, _, hc, hwf⟩
  · simp at hcs
    exact ⟨[], .inl ⟨hcs.1, hcs.2.1, hcs.2.2, rfl⟩, by intro z hz; cases hz⟩
  · simp at hcs
    obtain ⟨rfl, rfl, rfl⟩ := hcs
    simp at hz
    refine ⟨zs, .inr ⟨b, rfl, hl, hz, fun i hi => hc i (by omega)⟩, fun z hz => ?_⟩
    exact Go.bounds_i64 (hwf z hz)
end Go.Dv
