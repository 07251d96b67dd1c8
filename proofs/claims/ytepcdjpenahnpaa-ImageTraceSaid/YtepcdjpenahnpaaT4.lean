/- The reference's Trace: a round (own work). -/
import Derived.Test.YtepcdjpenahnpaaT3
namespace Go.Dv
open Go.Proofs
set_option maxRecDepth 100000
set_option linter.unusedSimpArgs false
set_option linter.unusedVariables false
attribute [local congr] bind_congr_first

/-- where the loop of its reference stands: j events seen -/
structure TrR (b : Nat) (v : AV) (j : Nat) (xs : List AV) (tm : List AV) (H : AH) : Prop where
  len : tm.length = 46
  s7 : tm.getD 0 undefA = v
  s9 : tm.getD 4 undefA = I j
  own : Own b H 1 3 (tm.getD 3 undefA) xs
  le : b ≤ H.length

set_option maxHeartbeats 4000000 in
theorem ref_round {b : Nat} {H : AH} {tm : List AV} {i k cap : Nat} {ex : Bool} {l : List E6} {xs : List AV} {j : Nat} {e : E6} (hj : l[j]? = some e) (hl : l.length < 2 ^ 42)
    (hs : TrR b (.slice i k 6 l.length cap ex) j xs tm H) (hxl : xs.length ≤ j) (hrow : rdCells H i (k + j * 6) 6 = some e.cells) :
    ∃ tm' H', EvC Try.prog C0 l34_0 (tm, H) = EvC Try.prog C0 l34_0 (tm', H') ∧ TrR b (.slice i k 6 l.length cap ex) (j + 1) (xs ++ (traceOf [e]).map I) tm' H' ∧ KeepB b H H' := by
  have hjl : j < l.length := lt_of_get hj
  have hlen := hs.len
  have h7 := hs.s7
  have h9 := hs.s9
  obtain ⟨out, h3⟩ : ∃ out, tm.getD 3 undefA = out := ⟨_, rfl⟩
  have hown := hs.own
  rw [h3] at hown
  have hb := hs.le
  have hlt : ((j : Int) < (l.length : Int)) = True := eq_true (by omega)
  have h0j : ((0 : Int) ≤ (j : Int)) = True := eq_true (by omega)
  have hrd : ∀ L, rdCells (H ++ L) i (k + j * 6) 5 = some [I e.sp, I e.bl, I e.ce, I e.th, I e.ki] := fun L => rd_old (rd_sub hrow 0 5 (by omega)) L
  have hw : IntKind.i64.wrap ((j : Int) + 1) = ((j + 1 : Nat) : Int) := by rw [IntWalk.i64_in _ (by omega)]; omega
  have e0 : (tm, H) = (tm, H ++ []) := by simp
  have hkeep : ∀ L, KeepB b H (H ++ L) := fun L i hi => List.getElem?_append_left (by omega)
  have hownL : ∀ L, Own b (H ++ L) 1 3 out xs := fun L => hown.other fun i' k' es len cap ex hv => by
    subst hv
    cases hown with
    | «at» _ _ _ _ _ cs _ _ hi => exact List.getElem?_append_left (lt_of_get hi)
  have fin : ∀ (tmF : List AV) (H' : AH) (v' : AV) (ys : List AV), EvC Try.prog C0 l34_0 (tm, H) = EvC Try.prog C0 l34_0 (tmF, H') → (traceOf [e]).map I = ys → KeepB b H H' → Own b H' 1 3 v' (xs ++ ys) → b ≤ H'.length →
      tmF.length = 46 → tmF.getD 0 undefA = .slice i k 6 l.length cap ex → tmF.getD 4 undefA = I ((j + 1 : Nat) : Int) → tmF.getD 3 undefA = v' →
      ∃ tm' H', EvC Try.prog C0 l34_0 (tm, H) = EvC Try.prog C0 l34_0 (tm', H') ∧ TrR b (.slice i k 6 l.length cap ex) (j + 1) (xs ++ (traceOf [e]).map I) tm' H' ∧ KeepB b H H' := by
    intro tmF H' v' ys he ht hk ho hb' hl' g7 g9 g3
    exact ⟨tmF, H', he, ⟨hl', g7, g9, by rw [g3, ht]; exact ho, hb'⟩, hk⟩
  by_cases c1 : e.sp ≥ 0
  · have d1 : decide (e.sp ≥ 0) = true := by simpa using c1
    by_cases c2 : e.sp < 6
    · have d2 : decide (e.sp < 6) = true := by simpa using c2
      by_cases c3 : e.ce ≥ 0
      · have d3 : decide (e.ce ≥ 0) = true := by simpa using c3
        by_cases c4 : e.ce < 256
        · have d4 : decide (e.ce < 256) = true := by simpa using c4
          have ht : (traceOf [e]).map I = [I (e.sp * 16 + e.ce / 16)] := by simp only [traceOf, List.flatMap_cons, List.flatMap_nil, List.append_nil]; rw [if_pos ⟨by omega, c2, by omega, c4⟩]; rfl
          have m1 : IntKind.i64.wrap (e.sp * 16) = e.sp * 16 := IntWalk.i64_in _ (by omega)
          have m2 : IntKind.i64.wrap (e.ce.tdiv 16) = e.ce / 16 := by rw [Int.tdiv_eq_ediv_of_nonneg (by omega)]; exact IntWalk.i64_in _ (by omega)
          have m3 : IntKind.i64.wrap (e.sp * 16 + e.ce / 16) = e.sp * 16 + e.ce / 16 := IntWalk.i64_in _ (by omega)
          have z16 : ((16 : Int) = 0) = False := by simp
          obtain ⟨v', H', happ, hown', hlv, hlen', hkp⟩ := append_own (P := Try.prog) appT46 (hownL [.cells [I e.sp, I e.bl, I e.ce, I e.th, I e.ki] 34, .cells [I (e.sp * 16 + e.ce / 16)] 3]) (by simp; omega)
            (x := .slice (H.length + 1) 0 1 1 1 true) (new := [I (e.sp * 16 + e.ce / 16)]) (.at _ _ _ _ _ _ (by rw [rd_app]; rfl)) rfl (by
              have h1 : lenOfA out = xs.length := by have := hown.length; omega
              have hb8 : Try.prog.bytesOf 3 = 8 := by kernel_rfl
              rw [h1, lenOfA_slice, hb8]
              simp [growOk]; omega)
          refine fin ?tmFr_0 H' v' _ ?her_0 ht ?hkr_0 hown' ?hbr_0 ?g1r_0 ?g2r_0 ?g3r_0 ?g4r_0 
          case her_0 =>
            rw [e0, el34_0]
            simp -implicitDefEqProofs only [b34_0, atPath, Try.f34, Option.getD_some, hlen, h7, h9, h3, hlt, h0j, hrd, hw, ln22, ↓ia22, ↓ld36, ↓ld34, ↓ld3, ↓st36, ↓st34, z36, z34, fa36_0, fa34_0, fa34_2,  d1, d2, d3, d4, m1, m2, m3, z16, bs46, happ, ↓EvC_seq, ↓EvC_skip, ↓EvC_exit, ↓EvC_ret, ↓EvC_block, ↓EvC_cond, ↓ev_region, ↓runL_cons, ↓runL_nil, ↓stepO_none, ↓stepO_guard, ↓aop_move, ↓aop_assign, ↓aop_load, ↓aop_store, ↓aop_alloc, ↓aop_box, ↓aop_nilCheck, ↓aop_fieldAddr, ↓aop_field, ↓aop_indexAddr, ↓aop_binOp, ↓aop_pick, ↓aop_extract, ↓aop_buildSlice, ↓aop_slice, ↓aop_not, ↓aop_call, ↓callA_len, ↓callA_append, ev_tmp, ev_const, ofV_int, ofV_bool, ofV_str, ofV_nilSlice, ofV_nilPtr, putA_some, putA_none, gs_self, gs_ne, List.length_set, Option.bind_some, Option.map_some, intBinA, evL, evO, evP, ne_eq, not_false_eq_true, if_true, if_false, reduceCtorEq, ite_true, ite_false, reduceIte, put_app, AV.cells, and_true, true_and, and_self, decide_true, decide_false, ↓yielded_eq, yv_some, boolOf_bool, List.getElem?_toArray, List.getElem?_cons_zero, List.getElem?_cons_succ, Nat.reduceLT, Nat.reduceEqDiff, beq_self_eq_true, Option.some_beq_some, wr_app, wr_app0, rd_app, rd_app0, rdL_here, rdL_next, wrL_here, wrL_next, spl, List.all_cons, List.all_nil, AV.one, Bool.and_self, Bool.true_and, List.drop_zero, List.take_succ_cons, List.take_zero, List.drop_succ_cons, List.head?_cons, Nat.reduceAdd, Nat.reduceLeDiff, List.length_cons, List.length_nil, List.nil_append, List.cons_append, List.set_cons_zero, List.set_cons_succ, Int.toNat_natCast, Nat.add_zero, b_ft, b_tf, Bool.false_eq_true]
            with_reducible rfl
          case hkr_0 =>
            intro q hq
            rw [hkp q (by simp; omega) (fun i' k' len cap ex hv e => by
              subst hv
              cases hown with
              | «at» _ _ _ _ _ cs _ hbi hi => omega)]
            exact hkeep _ q hq
          case hbr_0 => simp at hlen'; omega
          all_goals simp only [hlen, h7, h9, h3, gs_self, gs_ne, List.length_set, ne_eq, Nat.reduceEqDiff, Nat.reduceLT, not_false_eq_true]
        · have d4 : decide (e.ce < 256) = false := by simpa using c4
          have ht : (traceOf [e]).map I = [] := by simp only [traceOf, List.flatMap_cons, List.flatMap_nil, List.append_nil]; rw [if_neg (by omega)]; rfl
          refine fin ?tmFr_1 ?hhr_1 ?vvr_1 _ ?her_1 ht ?hkr_1 ?hor_1 ?hbr_1 ?g1r_1 ?g2r_1 ?g3r_1 ?g4r_1 
          case her_1 =>
            rw [e0, el34_0]
            simp -implicitDefEqProofs only [b34_0, atPath, Try.f34, Option.getD_some, hlen, h7, h9, h3, hlt, h0j, hrd, hw, ln22, ↓ia22, ↓ld36, ↓ld34, ↓ld3, ↓st36, ↓st34, z36, z34, fa36_0, fa34_0, fa34_2,  d1, d2, d3, d4, ↓EvC_seq, ↓EvC_skip, ↓EvC_exit, ↓EvC_ret, ↓EvC_block, ↓EvC_cond, ↓ev_region, ↓runL_cons, ↓runL_nil, ↓stepO_none, ↓stepO_guard, ↓aop_move, ↓aop_assign, ↓aop_load, ↓aop_store, ↓aop_alloc, ↓aop_box, ↓aop_nilCheck, ↓aop_fieldAddr, ↓aop_field, ↓aop_indexAddr, ↓aop_binOp, ↓aop_pick, ↓aop_extract, ↓aop_buildSlice, ↓aop_slice, ↓aop_not, ↓aop_call, ↓callA_len, ↓callA_append, ev_tmp, ev_const, ofV_int, ofV_bool, ofV_str, ofV_nilSlice, ofV_nilPtr, putA_some, putA_none, gs_self, gs_ne, List.length_set, Option.bind_some, Option.map_some, intBinA, evL, evO, evP, ne_eq, not_false_eq_true, if_true, if_false, reduceCtorEq, ite_true, ite_false, reduceIte, put_app, AV.cells, and_true, true_and, and_self, decide_true, decide_false, ↓yielded_eq, yv_some, boolOf_bool, List.getElem?_toArray, List.getElem?_cons_zero, List.getElem?_cons_succ, Nat.reduceLT, Nat.reduceEqDiff, beq_self_eq_true, Option.some_beq_some, wr_app, wr_app0, rd_app, rd_app0, rdL_here, rdL_next, wrL_here, wrL_next, spl, List.all_cons, List.all_nil, AV.one, Bool.and_self, Bool.true_and, List.drop_zero, List.take_succ_cons, List.take_zero, List.drop_succ_cons, List.head?_cons, Nat.reduceAdd, Nat.reduceLeDiff, List.length_cons, List.length_nil, List.nil_append, List.cons_append, List.set_cons_zero, List.set_cons_succ, Int.toNat_natCast, Nat.add_zero, b_ft, b_tf, Bool.false_eq_true]
            with_reducible rfl
          case hkr_1 => exact hkeep _
          case hor_1 => simpa using hownL _
          case hbr_1 => simp; omega
          all_goals simp only [hlen, h7, h9, h3, gs_self, gs_ne, List.length_set, ne_eq, Nat.reduceEqDiff, Nat.reduceLT, not_false_eq_true]
      · have d3 : decide (e.ce ≥ 0) = false := by simpa using c3
        have ht : (traceOf [e]).map I = [] := by simp only [traceOf, List.flatMap_cons, List.flatMap_nil, List.append_nil]; rw [if_neg (by omega)]; rfl
        refine fin ?tmFr_2 ?hhr_2 ?vvr_2 _ ?her_2 ht ?hkr_2 ?hor_2 ?hbr_2 ?g1r_2 ?g2r_2 ?g3r_2 ?g4r_2 
        case her_2 =>
          rw [e0, el34_0]
          simp -implicitDefEqProofs only [b34_0, atPath, Try.f34, Option.getD_some, hlen, h7, h9, h3, hlt, h0j, hrd, hw, ln22, ↓ia22, ↓ld36, ↓ld34, ↓ld3, ↓st36, ↓st34, z36, z34, fa36_0, fa34_0, fa34_2,  d1, d2, d3, ↓EvC_seq, ↓EvC_skip, ↓EvC_exit, ↓EvC_ret, ↓EvC_block, ↓EvC_cond, ↓ev_region, ↓runL_cons, ↓runL_nil, ↓stepO_none, ↓stepO_guard, ↓aop_move, ↓aop_assign, ↓aop_load, ↓aop_store, ↓aop_alloc, ↓aop_box, ↓aop_nilCheck, ↓aop_fieldAddr, ↓aop_field, ↓aop_indexAddr, ↓aop_binOp, ↓aop_pick, ↓aop_extract, ↓aop_buildSlice, ↓aop_slice, ↓aop_not, ↓aop_call, ↓callA_len, ↓callA_append, ev_tmp, ev_const, ofV_int, ofV_bool, ofV_str, ofV_nilSlice, ofV_nilPtr, putA_some, putA_none, gs_self, gs_ne, List.length_set, Option.bind_some, Option.map_some, intBinA, evL, evO, evP, ne_eq, not_false_eq_true, if_true, if_false, reduceCtorEq, ite_true, ite_false, reduceIte, put_app, AV.cells, and_true, true_and, and_self, decide_true, decide_false, ↓yielded_eq, yv_some, boolOf_bool, List.getElem?_toArray, List.getElem?_cons_zero, List.getElem?_cons_succ, Nat.reduceLT, Nat.reduceEqDiff, beq_self_eq_true, Option.some_beq_some, wr_app, wr_app0, rd_app, rd_app0, rdL_here, rdL_next, wrL_here, wrL_next, spl, List.all_cons, List.all_nil, AV.one, Bool.and_self, Bool.true_and, List.drop_zero, List.take_succ_cons, List.take_zero, List.drop_succ_cons, List.head?_cons, Nat.reduceAdd, Nat.reduceLeDiff, List.length_cons, List.length_nil, List.nil_append, List.cons_append, List.set_cons_zero, List.set_cons_succ, Int.toNat_natCast, Nat.add_zero, b_ft, b_tf, Bool.false_eq_true]
          with_reducible rfl
        case hkr_2 => exact hkeep _
        case hor_2 => simpa using hownL _
        case hbr_2 => simp; omega
        all_goals simp only [hlen, h7, h9, h3, gs_self, gs_ne, List.length_set, ne_eq, Nat.reduceEqDiff, Nat.reduceLT, not_false_eq_true]
    · have d2 : decide (e.sp < 6) = false := by simpa using c2
      have ht : (traceOf [e]).map I = [] := by simp only [traceOf, List.flatMap_cons, List.flatMap_nil, List.append_nil]; rw [if_neg (by omega)]; rfl
      refine fin ?tmFr_3 ?hhr_3 ?vvr_3 _ ?her_3 ht ?hkr_3 ?hor_3 ?hbr_3 ?g1r_3 ?g2r_3 ?g3r_3 ?g4r_3 
      case her_3 =>
        rw [e0, el34_0]
        simp -implicitDefEqProofs only [b34_0, atPath, Try.f34, Option.getD_some, hlen, h7, h9, h3, hlt, h0j, hrd, hw, ln22, ↓ia22, ↓ld36, ↓ld34, ↓ld3, ↓st36, ↓st34, z36, z34, fa36_0, fa34_0, fa34_2,  d1, d2, ↓EvC_seq, ↓EvC_skip, ↓EvC_exit, ↓EvC_ret, ↓EvC_block, ↓EvC_cond, ↓ev_region, ↓runL_cons, ↓runL_nil, ↓stepO_none, ↓stepO_guard, ↓aop_move, ↓aop_assign, ↓aop_load, ↓aop_store, ↓aop_alloc, ↓aop_box, ↓aop_nilCheck, ↓aop_fieldAddr, ↓aop_field, ↓aop_indexAddr, ↓aop_binOp, ↓aop_pick, ↓aop_extract, ↓aop_buildSlice, ↓aop_slice, ↓aop_not, ↓aop_call, ↓callA_len, ↓callA_append, ev_tmp, ev_const, ofV_int, ofV_bool, ofV_str, ofV_nilSlice, ofV_nilPtr, putA_some, putA_none, gs_self, gs_ne, List.length_set, Option.bind_some, Option.map_some, intBinA, evL, evO, evP, ne_eq, not_false_eq_true, if_true, if_false, reduceCtorEq, ite_true, ite_false, reduceIte, put_app, AV.cells, and_true, true_and, and_self, decide_true, decide_false, ↓yielded_eq, yv_some, boolOf_bool, List.getElem?_toArray, List.getElem?_cons_zero, List.getElem?_cons_succ, Nat.reduceLT, Nat.reduceEqDiff, beq_self_eq_true, Option.some_beq_some, wr_app, wr_app0, rd_app, rd_app0, rdL_here, rdL_next, wrL_here, wrL_next, spl, List.all_cons, List.all_nil, AV.one, Bool.and_self, Bool.true_and, List.drop_zero, List.take_succ_cons, List.take_zero, List.drop_succ_cons, List.head?_cons, Nat.reduceAdd, Nat.reduceLeDiff, List.length_cons, List.length_nil, List.nil_append, List.cons_append, List.set_cons_zero, List.set_cons_succ, Int.toNat_natCast, Nat.add_zero, b_ft, b_tf, Bool.false_eq_true]
        with_reducible rfl
      case hkr_3 => exact hkeep _
      case hor_3 => simpa using hownL _
      case hbr_3 => simp; omega
      all_goals simp only [hlen, h7, h9, h3, gs_self, gs_ne, List.length_set, ne_eq, Nat.reduceEqDiff, Nat.reduceLT, not_false_eq_true]
  · have d1 : decide (e.sp ≥ 0) = false := by simpa using c1
    have ht : (traceOf [e]).map I = [] := by simp only [traceOf, List.flatMap_cons, List.flatMap_nil, List.append_nil]; rw [if_neg (by omega)]; rfl
    refine fin ?tmFr_4 ?hhr_4 ?vvr_4 _ ?her_4 ht ?hkr_4 ?hor_4 ?hbr_4 ?g1r_4 ?g2r_4 ?g3r_4 ?g4r_4 
    case her_4 =>
      rw [e0, el34_0]
      simp -implicitDefEqProofs only [b34_0, atPath, Try.f34, Option.getD_some, hlen, h7, h9, h3, hlt, h0j, hrd, hw, ln22, ↓ia22, ↓ld36, ↓ld34, ↓ld3, ↓st36, ↓st34, z36, z34, fa36_0, fa34_0, fa34_2,  d1, ↓EvC_seq, ↓EvC_skip, ↓EvC_exit, ↓EvC_ret, ↓EvC_block, ↓EvC_cond, ↓ev_region, ↓runL_cons, ↓runL_nil, ↓stepO_none, ↓stepO_guard, ↓aop_move, ↓aop_assign, ↓aop_load, ↓aop_store, ↓aop_alloc, ↓aop_box, ↓aop_nilCheck, ↓aop_fieldAddr, ↓aop_field, ↓aop_indexAddr, ↓aop_binOp, ↓aop_pick, ↓aop_extract, ↓aop_buildSlice, ↓aop_slice, ↓aop_not, ↓aop_call, ↓callA_len, ↓callA_append, ev_tmp, ev_const, ofV_int, ofV_bool, ofV_str, ofV_nilSlice, ofV_nilPtr, putA_some, putA_none, gs_self, gs_ne, List.length_set, Option.bind_some, Option.map_some, intBinA, evL, evO, evP, ne_eq, not_false_eq_true, if_true, if_false, reduceCtorEq, ite_true, ite_false, reduceIte, put_app, AV.cells, and_true, true_and, and_self, decide_true, decide_false, ↓yielded_eq, yv_some, boolOf_bool, List.getElem?_toArray, List.getElem?_cons_zero, List.getElem?_cons_succ, Nat.reduceLT, Nat.reduceEqDiff, beq_self_eq_true, Option.some_beq_some, wr_app, wr_app0, rd_app, rd_app0, rdL_here, rdL_next, wrL_here, wrL_next, spl, List.all_cons, List.all_nil, AV.one, Bool.and_self, Bool.true_and, List.drop_zero, List.take_succ_cons, List.take_zero, List.drop_succ_cons, List.head?_cons, Nat.reduceAdd, Nat.reduceLeDiff, List.length_cons, List.length_nil, List.nil_append, List.cons_append, List.set_cons_zero, List.set_cons_succ, Int.toNat_natCast, Nat.add_zero, b_ft, b_tf, Bool.false_eq_true]
      with_reducible rfl
    case hkr_4 => exact hkeep _
    case hor_4 => simpa using hownL _
    case hbr_4 => simp; omega
    all_goals simp only [hlen, h7, h9, h3, gs_self, gs_ne, List.length_set, ne_eq, Nat.reduceEqDiff, Nat.reduceLT, not_false_eq_true]
end Go.Dv
