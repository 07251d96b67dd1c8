/- ref21.Valid, whole (own work). -/
import Derived.Test.YtepcdjpenahnpaaT27
namespace Go.Dv
open Go.Proofs
set_option maxRecDepth 100000
set_option linter.unusedSimpArgs false
set_option linter.unusedVariables false
attribute [local congr] bind_congr_first

theorem Evs.more {H : AH} {v : AV} {l : List E6} (h : Evs H v l) (L : AH) : Evs (H ++ L) v l := ⟨h.len, fun j e he => by
  obtain ⟨i, k, hi, hr⟩ := h.ix j e he
  exact ⟨i, k, hi, rd_old hr L⟩⟩

theorem ref_valid_loop {v : AV} {l : List E6} (hl : l.length < 2 ^ 62) : ∀ (d j : Nat) (tm : List AV) (H : AH), l.length - j = d → j ≤ l.length → Evs H v l →
    tm.length = 84 → tm.getD 0 undefA = v → tm.getD 3 undefA = I j →
    ∃ e tm' L, EvC Try.prog C3 l17_0 (tm, H) = some (e, (tm', H ++ L)) ∧ tm'.length = 84 ∧ (((l.drop j).any E6.bad = false ∧ e = .exit 0 ∧ tm'.getD 0 undefA = v) ∨ ((l.drop j).any E6.bad = true ∧ e = .ret ∧ tm'.getD 2 undefA = .bool false)) := by
  intro d
  induction d with
  | zero =>
    intro j tm H hd hj hv hlen h0 h3
    have hjl : j = l.length := by omega
    subst hjl
    have hlt : decide ((l.length : Int) < (l.length : Int)) = false := by simp
    have hla := hv.len
    rw [el17_0]
    simp -implicitDefEqProofs only [b17_0, atPath, Try.f17, Option.getD_some, hlen, h0, h3, hlt, hla, ↓EvC_seq, ↓EvC_skip, ↓EvC_exit, ↓EvC_ret, ↓EvC_block, ↓EvC_cond, ↓ev_region, ↓runL_cons, ↓runL_nil, ↓stepO_none, ↓stepO_guard, ↓aop_move, ↓aop_assign, ↓aop_load, ↓aop_store, ↓aop_alloc, ↓aop_box, ↓aop_nilCheck, ↓aop_fieldAddr, ↓aop_field, ↓aop_indexAddr, ↓aop_binOp, ↓aop_pick, ↓aop_extract, ↓aop_buildSlice, ↓aop_slice, ↓aop_not, ↓aop_call, ↓callA_len, ↓callA_append, ev_tmp, ev_const, ofV_int, ofV_bool, ofV_str, ofV_nilSlice, ofV_nilPtr, putA_some, putA_none, gs_self, gs_ne, List.length_set, Option.bind_some, Option.map_some, intBinA, evL, evO, evP, ne_eq, not_false_eq_true, if_true, if_false, reduceCtorEq, ite_true, ite_false, reduceIte, put_app, AV.cells, and_true, true_and, and_self, decide_true, decide_false, ↓yielded_eq, yv_some, boolOf_bool, List.getElem?_toArray, List.getElem?_cons_zero, List.getElem?_cons_succ, Nat.reduceLT, Nat.reduceEqDiff, beq_self_eq_true, Option.some_beq_some, wr_app, wr_app0, rd_app, rd_app0, rdL_here, rdL_next, wrL_here, wrL_next, spl, List.all_cons, List.all_nil, AV.one, Bool.and_self, Bool.true_and, List.drop_zero, List.take_succ_cons, List.take_zero, List.drop_succ_cons, List.head?_cons, Nat.reduceAdd, Nat.reduceLeDiff, List.length_cons, List.length_nil, List.nil_append, List.cons_append, List.set_cons_zero, List.set_cons_succ, Int.toNat_natCast, Nat.add_zero, b_ft, b_tf, Bool.false_eq_true]
    refine ⟨_, _, [], by rw [List.append_nil], by simp only [List.length_set, hlen], .inl ⟨by simp, rfl, by simp only [hlen, h0, gs_self, gs_ne, List.length_set, ne_eq, Nat.reduceEqDiff, Nat.reduceLT, not_false_eq_true]⟩⟩
  | succ d ih =>
    intro j tm H hd hj hv hlen h0 h3
    obtain ⟨e, he⟩ : ∃ e, l[j]? = some e := ⟨_, List.getElem?_eq_getElem (by omega)⟩
    obtain ⟨i, k, hi, hr⟩ := hv.ix j e he
    have hdl : l.drop j = e :: l.drop (j + 1) := by rw [List.drop_eq_getElem_cons (by omega)]; congr 1; rw [List.getElem?_eq_getElem (by omega)] at he; exact Option.some.inj he
    rcases ref_valid_round hi (fun L => rd_old hr L) (fun L => by have := rd_sub (rd_old hr L) 0 5 (by omega); simpa [E6.cells] using this) (fun L => by have := rd_sub (rd_old hr L) 5 1 (by omega); simpa [E6.cells] using this) hv.len (by omega) hl hlen h0 h3 with ⟨hb, tm', L, hev, hl', h2⟩ | ⟨hb, tm', L, hev, hl', g0, g3⟩
    · exact ⟨_, tm', L, hev, hl', .inr ⟨by rw [hdl, List.any_cons, hb]; rfl, rfl, h2⟩⟩
    · obtain ⟨e', tm2, L2, hev2, hl2, hc⟩ := ih (j + 1) tm' (H ++ L) (by omega) (by omega) (hv.more L) hl' g0 g3
      refine ⟨e', tm2, L ++ L2, by rw [hev, hev2, List.append_assoc], hl2, ?_⟩
      rw [hdl, List.any_cons, hb, Bool.false_or]
      exact hc
end Go.Dv
