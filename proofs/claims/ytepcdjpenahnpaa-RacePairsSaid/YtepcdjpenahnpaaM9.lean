/- Texts of the evaluator and of the laws' walks, put together in the order of their build: N9, T55 (own work). -/
import Derived.Test.YtepcdjpenahnpaaM8

/- Names for the bodies and loops of functions of the translation, by their place in it (written by gen.py, own work). -/
namespace Go.Dv
open Go.Proofs
set_option maxRecDepth 100000
noncomputable def c4 : Code := Try.f4.body.getD .skip
theorem fe4 (args : List AV) (H : AH) : Ev Try.prog C4 4 args H = (EvC Try.prog C4 c4 (args ++ List.replicate (56 - args.length) undefA, H)).bind fun r => match r with | (.normal, s) => some ((s.1.getD 4 undefA), s.2) | (.ret, s) => some ((s.1.getD 4 undefA), s.2) | _ => none := Ev_eq Try.func4 rfl args H (orc4 (by decide) args H)
theorem fc4 (C : Cfg Try.prog) (slot : Option Nat) (tm : List AV) (H : AH) (o : Oper) (xs : Array Operand) (ats : Array TypeId) : callA Try.prog C slot (evalA tm) o ⟨.value (.func 4), xs, ats⟩ H = (evL (evalA tm) xs.toList).map fun vs => (.enter 4 vs, H) := callF (by rw [Try.func4]; rfl) slot _ H o xs ats rfl
end Go.Dv

/- The law RacePrefix on abstract heaps (printed by t55.py, own work). -/
namespace Go.Dv
open Go.Proofs
set_option maxRecDepth 100000
set_option linter.unusedSimpArgs false
set_option linter.unusedVariables false
attribute [local congr] bind_congr_first

theorem step_out (st : FS) (x : E6) : ∃ L, (st.step x).out = st.out ++ L := by
  rw [step_eq]
  split
  · exact ⟨[], by simp⟩
  · split
    · exact ⟨_, rfl⟩
    · split <;> exact ⟨[], by simp⟩
theorem fold_out : ∀ (r : List E6) (st : FS), ∃ L, (r.foldl FS.step st).out = st.out ++ L
  | [], st => ⟨[], by simp⟩
  | x :: r, st => by
    obtain ⟨L1, h1⟩ := step_out st x
    obtain ⟨L2, h2⟩ := fold_out r (st.step x)
    exact ⟨L1 ++ L2, by rw [List.foldl_cons, h2, h1, List.append_assoc]⟩
theorem find_prefix (l : List E6) (n : Nat) : ∃ L, findS l = findS (l.take n) ++ L := by
  obtain ⟨L, h⟩ := fold_out (l.drop n) ((l.take n).foldl FS.step (absF [] [] []))
  refine ⟨L, ?_⟩
  unfold findS
  rw [← h, ← List.foldl_append, List.take_append_drop]

theorem un24 : Try.prog.underlying 24 = some (.slice 38) := by kernel_rfl
theorem un31 : Try.prog.underlying 31 = some (.int .u16) := by kernel_rfl
theorem un3 : Try.prog.underlying 3 = some (.int .i64) := by kernel_rfl
theorem ce38 : Try.prog.cellsOf 38 = 10 := by kernel_rfl
theorem in38 : (Try.prog.info? 38).isSome = true := by kernel_rfl
theorem sl24 (H : AH) (i k len cap : Nat) (ex : Bool) (n : Nat) (h : n ≤ cap) : sliceA Try.prog 24 H (.slice i k 10 len cap ex) none (some (I n)) none = some (.slice i k 10 n cap ex) := by
  obtain ⟨f, hf⟩ := Option.isSome_iff_exists.1 in38
  unfold sliceA
  simp [un24, ce38, boundA, h, hf]
theorem sl24n (H : AH) : sliceA Try.prog 24 H .nilSlice none (some (I ((0 : Nat) : Int))) none = some .nilSlice := by kernel_rfl

theorem RaceRow.cut {b : Nat} {H : AH} {v : AV} {O : List (E6 × E6)} (h : RaceRow b H v O) {m : Nat} (hm : m ≤ O.length) : ∃ v', (∀ H', sliceA Try.prog 24 H' v none (some (I m)) none = some v') ∧ RRow H v' (O.take m) := by
  obtain ⟨bo, rfl, ho⟩ := h
  cases O with
  | nil =>
    obtain rfl : m = 0 := by simpa using hm
    exact ⟨.nilSlice, fun H' => sl24n H', fun H => ln24n H, fun j p hp => by simp at hp⟩
  | cons p O' =>
    obtain ⟨_, hb⟩ := ho (by simp)
    have hl : ((p :: O').take m).length = m := by simp at hm ⊢; omega
    refine ⟨_, fun H' => sl24 H' bo 0 _ _ false m hm, fun H => (ln24 H ..).trans (by rw [hl]), fun j q hq => ⟨bo, j * 10, ?_, rd_flatR hb (p := q) ?_⟩⟩
    · have hj := lt_of_get hq
      rw [ia24, if_pos ⟨by omega, by omega, rfl⟩]; simp
    · rw [List.getElem?_take] at hq
      split at hq
      · exact hq
      · cases hq

theorem any_take (l : List E6) (n : Nat) (h : l.any E6.bad = false) : (l.take n).any E6.bad = false := by
  rw [Bool.eq_false_iff] at h ⊢
  intro ha
  obtain ⟨x, hx, hb⟩ := List.any_eq_true.1 ha
  exact h (List.any_eq_true.2 ⟨x, List.mem_of_mem_take hx, hb⟩)

theorem law4_ev (H : AH) (v : AV) (l : List E6) (a : Int) (ha : 0 ≤ a ∧ a ≤ 65535) (hl : l.length < 2 ^ 62) (hv : EvS H v l) : ∃ H', Ev Try.prog C4 4 [v, .int .u16 a] H = some (.bool true, H') := by
  have g0 : ([v, .int .u16 a] ++ List.replicate (56 - [v, .int .u16 a].length) undefA).length = 56 := by simp
  have g1 : ([v, .int .u16 a] ++ List.replicate (56 - [v, .int .u16 a].length) undefA).getD 0 undefA = v := rfl
  have g2 : ([v, .int .u16 a] ++ List.replicate (56 - [v, .int .u16 a].length) undefA).getD 1 undefA = .int .u16 a := rfl
  have hla := hv.evs.len
  have e0 := k4_ref_valid hv.evs hl
  rw [fe4]
  generalize [v, .int .u16 a] ++ List.replicate (56 - [v, .int .u16 a].length) undefA = tm at *
  cases hb : (decide ((l.length : Int) ≤ 4000) && !(l.any E6.bad))
  · rw [hb] at e0
    apply Exists.intro
    simp -implicitDefEqProofs only [c4, Try.f4, Option.getD_some, g0, g1, g2, hla, e0, k4_awake, ↓fc15, ↓fc17, Bool.not_true, Bool.not_false, Bool.true_and, Bool.and_true, Bool.false_and, Bool.and_false, cond_true, cond_false, boolOf_undef, nb, beq_self_eq_true, Bool.and_self, z_e1, z_e0, ↓EvC_seq, ↓EvC_skip, ↓EvC_exit, ↓EvC_ret, ↓EvC_block, ↓EvC_cond, ↓ev_region, ↓runL_cons, ↓runL_nil, ↓stepO_none, ↓stepO_guard, ↓aop_move, ↓aop_assign, ↓aop_load, ↓aop_store, ↓aop_alloc, ↓aop_box, ↓aop_nilCheck, ↓aop_fieldAddr, ↓aop_field, ↓aop_indexAddr, ↓aop_binOp, ↓aop_pick, ↓aop_extract, ↓aop_buildSlice, ↓aop_slice, ↓aop_not, ↓aop_call, ↓callA_len, ↓callA_append, ev_tmp, ev_const, ofV_int, ofV_bool, ofV_str, ofV_nilSlice, ofV_nilPtr, putA_some, putA_none, gs_self, gs_ne, List.length_set, Option.bind_some, Option.map_some, intBinA, evL, evO, evP, ne_eq, not_false_eq_true, if_true, if_false, reduceCtorEq, ite_true, ite_false, reduceIte, put_app, AV.cells, and_true, true_and, and_self, decide_true, decide_false, ↓yielded_eq, yv_some, boolOf_bool, List.getElem?_toArray, List.getElem?_cons_zero, List.getElem?_cons_succ, Nat.reduceLT, Nat.reduceEqDiff, beq_self_eq_true, Option.some_beq_some, wr_app, wr_app0, rd_app, rd_app0, rdL_here, rdL_next, wrL_here, wrL_next, spl, List.all_cons, List.all_nil, AV.one, Bool.and_self, Bool.true_and, List.drop_zero, List.take_succ_cons, List.take_zero, List.drop_succ_cons, List.head?_cons, Nat.reduceAdd, Nat.reduceLeDiff, List.length_cons, List.length_nil, List.nil_append, List.cons_append, List.set_cons_zero, List.set_cons_succ, Int.toNat_natCast, Nat.add_zero, b_ft, b_tf, Bool.false_eq_true]
    with_reducible rfl
  · rw [hb] at e0
    have h4000 : l.length ≤ 4000 := by simp at hb; omega
    have hbad : l.any E6.bad = false := by simp at hb; simpa using hb.2
    obtain ⟨n, hn, hnl⟩ : ∃ n : Nat, a.tmod ((l.length : Int) + 1) = (n : Int) ∧ n ≤ l.length := by
      refine ⟨a.toNat % (l.length + 1), ?_, by have := Nat.mod_lt a.toNat (show l.length + 1 > 0 by omega); omega⟩
      obtain ⟨m, rfl⟩ := Int.eq_ofNat_of_zero_le ha.1
      rw [show ((l.length : Int) + 1) = ((l.length + 1 : Nat) : Int) by omega]
      rw [show (Int.toNat (m : Int)) = m from rfl]
      exact (Int.ofNat_tmod m (l.length + 1)).symm
    have w1 : IntKind.i64.wrap a = a := IntWalk.i64_in a (by omega)
    have w2 : IntKind.i64.wrap ((l.length : Int) + 1) = (l.length : Int) + 1 := IntWalk.i64_in _ (by omega)
    have nz : ¬ ((l.length : Int) + 1 = 0) := by omega
    have hval : (!(decide ((l.length : Int) > 4000)) && !(l.any E6.bad)) = true := by rw [hbad]; simp; omega
    obtain ⟨H1, ov, k1, n1, good, _⟩ := find_ev hv (by omega)
    obtain ⟨r1, rl1, e1⟩ := good hval
    have hv1 := hv.same k1
    obtain ⟨v2, hsl, hv2⟩ := hv1.pre hnl
    have htl : (l.take n).length = n := by simp; omega
    have hval2 : (!(decide (((l.take n).length : Int) > 4000)) && !((l.take n).any E6.bad)) = true := by rw [any_take l n hbad, htl]; simp; omega
    obtain ⟨H2, ov2, k2, n2, good2, _⟩ := find_ev hv2 (by rw [htl]; omega)
    obtain ⟨r2, rl2, e2⟩ := good2 hval2
    obtain ⟨L, hL⟩ := find_prefix l n
    have hle : (findS (l.take n)).length ≤ (findS l).length := by rw [hL]; simp
    have r1' := r1.keeps k2
    obtain ⟨v3, hs3, r3⟩ := r1'.cut hle
    have htk : (findS l).take (findS (l.take n)).length = findS (l.take n) := by rw [hL]; simp
    rw [htk] at r3
    have e3 := same_ev r3 r2.row (by omega)
    rw [racesEq_self] at e3
    simp only [decide_true, Bool.and_self] at e3
    have lo := r1'.row.len
    have lo2 := r2.row.len
    have hcmp : decide (((findS (l.take n)).length : Int) ≤ ((findS l).length : Int)) = true := by simp; omega
    apply Exists.intro
    simp -implicitDefEqProofs only [c4, Try.f4, Option.getD_some, g0, g1, g2, hla, e0, e1, e2, e3, w1, w2, nz, hn, hsl, hs3, lo, lo2, hcmp, k4_awake, ↓aop_conv un31 un3, ↓fc15, ↓fc16, ↓fc17, ↓fc19, Bool.not_true, Bool.not_false, Bool.true_and, Bool.and_true, Bool.false_and, Bool.and_false, cond_true, cond_false, boolOf_undef, nb, beq_self_eq_true, Bool.and_self, z_e1, z_e0, ↓EvC_seq, ↓EvC_skip, ↓EvC_exit, ↓EvC_ret, ↓EvC_block, ↓EvC_cond, ↓ev_region, ↓runL_cons, ↓runL_nil, ↓stepO_none, ↓stepO_guard, ↓aop_move, ↓aop_assign, ↓aop_load, ↓aop_store, ↓aop_alloc, ↓aop_box, ↓aop_nilCheck, ↓aop_fieldAddr, ↓aop_field, ↓aop_indexAddr, ↓aop_binOp, ↓aop_pick, ↓aop_extract, ↓aop_buildSlice, ↓aop_slice, ↓aop_not, ↓aop_call, ↓callA_len, ↓callA_append, ev_tmp, ev_const, ofV_int, ofV_bool, ofV_str, ofV_nilSlice, ofV_nilPtr, putA_some, putA_none, gs_self, gs_ne, List.length_set, Option.bind_some, Option.map_some, intBinA, evL, evO, evP, ne_eq, not_false_eq_true, if_true, if_false, reduceCtorEq, ite_true, ite_false, reduceIte, put_app, AV.cells, and_true, true_and, and_self, decide_true, decide_false, ↓yielded_eq, yv_some, boolOf_bool, List.getElem?_toArray, List.getElem?_cons_zero, List.getElem?_cons_succ, Nat.reduceLT, Nat.reduceEqDiff, beq_self_eq_true, Option.some_beq_some, wr_app, wr_app0, rd_app, rd_app0, rdL_here, rdL_next, wrL_here, wrL_next, spl, List.all_cons, List.all_nil, AV.one, Bool.and_self, Bool.true_and, List.drop_zero, List.take_succ_cons, List.take_zero, List.drop_succ_cons, List.head?_cons, Nat.reduceAdd, Nat.reduceLeDiff, List.length_cons, List.length_nil, List.nil_append, List.cons_append, List.set_cons_zero, List.set_cons_succ, Int.toNat_natCast, Nat.add_zero, b_ft, b_tf, Bool.false_eq_true]
    with_reducible rfl

end Go.Dv
