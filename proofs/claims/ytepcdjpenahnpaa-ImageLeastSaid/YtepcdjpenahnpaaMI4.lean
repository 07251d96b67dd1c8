/- Texts of the evaluator and of the laws' walks, put together in the order of their build: T100 (own work). -/
import Derived.Test.YtepcdjpenahnpaaMI3

/- the law ImageFrames on abstract heaps (printed by a program of mine, own work). -/
namespace Go.Dv
open Go.Proofs
set_option maxRecDepth 100000
set_option linter.unusedSimpArgs false
set_option linter.unusedVariables false
attribute [local congr] bind_congr_first

/-! min and max -/
section
variable {P : Program} {C : Cfg P}
theorem pure2 {o : Oper} {ev : Operand → Option AV} (x y : Operand) (ho : o.op.operands.toList = [x, y]) (h : ev x = none ∨ ev y = none) : pureA P ev o = none := by
  unfold pureA
  rw [ho]
  rcases h with h | h <;> simp [h]
theorem pure_min (ev : Operand → Option AV) (dst : Option Tmp) (ty : TypeId) (pos : String) (after : Array Edge) (g : Option (Nat × Bool)) (x y : Operand) (ats : Array TypeId) {k k' : IntKind} {m n : Int} (hx : ev x = some (.int k m)) (hy : ev y = some (.int k' n)) :
    pureA P ev ⟨dst, .call ⟨.builtin .min, #[x, y], ats⟩, ty, pos, after, g⟩ = some (.val (.int k (if n < m then n else m))) := by
  have e1 : rhoOf ev x = .int k m := by simp [rhoOf, hx, toV]
  have e2 : rhoOf ev y = .int k' n := by simp [rhoOf, hy, toV]
  have hr : pureRun P (execOp (rhoOf ev) ⟨dst, .call ⟨.builtin .min, #[x, y], ats⟩, ty, pos, after, g⟩) = some (.value (.int k (if n < m then n else m))) := by
    simp only [execOp, resolve, List.map_toArray, List.map_cons, List.map_nil, e1, e2]
    rfl
  unfold pureA
  rw [if_pos (by rw [show (Op.call ⟨.builtin .min, #[x, y], ats⟩).operands.toList = [x, y] from rfl]; simp [notSelect, hx, hy, toV]), hr]; rfl
theorem pure_max (ev : Operand → Option AV) (dst : Option Tmp) (ty : TypeId) (pos : String) (after : Array Edge) (g : Option (Nat × Bool)) (x y : Operand) (ats : Array TypeId) {k k' : IntKind} {m n : Int} (hx : ev x = some (.int k m)) (hy : ev y = some (.int k' n)) :
    pureA P ev ⟨dst, .call ⟨.builtin .max, #[x, y], ats⟩, ty, pos, after, g⟩ = some (.val (.int k (if n > m then n else m))) := by
  have e1 : rhoOf ev x = .int k m := by simp [rhoOf, hx, toV]
  have e2 : rhoOf ev y = .int k' n := by simp [rhoOf, hy, toV]
  have hr : pureRun P (execOp (rhoOf ev) ⟨dst, .call ⟨.builtin .max, #[x, y], ats⟩, ty, pos, after, g⟩) = some (.value (.int k (if n > m then n else m))) := by
    simp only [execOp, resolve, List.map_toArray, List.map_cons, List.map_nil, e1, e2]
    rfl
  unfold pureA
  rw [if_pos (by rw [show (Op.call ⟨.builtin .max, #[x, y], ats⟩).operands.toList = [x, y] from rfl]; simp [notSelect, hx, hy, toV]), hr]; rfl

def minI (m n : Int) : Int := if n < m then n else m
def maxI (m n : Int) : Int := if n > m then n else m
theorem callA_min (slot : Option Nat) (ev : Operand → Option AV) (dst : Option Tmp) (ty : TypeId) (pos : String) (after : Array Edge) (g : Option (Nat × Bool)) (H : AH) (x y : Operand) (ats : Array TypeId) :
    callA P C slot ev ⟨dst, .call ⟨.builtin .min, #[x, y], ats⟩, ty, pos, after, g⟩ ⟨.builtin .min, #[x, y], ats⟩ H = (ev x).bind fun a => (ev y).bind fun b => match a, b with
      | .int k m, .int _ n => some (.val (.int k (minI m n)), H)
      | _, _ => (pureA P ev ⟨dst, .call ⟨.builtin .min, #[x, y], ats⟩, ty, pos, after, g⟩).map fun n => (n, H) := by
  unfold callA
  simp only [evL]
  cases hx : ev x with
  | none => rfl
  | some a => cases hy : ev y with
    | none => rfl
    | some b =>
      simp only [Option.bind_some, Option.map_some]
      split
      · rw [pure_min ev dst ty pos after g x y ats hx hy]; rfl
      · rfl
theorem callA_max (slot : Option Nat) (ev : Operand → Option AV) (dst : Option Tmp) (ty : TypeId) (pos : String) (after : Array Edge) (g : Option (Nat × Bool)) (H : AH) (x y : Operand) (ats : Array TypeId) :
    callA P C slot ev ⟨dst, .call ⟨.builtin .max, #[x, y], ats⟩, ty, pos, after, g⟩ ⟨.builtin .max, #[x, y], ats⟩ H = (ev x).bind fun a => (ev y).bind fun b => match a, b with
      | .int k m, .int _ n => some (.val (.int k (maxI m n)), H)
      | _, _ => (pureA P ev ⟨dst, .call ⟨.builtin .max, #[x, y], ats⟩, ty, pos, after, g⟩).map fun n => (n, H) := by
  unfold callA
  simp only [evL]
  cases hx : ev x with
  | none => rfl
  | some a => cases hy : ev y with
    | none => rfl
    | some b =>
      simp only [Option.bind_some, Option.map_some]
      split
      · rw [pure_max ev dst ty pos after g x y ats hx hy]; rfl
      · rfl
end



theorem un3 : Try.prog.underlying 3 = some (.int .i64) := by kernel_rfl
theorem un5 : Try.prog.underlying 5 = some (.int .u8) := by kernel_rfl
/-- the number of frames that a byte stands for -/
def frN (n : Int) : Nat := 1 + (n % 64).toNat
theorem frN_lo (n : Int) : 0 < frN n := by unfold frN; omega
theorem frN_hi (n : Int) : frN n ≤ 64 := by unfold frN; have := Int.emod_lt_of_pos n (show (0 : Int) < 64 by omega); omega
theorem frN_w {n : Int} (hn : 0 ≤ n ∧ n ≤ 255) : IntKind.i64.wrap (1 + n.tmod 64) = ((frN n : Nat) : Int) := by
  have e : n.tmod 64 = n % 64 := Int.tmod_eq_emod_of_nonneg hn.1
  have h1 := Int.emod_nonneg n (show (64 : Int) ≠ 0 by omega)
  have h2 := Int.emod_lt_of_pos n (show (0 : Int) < 64 by omega)
  rw [e, IntWalk.i64_in _ (by omega)]
  unfold frN; omega
theorem wrap_u8 {n : Int} (hn : 0 ≤ n ∧ n ≤ 255) : IntKind.i64.wrap n = n := IntWalk.i64_in _ (by omega)
theorem minI_nat (a b : Nat) : minI (a : Int) (b : Int) = ((min a b : Nat) : Int) := by unfold minI; split <;> omega
theorem maxI_nat (a b : Nat) : maxI (a : Int) (b : Int) = ((max a b : Nat) : Int) := by unfold maxI; split <;> omega
theorem nz64 : ((64 : Int) = 0) = False := by simp
theorem law14_long {G : AH} {v : AV} {t : List Int} (hv : IntS G v t) (hl : t.length > 4000) {n1 n2 : Int} (hn1 : 0 ≤ n1 ∧ n1 ≤ 255) (hn2 : 0 ≤ n2 ∧ n2 ≤ 255) : Ev Try.prog C0 14 [v, .int .u8 n1, .int .u8 n2] G = some (.bool true, G) := by
  have hla := hv.len
  have q : decide ((t.length : Int) > 4000) = true := by simp; omega
  have w1 := wrap_u8 hn1
  have w2 := wrap_u8 hn2
  have x1 := frN_w hn1
  have x2 := frN_w hn2
  have m1 := minI_nat (frN n1) (frN n2)
  have m2 := maxI_nat (frN n1) (frN n2)
  have h6 := awake_ev G
  have g0 : ([v, .int .u8 n1, .int .u8 n2] ++ List.replicate (92 - [v, .int .u8 n1, .int .u8 n2].length) undefA).length = 92 := by simp
  have g1 : ([v, .int .u8 n1, .int .u8 n2] ++ List.replicate (92 - [v, .int .u8 n1, .int .u8 n2].length) undefA).getD 0 undefA = v := rfl
  have g2 : ([v, .int .u8 n1, .int .u8 n2] ++ List.replicate (92 - [v, .int .u8 n1, .int .u8 n2].length) undefA).getD 1 undefA = .int .u8 n1 := rfl
  have g3 : ([v, .int .u8 n1, .int .u8 n2] ++ List.replicate (92 - [v, .int .u8 n1, .int .u8 n2].length) undefA).getD 2 undefA = .int .u8 n2 := rfl
  rw [fe14]
  generalize [v, .int .u8 n1, .int .u8 n2] ++ List.replicate (92 - [v, .int .u8 n1, .int .u8 n2].length) undefA = tm at *
  simp -implicitDefEqProofs only [c14, Try.f14, Option.getD_some, g0, g1, g2, g3, hla, q, w1, w2, x1, x2, m1, m2, h6, nz64, ↓aop_conv un5 un3, ↓callA_min, ↓callA_max, ↓fc26, Bool.not_true, Bool.not_false, Bool.true_and, Bool.and_true, Bool.false_and, Bool.and_false, Bool.true_or, Bool.or_true, Bool.false_or, Bool.or_false, cond_true, cond_false, boolOf_undef, nb, beq_self_eq_true, Bool.and_self, ↓ld3, ↓st3, z3, boolOf_undef, nb, ↓aop_lookup, ↓aop_makeFunc, ↓aop_makeMap, ↓aop_mapUpdate, ↓aop_buildSlice, ↓aop_extract, ↓EvC_seq, ↓EvC_skip, ↓EvC_exit, ↓EvC_ret, ↓EvC_block, ↓EvC_cond, ↓ev_region, ↓runL_cons, ↓runL_nil, ↓stepO_none, ↓stepO_guard, ↓aop_move, ↓aop_assign, ↓aop_load, ↓aop_store, ↓aop_alloc, ↓aop_box, ↓aop_nilCheck, ↓aop_fieldAddr, ↓aop_field, ↓aop_indexAddr, ↓aop_binOp, ↓aop_pick, ↓aop_extract, ↓aop_buildSlice, ↓aop_slice, ↓aop_not, ↓aop_call, ↓callA_len, ↓callA_append, ev_tmp, ev_const, ofV_int, ofV_bool, ofV_str, ofV_nilSlice, ofV_nilPtr, putA_some, putA_none, gs_self, gs_ne, List.length_set, Option.bind_some, Option.map_some, intBinA, evL, evO, evP, ne_eq, not_false_eq_true, if_true, if_false, reduceCtorEq, ite_true, ite_false, reduceIte, put_app, AV.cells, and_true, true_and, and_self, decide_true, decide_false, ↓yielded_eq, yv_some, boolOf_bool, List.getElem?_toArray, List.getElem?_cons_zero, List.getElem?_cons_succ, Nat.reduceLT, Nat.reduceEqDiff, beq_self_eq_true, Option.some_beq_some, wr_app, wr_app0, rd_app, rd_app0, rdL_here, rdL_next, wrL_here, wrL_next, spl, List.all_cons, List.all_nil, AV.one, Bool.and_self, Bool.true_and, List.drop_zero, List.take_succ_cons, List.take_zero, List.drop_succ_cons, List.head?_cons, Nat.reduceAdd, Nat.reduceLeDiff, List.length_cons, List.length_nil, List.nil_append, List.cons_append, List.set_cons_zero, List.set_cons_succ, Int.toNat_natCast, Nat.add_zero, b_ft, b_tf, Bool.false_eq_true]
theorem law14_ok {G : AH} {v : AV} {t : List Int} (hv : IntS G v t) (hl : t.length ≤ 4000) {n1 n2 : Int} (hn1 : 0 ≤ n1 ∧ n1 ≤ 255) (hn2 : 0 ≤ n2 ∧ n2 ≤ 255) : ∃ G', Ev Try.prog C0 14 [v, .int .u8 n1, .int .u8 n2] G = some (.bool true, G') := by
  have hla := hv.len
  have q : decide ((t.length : Int) > 4000) = false := by simp; omega
  have w1 := wrap_u8 hn1
  have w2 := wrap_u8 hn2
  have x1 := frN_w hn1
  have x2 := frN_w hn2
  have m1 := minI_nat (frN n1) (frN n2)
  have m2 := maxI_nat (frN n1) (frN n2)
  have l1 := frN_lo n1
  have l2 := frN_lo n2
  have u1 := frN_hi n1
  have u2 := frN_hi n2
  have hf0 : 0 < min (frN n1) (frN n2) := by omega
  have hg : max (frN n1) (frN n2) ≤ 64 := by omega
  have hfg : min (frN n1) (frN n2) ≤ max (frN n1) (frN n2) := by omega
  generalize min (frN n1) (frN n2) = f at *
  generalize max (frN n1) (frN n2) = g at *
  have hlaw := frames_more hf0 hfg t [] 0 0 List.nodup_nil (Nat.le_refl _)
  rw [show lastN f ([] : List Int) = [] by simp [lastN], show lastN g ([] : List Int) = [] by simp [lastN]] at hlaw
  have hlen := run_len (f := f) hf0 t [] 0 (by simp)
  have hlen2 := run_len (f := g) (by omega) t [] 0 (by simp)
  obtain ⟨G1, h1, k1, b1⟩ := faults_ev hf0 (by omega) hv hl
  have hv1 := hv.same k1
  obtain ⟨G2, h2, k2, b2⟩ := faults_ev (f := g) (by omega) hg hv1 hl
  have hv2 := hv1.same k2
  obtain ⟨G3, y3, h3, s3, k3, b3⟩ := heldp_ev hf0 (by omega) hv2 hl
  have hv3 := hv2.same k3
  obtain ⟨G4, y4, h4, s4, k4, b4⟩ := heldp_ev (f := g) (by omega) hg hv3 hl
  have s3' := s3.keep k4
  have h5 := con_ev s4.ints s3'.ints (by rw [sorted_len]; omega) (by rw [sorted_len]; omega) (fun x hx => sorted_mem.2 (hlaw.2 x (sorted_mem.1 hx)))
  have h6 := awake_ev G4
  have h7 := s3'.ints.len G4
  have d1 : decide (((runS g t [] 0).2 : Int) ≤ ((runS f t [] 0).2 : Int)) = true := by simp; omega
  have d2 : decide (((sorted (runS f t [] 0).1).length : Int) ≤ (f : Int)) = true := by rw [sorted_len]; simp; omega
  generalize runS f t [] 0 = r at *
  generalize runS g t [] 0 = r2 at *
  have g0 : ([v, .int .u8 n1, .int .u8 n2] ++ List.replicate (92 - [v, .int .u8 n1, .int .u8 n2].length) undefA).length = 92 := by simp
  have g1 : ([v, .int .u8 n1, .int .u8 n2] ++ List.replicate (92 - [v, .int .u8 n1, .int .u8 n2].length) undefA).getD 0 undefA = v := rfl
  have g2 : ([v, .int .u8 n1, .int .u8 n2] ++ List.replicate (92 - [v, .int .u8 n1, .int .u8 n2].length) undefA).getD 1 undefA = .int .u8 n1 := rfl
  have g3 : ([v, .int .u8 n1, .int .u8 n2] ++ List.replicate (92 - [v, .int .u8 n1, .int .u8 n2].length) undefA).getD 2 undefA = .int .u8 n2 := rfl
  rw [fe14]
  generalize [v, .int .u8 n1, .int .u8 n2] ++ List.replicate (92 - [v, .int .u8 n1, .int .u8 n2].length) undefA = tm at *
  refine ⟨G4, ?_⟩
  simp -implicitDefEqProofs only [c14, Try.f14, Option.getD_some, g0, g1, g2, g3, hla, q, w1, w2, x1, x2, m1, m2, h1, h2, h3, h4, h5, h6, h7, d1, d2, nz64, ↓aop_conv un5 un3, ↓callA_min, ↓callA_max, ↓fc26, ↓fc30, ↓fc40, ↓fc43, Bool.not_true, Bool.not_false, Bool.true_and, Bool.and_true, Bool.false_and, Bool.and_false, Bool.true_or, Bool.or_true, Bool.false_or, Bool.or_false, cond_true, cond_false, boolOf_undef, nb, beq_self_eq_true, Bool.and_self, ↓ld3, ↓st3, z3, boolOf_undef, nb, ↓aop_lookup, ↓aop_makeFunc, ↓aop_makeMap, ↓aop_mapUpdate, ↓aop_buildSlice, ↓aop_extract, ↓EvC_seq, ↓EvC_skip, ↓EvC_exit, ↓EvC_ret, ↓EvC_block, ↓EvC_cond, ↓ev_region, ↓runL_cons, ↓runL_nil, ↓stepO_none, ↓stepO_guard, ↓aop_move, ↓aop_assign, ↓aop_load, ↓aop_store, ↓aop_alloc, ↓aop_box, ↓aop_nilCheck, ↓aop_fieldAddr, ↓aop_field, ↓aop_indexAddr, ↓aop_binOp, ↓aop_pick, ↓aop_extract, ↓aop_buildSlice, ↓aop_slice, ↓aop_not, ↓aop_call, ↓callA_len, ↓callA_append, ev_tmp, ev_const, ofV_int, ofV_bool, ofV_str, ofV_nilSlice, ofV_nilPtr, putA_some, putA_none, gs_self, gs_ne, List.length_set, Option.bind_some, Option.map_some, intBinA, evL, evO, evP, ne_eq, not_false_eq_true, if_true, if_false, reduceCtorEq, ite_true, ite_false, reduceIte, put_app, AV.cells, and_true, true_and, and_self, decide_true, decide_false, ↓yielded_eq, yv_some, boolOf_bool, List.getElem?_toArray, List.getElem?_cons_zero, List.getElem?_cons_succ, Nat.reduceLT, Nat.reduceEqDiff, beq_self_eq_true, Option.some_beq_some, wr_app, wr_app0, rd_app, rd_app0, rdL_here, rdL_next, wrL_here, wrL_next, spl, List.all_cons, List.all_nil, AV.one, Bool.and_self, Bool.true_and, List.drop_zero, List.take_succ_cons, List.take_zero, List.drop_succ_cons, List.head?_cons, Nat.reduceAdd, Nat.reduceLeDiff, List.length_cons, List.length_nil, List.nil_append, List.cons_append, List.set_cons_zero, List.set_cons_succ, Int.toNat_natCast, Nat.add_zero, b_ft, b_tf, Bool.false_eq_true]
theorem law14_ev {G : AH} {v : AV} {t : List Int} (hv : IntS G v t) (n1 : Int) (hn1 : 0 ≤ n1 ∧ n1 ≤ 255) (n2 : Int) (hn2 : 0 ≤ n2 ∧ n2 ≤ 255) : ∃ G', Ev Try.prog C0 14 [v, .int .u8 n1, .int .u8 n2] G = some (.bool true, G') := by
  by_cases hl : t.length > 4000
  · exact ⟨G, law14_long hv hl hn1 hn2⟩
  · exact law14_ok hv (by omega) hn1 hn2
end Go.Dv
