/- Texts of the evaluator and of the laws' walks, put together in the order of their build: P94, N14, T105, T106, T107 (own work). -/
import Derived.Test.YtepcdjpenahnpaaMI6

/- Plain laws: a list of numbers as bytes, eight for each, and back (own work). -/
namespace Go.Dv
set_option linter.unusedVariables false
set_option linter.unusedSimpArgs false
/-- byte k of a number -/
def byI (n : Int) (k : Nat) : Int := (n % 18446744073709551616) / 256 ^ k % 256
def byL (n : Int) : List Int := (List.range 8).map (byI n)
def keyL (l : List Int) : List Int := l.flatMap byL
theorem byL_length (n : Int) : (byL n).length = 8 := by simp [byL]
theorem byI_range (n : Int) (k : Nat) : 0 ≤ byI n k ∧ byI n k ≤ 255 := by
  unfold byI
  have h1 := Int.emod_nonneg ((n % 18446744073709551616) / 256 ^ k) (show (256 : Int) ≠ 0 by omega)
  have h2 := Int.emod_lt_of_pos ((n % 18446744073709551616) / 256 ^ k) (show (0 : Int) < 256 by omega)
  omega
theorem digits : ∀ (k M N : Nat), (∀ j, j < k → M / 256 ^ j % 256 = N / 256 ^ j % 256) → M < 256 ^ k → N < 256 ^ k → M = N
  | 0, M, N, _, hM, hN => by simp at hM hN; omega
  | k + 1, M, N, h, hM, hN => by
    have h0 := h 0 (by omega)
    simp at h0
    have hd := digits k (M / 256) (N / 256) (fun j hj => by
      have := h (j + 1) (by omega)
      rw [Nat.pow_succ', ← Nat.div_div_eq_div_mul, ← Nat.div_div_eq_div_mul] at this
      exact this) (by rw [Nat.pow_succ'] at hM; exact Nat.div_lt_of_lt_mul hM) (by rw [Nat.pow_succ'] at hN; exact Nat.div_lt_of_lt_mul hN)
    omega
def inI (n : Int) : Prop := -9223372036854775808 ≤ n ∧ n ≤ 9223372036854775807
theorem byI_nat {n : Int} {M : Nat} (h : n % 18446744073709551616 = (M : Int)) (k : Nat) : byI n k = ((M / 256 ^ k % 256 : Nat) : Int) := by
  unfold byI
  rw [h]
  rw [show ((256 : Int) ^ k) = ((256 ^ k : Nat) : Int) by simp]
  rfl
theorem byL_inj {m n : Int} (hm : inI m) (hn : inI n) (h : byL m = byL n) : m = n := by
  obtain ⟨M, hM⟩ : ∃ M : Nat, m % 18446744073709551616 = (M : Int) := ⟨(m % 18446744073709551616).toNat, by have := Int.emod_nonneg m (show (18446744073709551616 : Int) ≠ 0 by omega); omega⟩
  obtain ⟨N, hN⟩ : ∃ N : Nat, n % 18446744073709551616 = (N : Int) := ⟨(n % 18446744073709551616).toNat, by have := Int.emod_nonneg n (show (18446744073709551616 : Int) ≠ 0 by omega); omega⟩
  have key : M = N := by
    refine digits 8 M N (fun j hj => ?_) (by omega) (by omega)
    have e : (byL m)[j]? = (byL n)[j]? := by rw [h]
    simp only [byL, List.getElem?_map, List.getElem?_range hj, Option.map_some, Option.some.injEq] at e
    rw [byI_nat hM, byI_nat hN] at e
    exact_mod_cast e
  subst key
  unfold inI at hm hn
  omega
theorem keyL_inj : ∀ {l m : List Int}, (∀ x ∈ l, inI x) → (∀ x ∈ m, inI x) → keyL l = keyL m → l = m
  | [], [], _, _, _ => rfl
  | [], y :: m, _, _, h => by
    have := congrArg List.length h
    simp [keyL, byL_length] at this
    try omega
  | x :: l, [], _, _, h => by
    have := congrArg List.length h
    simp [keyL, byL_length] at this
    try omega
  | x :: l, y :: m, hl, hm, h => by
    have h' : byL x ++ keyL l = byL y ++ keyL m := h
    obtain ⟨h1, h2⟩ := List.append_inj h' (by rw [byL_length, byL_length])
    rw [byL_inj (hl x (List.mem_cons_self ..)) (hm y (List.mem_cons_self ..)) h1, keyL_inj (fun z hz => hl z (List.mem_cons_of_mem _ hz)) (fun z hz => hm z (List.mem_cons_of_mem _ hz)) h2]
theorem keyL_range {l : List Int} {z : Int} (h : z ∈ keyL l) : 0 ≤ z ∧ z ≤ 255 := by
  unfold keyL byL at h
  simp only [List.mem_flatMap, List.mem_map] at h
  obtain ⟨x, _, k, _, rfl⟩ := h
  exact byI_range x k
theorem keyL_append (l m : List Int) : keyL (l ++ m) = keyL l ++ keyL m := by simp [keyL]
theorem pack_fold : ∀ (ns : List Int) (s : ByteArray), (ns.foldl (fun r n => r.push (UInt8.ofNat n.toNat)) s).data.toList = s.data.toList ++ ns.map fun n => UInt8.ofNat n.toNat
  | [], s => by simp
  | n :: ns, s => by
    rw [List.foldl_cons, pack_fold ns]
    simp [ByteArray.push]
theorem pack_inj : ∀ {l m : List Int}, (∀ z ∈ l, 0 ≤ z ∧ z ≤ 255) → (∀ z ∈ m, 0 ≤ z ∧ z ≤ 255) → packB l = packB m → l = m := by
  intro l m hl hm h
  have h1 := congrArg (fun s : ByteArray => s.data.toList) h
  simp only [packB, pack_fold] at h1
  have h2 := List.append_cancel_left h1
  clear h h1
  induction l generalizing m with
  | nil => cases m with
    | nil => rfl
    | cons y m => simp at h2
  | cons x l ih => cases m with
    | nil => simp at h2
    | cons y m =>
      simp only [List.map_cons, List.cons.injEq] at h2
      have hx := hl x (List.mem_cons_self ..)
      have hy := hm y (List.mem_cons_self ..)
      have e : x = y := by
        have := congrArg UInt8.toNat h2.1
        simp only [UInt8.toNat_ofNat'] at this
        omega
      rw [e, ih (fun z hz => hl z (List.mem_cons_of_mem _ hz)) (fun z hz => hm z (List.mem_cons_of_mem _ hz)) h2.2]
/-- the key of a state -/
def keyS (at' : Int) (h : List Int) : ByteArray := packB (keyL (at' :: h))
theorem keyS_inj {a b : Int} {h g : List Int} (ha : inI a) (hb : inI b) (hh : ∀ x ∈ h, inI x) (hg : ∀ x ∈ g, inI x) (e : keyS a h = keyS b g) : a = b ∧ h = g := by
  have := keyL_inj (l := a :: h) (m := b :: g) (by intro x hx; rcases List.mem_cons.1 hx with rfl | hx; exact ha; exact hh x hx) (by intro x hx; rcases List.mem_cons.1 hx with rfl | hx; exact hb; exact hg x hx) (pack_inj (fun z hz => keyL_range hz) (fun z hz => keyL_range hz) e)
  exact List.cons.inj this
theorem bytes_eq {a b : ByteArray} (h : (a == b) = true) : a = b := by
  have : a.data == b.data := h
  exact ByteArray.ext (by simpa using this)
/-- a byte as the program reckons it -/
theorem by_prog (n : Int) {k : Nat} (hk : k < 8) : IntKind.u8.wrap ((IntKind.u64.wrap n).fdiv (2 ^ min ((8 * k : Nat) : Int).toNat IntKind.u64.bits)) = byI n k := by
  rw [IntKind.wrap_u64, IntKind.wrap_u8]
  have hb : IntKind.u64.bits = 64 := rfl
  rw [hb, Int.toNat_natCast, Nat.min_eq_left (by omega), Int.fdiv_eq_ediv_of_nonneg _ (by exact_mod_cast Nat.zero_le _)]
  unfold byI
  rw [show (2 : Int) ^ (8 * k) = 256 ^ k by rw [Int.pow_mul]; rfl]
end Go.Dv

/- Names for the bodies and loops of functions of the translation, by their place in it (written by gen.py, own work). -/
namespace Go.Dv
open Go.Proofs
set_option maxRecDepth 100000
noncomputable def c8 : Code := Try.f8.body.getD .skip
theorem fe8 (args : List AV) (H : AH) : Ev Try.prog C0 8 args H = (EvC Try.prog C0 c8 (args ++ List.replicate (57 - args.length) undefA, H)).bind fun r => match r with | (.normal, s) => some ((s.1.getD 4 undefA), s.2) | (.ret, s) => some ((s.1.getD 4 undefA), s.2) | _ => none := Ev_eq Try.func8 rfl args H (orc0 (by decide) args H)
theorem fc8 (C : Cfg Try.prog) (slot : Option Nat) (tm : List AV) (H : AH) (o : Oper) (xs : Array Operand) (ats : Array TypeId) : callA Try.prog C slot (evalA tm) o ⟨.value (.func 8), xs, ats⟩ H = (evL (evalA tm) xs.toList).map fun vs => (.enter 8 vs, H) := callF (by rw [Try.func8]; rfl) slot _ H o xs ats rfl
noncomputable def c29 : Code := Try.f29.body.getD .skip
theorem fe29 (args : List AV) (H : AH) : Ev Try.prog C0 29 args H = (EvC Try.prog C0 c29 (args ++ List.replicate (9 - args.length) undefA, H)).bind fun r => match r with | (.normal, s) => some ((s.1.getD 4 undefA), s.2) | (.ret, s) => some ((s.1.getD 4 undefA), s.2) | _ => none := Ev_eq Try.func29 rfl args H (orc0 (by decide) args H)
theorem fc29 (C : Cfg Try.prog) (slot : Option Nat) (tm : List AV) (H : AH) (o : Oper) (xs : Array Operand) (ats : Array TypeId) : callA Try.prog C slot (evalA tm) o ⟨.value (.func 29), xs, ats⟩ H = (evL (evalA tm) xs.toList).map fun vs => (.enter 29 vs, H) := callF (by rw [Try.func29]; rfl) slot _ H o xs ats rfl
noncomputable def b56_0 : Code := atPath [true, true, true, true, true, true, false, true, false, false] (Try.f56.body.getD .skip)
noncomputable def l56_0 : Code := Code.loop b56_0
theorem el56_0 (s : St) : EvC Try.prog C0 l56_0 s = (EvC Try.prog C0 b56_0 s).bind fun r => match r with | (.normal, s') => EvC Try.prog C0 l56_0 s' | r => some r := EvC_loop _ _
noncomputable def b56_1 : Code := atPath [true, true, true, true, true, true, true, false, false, true, true, true, true, true, true, false, false] (Try.f56.body.getD .skip)
noncomputable def l56_1 : Code := Code.loop b56_1
theorem el56_1 (s : St) : EvC Try.prog C0 l56_1 s = (EvC Try.prog C0 b56_1 s).bind fun r => match r with | (.normal, s') => EvC Try.prog C0 l56_1 s' | r => some r := EvC_loop _ _
noncomputable def c56 : Code := Try.f56.body.getD .skip
noncomputable def d56_12 : Code := atPath [true, true, true, true, true, true, false, true, false, false, true, false, false] (Try.f56.body.getD .skip)
theorem ed56_12 (tm : List AV) (H : AH) : EvC Try.prog C0 d56_12 (tm, H) = (runPlan Try.prog C0 (Ev Try.prog C0) H.length (opsAt d56_12) (.take 0 (.take 1 (.take 2 (.take 3 (.take 4 (.take 6 (.take 7 (.take 8 (graft (.all [(5, (.all [(9, (.take 10 (.take 11 (.take 12 .done))))])), (9, (.all [(5, (.take 10 (.take 11 (.take 12 .done))))]))]) .done))))))))) (tm, H)).bind fun s' => some (.normal, s') := ev_draw (by kernel_rfl) (by kernel_rfl) tm H
noncomputable def d56_22 : Code := atPath [true, true, true, true, true, true, true, false, false, true, true, true, false] (Try.f56.body.getD .skip)
theorem ed56_22 (tm : List AV) (H : AH) : EvC Try.prog C0 d56_22 (tm, H) = (runPlan Try.prog C0 (Ev Try.prog C0) H.length (opsAt d56_22) (.take 0 (.take 1 (.take 2 (.take 3 (.take 5 (.take 7 (.take 8 (.take 9 (.take 14 (graft (.all [(4, (.all [(6, (.all [(10, (.all [(11, .done)]))])), (10, (.all [(6, (.all [(11, .done)])), (11, (.all [(6, .done)]))]))])), (10, (.all [(4, (.all [(6, (.all [(11, .done)])), (11, (.all [(6, .done)]))])), (11, (.all [(4, (.all [(6, .done)]))]))]))]) (.all [(12, (.all [(13, (.all [(15, (.take 16 (.take 17 .done)))]))]))]))))))))))) (tm, H ++ [.fresh, .fresh, .fresh, .fresh, .fresh, .fresh, .fresh, .fresh, .fresh, .fresh, .fresh, .fresh, .fresh, .fresh, .fresh, .fresh, .fresh, .fresh])).bind fun s' => some (.normal, s') := ev_drawA (by kernel_rfl) (by kernel_rfl) tm H
noncomputable def d56_17 : Code := atPath [true, true, true, true, true, true, true, false, false, true, true, true, true, true, true, false, false, true, false, false, false] (Try.f56.body.getD .skip)
theorem ed56_17 (tm : List AV) (H : AH) : EvC Try.prog C0 d56_17 (tm, H) = (runPlan Try.prog C0 (Ev Try.prog C0) H.length (opsAt d56_17) (.take 1 (.take 2 (.take 5 (.take 6 (.take 7 (graft (.all [(0, (.all [(3, (.all [(4, (.all [(8, .done)])), (8, (.all [(4, .done)]))])), (8, (.all [(3, (.all [(4, .done)]))]))])), (3, (.all [(0, (.all [(4, (.all [(8, .done)])), (8, (.all [(4, .done)]))])), (8, (.all [(0, (.all [(4, .done)]))]))])), (8, (.all [(0, (.all [(3, (.all [(4, .done)]))])), (3, (.all [(0, (.all [(4, .done)]))]))]))]) (.all [(9, (.take 10 .done))]))))))) (tm, H ++ [.fresh, .fresh, .fresh, .fresh, .fresh, .fresh, .fresh, .fresh, .fresh, .fresh, .fresh])).bind fun s' => some (.normal, s') := ev_drawA (by kernel_rfl) (by kernel_rfl) tm H
theorem fe56 (args : List AV) (H : AH) : Ev Try.prog C0 56 args H = (EvC Try.prog C0 c56 (args ++ List.replicate (123 - args.length) undefA, H)).bind fun r => match r with | (.normal, s) => some ((s.1.getD 10 undefA), s.2) | (.ret, s) => some ((s.1.getD 10 undefA), s.2) | _ => none := Ev_eq Try.func56 rfl args H (orc0 (by decide) args H)
theorem fc56 (C : Cfg Try.prog) (slot : Option Nat) (tm : List AV) (H : AH) (o : Oper) (xs : Array Operand) (ats : Array TypeId) : callA Try.prog C slot (evalA tm) o ⟨.value (.func 56), xs, ats⟩ H = (evL (evalA tm) xs.toList).map fun vs => (.enter 56 vs, H) := callF (by rw [Try.func56]; rfl) slot _ H o xs ats rfl
noncomputable def b70_0 : Code := atPath [true, true, false, true, false, false] (Try.f70.body.getD .skip)
noncomputable def l70_0 : Code := Code.loop b70_0
theorem el70_0 (s : St) : EvC Try.prog C0 l70_0 s = (EvC Try.prog C0 b70_0 s).bind fun r => match r with | (.normal, s') => EvC Try.prog C0 l70_0 s' | r => some r := EvC_loop _ _
noncomputable def c70 : Code := Try.f70.body.getD .skip
theorem fe70 (args : List AV) (H : AH) : Ev Try.prog C0 70 args H = (EvC Try.prog C0 c70 (args ++ List.replicate (23 - args.length) undefA, H)).bind fun r => match r with | (.normal, s) => some ((s.1.getD 4 undefA), s.2) | (.ret, s) => some ((s.1.getD 4 undefA), s.2) | _ => none := Ev_eq Try.func70 rfl args H (orc0 (by decide) args H)
theorem fc70 (C : Cfg Try.prog) (slot : Option Nat) (tm : List AV) (H : AH) (o : Oper) (xs : Array Operand) (ats : Array TypeId) : callA Try.prog C slot (evalA tm) o ⟨.value (.func 70), xs, ats⟩ H = (evL (evalA tm) xs.toList).map fun vs => (.enter 70 vs, H) := callF (by rw [Try.func70]; rfl) slot _ H o xs ats rfl
noncomputable def b87_0 : Code := atPath [true, false, true, false, false] (Try.f87.body.getD .skip)
noncomputable def l87_0 : Code := Code.loop b87_0
theorem el87_0 (s : St) : EvC Try.prog C0 l87_0 s = (EvC Try.prog C0 b87_0 s).bind fun r => match r with | (.normal, s') => EvC Try.prog C0 l87_0 s' | r => some r := EvC_loop _ _
noncomputable def c87 : Code := Try.f87.body.getD .skip
theorem fe87 (args : List AV) (H : AH) : Ev Try.prog C0 87 args H = (EvC Try.prog C0 c87 (args ++ List.replicate (21 - args.length) undefA, H)).bind fun r => match r with | (.normal, s) => some ((s.1.getD 4 undefA), s.2) | (.ret, s) => some ((s.1.getD 4 undefA), s.2) | _ => none := Ev_eq Try.func87 rfl args H (orc0 (by decide) args H)
theorem fc87 (C : Cfg Try.prog) (slot : Option Nat) (tm : List AV) (H : AH) (o : Oper) (xs : Array Operand) (ats : Array TypeId) : callA Try.prog C slot (evalA tm) o ⟨.value (.func 87), xs, ats⟩ H = (evL (evalA tm) xs.toList).map fun vs => (.enter 87 vs, H) := callF (by rw [Try.func87]; rfl) slot _ H o xs ats rfl
end Go.Dv

/- rows of bytes; ref22.put and key (printed by a program of mine, own work). -/
namespace Go.Dv
open Go.Proofs
set_option maxRecDepth 100000
set_option linter.unusedSimpArgs false
set_option linter.unusedVariables false
attribute [local congr] bind_congr_first


theorem se107 : sliceElem Try.prog 107 = some 5 := by kernel_rfl
theorem z5 : zeroA Try.prog 5 = some (.int .u8 0) := by kernel_rfl
theorem by5 : Try.prog.bytesOf 5 = 1 := by kernel_rfl
theorem ce5 : Try.prog.cellsOf 5 = 1 := by kernel_rfl
theorem zs107 : zerosA Try.prog (some 107) = false := by kernel_rfl
theorem un107 : Try.prog.underlying 107 = some (.slice 5) := by kernel_rfl
theorem un9 : Try.prog.underlying 9 = some .string := by kernel_rfl
theorem un166 : Try.prog.underlying 166 = some (.int .u64) := by kernel_rfl
theorem un161 : Try.prog.underlying 161 = some (.int .u64) := by kernel_rfl
def bb (xs : List Int) : List AV := xs.map fun n => AV.int .u8 n
theorem bb_length (xs : List Int) : (bb xs).length = xs.length := by simp [bb]
theorem bb_append (xs ys : List Int) : bb (xs ++ ys) = bb xs ++ bb ys := by simp [bb]
theorem bb_one (xs : List Int) : (bb xs).all AV.one = true := by simp [bb, AV.one]
theorem bb_bytes : ∀ (xs : List Int), bytesOfA (bb xs) = some xs
  | [] => rfl
  | x :: xs => by
    have : bb (x :: xs) = .int .u8 x :: bb xs := rfl
    rw [this, bytesOfA, bb_bytes xs]; rfl
def hB (h : List Int) (b : Nat) : AV := if h = [] then .nilSlice else ov b h.length
theorem hB_nil (b : Nat) : hB [] b = .nilSlice := rfl
theorem hB_cons {h : List Int} (hh : h ≠ []) (b : Nat) : hB h b = ov b h.length := if_neg hh
structure BS (b0 : Nat) (G : AH) (h : List Int) (b : Nat) : Prop where
  ge : h ≠ [] → b0 ≤ b
  at' : h ≠ [] → G[b]? = some (.cells (bb h) 5)
theorem BS.nil (b0 : Nat) (G : AH) (b : Nat) : BS b0 G [] b := ⟨fun h => absurd rfl h, fun h => absurd rfl h⟩
def ByTo (b0 : Nat) (G : AH) (h' : List Int) (G' : AH) (b' : Nat) : Prop := BS b0 G' h' b' ∧ (∀ j, j < b0 → G'[j]? = G[j]?) ∧ G.length ≤ G'.length
theorem gr1 {n : Nat} (h : n < 2 ^ 40) : growOk 1 n = true := by
  simp only [growOk, Bool.and_eq_true, decide_eq_true_eq]; omega
theorem bs107 (H : AH) (p : Int) : buildSliceA Try.prog none 107 1 [(0, .int .u8 p)] H = some (.slice H.length 0 1 1 1 true, H ++ [.cells (bb [p]) 5]) := by
  simp only [buildSliceA, se107, z5, Option.bind_some, ce5]
  rw [if_pos ⟨by omega, by simp [AV.cells]⟩]
  have : fillA (fun i => some (i * 1, 1)) (zrow (AV.int .u8 0).cells (1 * 1)) [(0, .int .u8 p)] = some [.int .u8 p] := by rfl
  rw [this, Option.bind_some, put_none]; rfl
theorem bapp_src {H : AH} {i k n c : Nat} {e : Bool} {ys : List Int} (hr : rdCells H i k n = some (bb ys)) : ∃ f, srcA H 1 (.slice i k 1 n c e) = some (n, f) ∧ f n = some (bb ys) := by
  refine ⟨_, rfl, ?_⟩
  simp only [Nat.le_refl, if_true, Nat.mul_one]; exact hr
/-- one more byte behind a row of the call's own -/
theorem bapp_more {b0 : Nat} {G : AH} {b : Nat} {h : List Int} (p : Int) (hb0 : b0 ≤ G.length) (hs : BS b0 G h b) (hl : h.length < 2 ^ 39) :
    ∃ G', appendA Try.prog none 107 (some 107) (hB h b) (.slice G.length 0 1 1 1 true) (G ++ [AObj.cells (bb [p]) 5]) = some (hB (h ++ [p]) (G.length + 1), G') ∧ ByTo b0 G (h ++ [p]) G' (G.length + 1) := by
  have hr : rdCells (G ++ [AObj.cells (bb [p]) 5]) G.length 0 1 = some (bb [p]) := by
    have : (G ++ [AObj.cells (bb [p]) 5])[G.length]? = some (.cells (bb [p]) 5) := by simp
    rw [rd_row this (by simp [bb])]; rfl
  obtain ⟨f, hf, hfn⟩ := bapp_src (c := 1) (e := true) hr
  have hn : hB (h ++ [p]) (G.length + 1) = ov (G.length + 1) (h.length + 1) := by rw [hB_cons (by simp)]; simp
  by_cases hne : h = []
  · subst hne
    refine ⟨G ++ [AObj.cells (bb [p]) 5] ++ [.cells (bb [p]) 5], ?_, ⟨fun _ => by omega, fun _ => ?_⟩, fun j hj => ?_, by simp⟩
    · rw [hn, hB_nil]
      unfold appendA
      rw [if_neg (by rw [zs107]; simp), se107, Option.bind_some, z5, Option.bind_some, ce5, hf, Option.bind_some]
      simp only [hfn, Option.bind_some]
      rw [if_pos ⟨rfl, by simp [AV.cells]⟩, if_neg (by omega), by5, if_pos (gr1 (by omega)), put_none]
      simp
    · rw [List.getElem?_append_right (by simp)]; simp
    · rw [List.append_assoc, List.getElem?_append_left (by omega)]
  · have hb := hs.at' hne
    have hge := hs.ge hne
    have hbl := lt_of_get hb
    have hb2 : (G ++ [AObj.cells (bb [p]) 5])[b]? = some (.cells (bb h) 5) := by rw [List.getElem?_append_left hbl]; exact hb
    have ho : rdCells (G ++ [AObj.cells (bb [p]) 5]) b 0 h.length = some (bb h) := by
      rw [rd_row hb2 (by rw [bb_length]; omega), List.drop_zero, List.take_of_length_le (by rw [bb_length]; omega)]
    refine ⟨(G ++ [AObj.cells (bb [p]) 5]).set b .dead ++ [.cells (bb (h ++ [p])) 5], ?_, ⟨fun _ => by omega, fun _ => ?_⟩, fun j hj => ?_, by simp; omega⟩
    · rw [hn, hB_cons hne]
      unfold appendA
      rw [if_neg (by rw [zs107]; simp), se107, Option.bind_some, z5, Option.bind_some, ce5, hf, Option.bind_some]
      simp only [hfn, Option.bind_some]
      rw [if_pos ⟨rfl, by simp [AV.cells]⟩, if_pos trivial, if_neg (by omega), if_neg (by omega), if_neg (by simp)]
      simp only [hb2]
      rw [if_pos ⟨trivial, bb_one _, by rw [by5]; exact gr1 (by omega)⟩, Nat.mul_one, ho, Option.bind_some, put_none, ← bb_append]
      simp
    · rw [List.getElem?_append_right (by simp)]; simp
    · rw [List.getElem?_append_left (by simp; omega), List.getElem?_set_ne (by omega), List.getElem?_append_left (by omega)]

section
variable {P : Program}
noncomputable def pureK (P : Program) (ev : Operand → Option AV) (o : Oper) : Option ANext := pureA P ev o
theorem pureA_shr (ev : Operand → Option AV) (dst : Option Tmp) (ty : TypeId) (pos : String) (after : Array Edge) (g : Option (Nat × Bool)) (t yt : TypeId) (x y : Operand) :
    pureA P ev ⟨dst, .binOp .shr t x y yt, ty, pos, after, g⟩ = (ev x).bind fun xv => (ev y).bind fun yv => match xv, yv with
      | .int k a, .int _ b => if b < 0 then pureK P ev ⟨dst, .binOp .shr t x y yt, ty, pos, after, g⟩ else some (.val (.int k (a.fdiv (2 ^ min b.toNat k.bits))))
      | _, _ => pureK P ev ⟨dst, .binOp .shr t x y yt, ty, pos, after, g⟩ := by
  cases hx : ev x with
  | none => rw [pureA_none1 (x := x) (by simp [Op.operands]) hx]; rfl
  | some xv => cases hy : ev y with
    | none => rw [pureA_none1 (x := y) (by simp [Op.operands]) hy]; rfl
    | some yv =>
      simp only [Option.bind_some]
      split
      · rename_i k a k' b
        split
        · rfl
        · rename_i hb
          simp [pureA, notSelect, Op.operands, hx, hy, toV, execOp, rhoOf, pureRun, eqGuard, binOp, Op.shift, ofV_int, bind, Sem.bind, pure, hb]
      · rfl
end
/-- the bytes so far -/
def byN (n : Int) (k : Nat) : List Int := (List.range k).map (byI n)
theorem byN_succ (n : Int) (k : Nat) : byN n (k + 1) = byN n k ++ [byI n k] := by simp [byN, List.range_succ]
structure PutInv (b0 : Nat) (G0 : AH) (n : Int) (h : List Int) (tm : List AV) (G : AH) (k b : Nat) : Prop where
  len : tm.length = 21
  t0 : tm.getD 0 undefA = hB (h ++ byN n k) b
  t1 : tm.getD 1 undefA = I n
  t5 : tm.getD 5 undefA = I k
  bt : ByTo b0 G0 (h ++ byN n k) G b
theorem put_round {b0 : Nat} {G0 : AH} {n : Int} {h : List Int} {tm : List AV} {G : AH} {k b : Nat} (hb0 : b0 ≤ G0.length) (hl : h.length < 2 ^ 38) (hk : k < 8) (hI : PutInv b0 G0 n h tm G k b) :
    ∀ X, EvC Try.prog C0 l87_0 (tm, G) = X → ∃ tm' G' b', EvC Try.prog C0 l87_0 (tm', G') = X ∧ PutInv b0 G0 n h tm' G' (k + 1) b' := by
  intro X hX
  have hlen := hI.len
  have h0 := hI.t0
  have h1 := hI.t1
  have h5 := hI.t5
  have hbt := hI.bt
  have hln : (h ++ byN n k).length = h.length + k := by simp [byN]
  obtain ⟨G', ea, hto⟩ := bapp_more (byI n k) (Nat.le_trans hb0 hbt.2.2) hbt.1 (by omega)
  have eb := bs107 G (byI n k)
  rw [List.append_assoc, ← byN_succ] at ea hto
  have hlt : decide ((k : Int) < 8) = true := by simp; omega
  have hw := inc_i (j := k) (by omega)
  have hm : IntKind.i64.wrap (8 * (k : Int)) = ((8 * k : Nat) : Int) := by rw [IntWalk.i64_in _ (by omega)]; simp
  have hm2 : IntKind.u64.wrap ((8 * k : Nat) : Int) = ((8 * k : Nat) : Int) := IntWalk.u64_in _ (by omega)
  have hnn : (((8 * k : Nat) : Int) < 0) = False := by simp; omega
  have hby := by_prog n hk
  rw [Int.toNat_natCast] at hby
  generalize hh' : h ++ byN n (k + 1) = h' at *
  generalize hv : hB h' (G.length + 1) = v' at *
  rw [el87_0] at hX
  simp -implicitDefEqProofs only [b87_0, atPath, Try.f87, Option.getD_some, hlen, h0, h1, h5, hlt, hw, hm, hm2, hnn, hby, ea, eb, ↓pureA_shr, ↓aop_conv un3 un166, ↓aop_conv un3 un161, ↓aop_conv un166 un5, ↓ld3, ↓st3, z3, boolOf_undef, nb, ↓aop_lookup, ↓aop_makeFunc, ↓aop_makeMap, ↓aop_mapUpdate, ↓aop_buildSlice, ↓aop_extract, ↓EvC_seq, ↓EvC_skip, ↓EvC_exit, ↓EvC_ret, ↓EvC_block, ↓EvC_cond, ↓ev_region, ↓runL_cons, ↓runL_nil, ↓stepO_none, ↓stepO_guard, ↓aop_move, ↓aop_assign, ↓aop_load, ↓aop_store, ↓aop_alloc, ↓aop_box, ↓aop_nilCheck, ↓aop_fieldAddr, ↓aop_field, ↓aop_indexAddr, ↓aop_binOp, ↓aop_pick, ↓aop_extract, ↓aop_buildSlice, ↓aop_slice, ↓aop_not, ↓aop_call, ↓callA_len, ↓callA_append, ev_tmp, ev_const, ofV_int, ofV_bool, ofV_str, ofV_nilSlice, ofV_nilPtr, putA_some, putA_none, gs_self, gs_ne, List.length_set, Option.bind_some, Option.map_some, intBinA, evL, evO, evP, ne_eq, not_false_eq_true, if_true, if_false, reduceCtorEq, ite_true, ite_false, reduceIte, put_app, AV.cells, and_true, true_and, and_self, decide_true, decide_false, ↓yielded_eq, yv_some, boolOf_bool, List.getElem?_toArray, List.getElem?_cons_zero, List.getElem?_cons_succ, Nat.reduceLT, Nat.reduceEqDiff, beq_self_eq_true, Option.some_beq_some, wr_app, wr_app0, rd_app, rd_app0, rdL_here, rdL_next, wrL_here, wrL_next, spl, List.all_cons, List.all_nil, AV.one, Bool.and_self, Bool.true_and, List.drop_zero, List.take_succ_cons, List.take_zero, List.drop_succ_cons, List.head?_cons, Nat.reduceAdd, Nat.reduceLeDiff, List.length_cons, List.length_nil, List.nil_append, List.cons_append, List.set_cons_zero, List.set_cons_succ, Int.toNat_natCast, Nat.add_zero, b_ft, b_tf, Bool.false_eq_true] at hX
  refine ⟨_, G', G.length + 1, hX, ?_, ?_, ?_, ?_, ?_⟩
  · simp only [List.length_set, hlen]
  · rw [hh', hv]; simp only [hlen, gs_self, gs_ne, List.length_set, ne_eq, Nat.reduceEqDiff, Nat.reduceLT, not_false_eq_true]
  · simp only [hlen, h1, gs_self, gs_ne, List.length_set, ne_eq, Nat.reduceEqDiff, Nat.reduceLT, not_false_eq_true]
  · simp only [hlen, gs_self, gs_ne, List.length_set, ne_eq, Nat.reduceEqDiff, Nat.reduceLT, not_false_eq_true]
  · rw [hh']; exact ⟨hto.1, fun j hj => (hto.2.1 j hj).trans (hbt.2.1 j hj), Nat.le_trans hbt.2.2 hto.2.2⟩
theorem put_loop {b0 : Nat} {G0 : AH} {n : Int} {h : List Int} (hb0 : b0 ≤ G0.length) (hl : h.length < 2 ^ 38) : ∀ (d k : Nat) (tm : List AV) (G : AH) (b : Nat), 8 - k = d → k ≤ 8 → PutInv b0 G0 n h tm G k b →
    ∃ tm' G' b', EvC Try.prog C0 l87_0 (tm, G) = some (.exit 0, (tm', G')) ∧ tm'.length = 21 ∧ tm'.getD 0 undefA = hB (h ++ byL n) b' ∧ ByTo b0 G0 (h ++ byL n) G' b' := by
  intro d
  induction d with
  | zero =>
    intro k tm G b hd hk hI
    obtain rfl : k = 8 := by omega
    have hlen := hI.len
    have h0 := hI.t0
    have h5 := hI.t5
    have hlt : decide (((8 : Nat) : Int) < 8) = false := by simp
    rw [el87_0]
    simp -implicitDefEqProofs only [b87_0, atPath, Try.f87, Option.getD_some, hlen, h0, h5, hlt, ↓ld3, ↓st3, z3, boolOf_undef, nb, ↓aop_lookup, ↓aop_makeFunc, ↓aop_makeMap, ↓aop_mapUpdate, ↓aop_buildSlice, ↓aop_extract, ↓EvC_seq, ↓EvC_skip, ↓EvC_exit, ↓EvC_ret, ↓EvC_block, ↓EvC_cond, ↓ev_region, ↓runL_cons, ↓runL_nil, ↓stepO_none, ↓stepO_guard, ↓aop_move, ↓aop_assign, ↓aop_load, ↓aop_store, ↓aop_alloc, ↓aop_box, ↓aop_nilCheck, ↓aop_fieldAddr, ↓aop_field, ↓aop_indexAddr, ↓aop_binOp, ↓aop_pick, ↓aop_extract, ↓aop_buildSlice, ↓aop_slice, ↓aop_not, ↓aop_call, ↓callA_len, ↓callA_append, ev_tmp, ev_const, ofV_int, ofV_bool, ofV_str, ofV_nilSlice, ofV_nilPtr, putA_some, putA_none, gs_self, gs_ne, List.length_set, Option.bind_some, Option.map_some, intBinA, evL, evO, evP, ne_eq, not_false_eq_true, if_true, if_false, reduceCtorEq, ite_true, ite_false, reduceIte, put_app, AV.cells, and_true, true_and, and_self, decide_true, decide_false, ↓yielded_eq, yv_some, boolOf_bool, List.getElem?_toArray, List.getElem?_cons_zero, List.getElem?_cons_succ, Nat.reduceLT, Nat.reduceEqDiff, beq_self_eq_true, Option.some_beq_some, wr_app, wr_app0, rd_app, rd_app0, rdL_here, rdL_next, wrL_here, wrL_next, spl, List.all_cons, List.all_nil, AV.one, Bool.and_self, Bool.true_and, List.drop_zero, List.take_succ_cons, List.take_zero, List.drop_succ_cons, List.head?_cons, Nat.reduceAdd, Nat.reduceLeDiff, List.length_cons, List.length_nil, List.nil_append, List.cons_append, List.set_cons_zero, List.set_cons_succ, Int.toNat_natCast, Nat.add_zero, b_ft, b_tf, Bool.false_eq_true]
    exact ⟨_, G, b, rfl, by simp only [List.length_set, hlen], by simp only [hlen, h0, gs_self, gs_ne, List.length_set, ne_eq, Nat.reduceEqDiff, Nat.reduceLT, not_false_eq_true]; rfl, hI.bt⟩
  | succ d ih =>
    intro k tm G b hd hk hI
    obtain ⟨tm1, G1, b1, he, hI1⟩ := put_round hb0 hl (by omega) hI _ rfl
    obtain ⟨tm', G', b', he2, r⟩ := ih (k + 1) tm1 G1 b1 (by omega) (by omega) hI1
    exact ⟨tm', G', b', he.symm.trans he2, r⟩
theorem put_loop' {b0 : Nat} {G0 G : AH} {n : Int} {h : List Int} {tm : List AV} {b : Nat} {X : Option (AExit × St)} (hX : EvC Try.prog C0 l87_0 (tm, G) = X) (hb0 : b0 ≤ G0.length) (hl : h.length < 2 ^ 38) (hI : PutInv b0 G0 n h tm G 0 b) :
    ∃ tm' G' b', X = some (.exit 0, (tm', G')) ∧ tm'.length = 21 ∧ tm'.getD 0 undefA = hB (h ++ byL n) b' ∧ ByTo b0 G0 (h ++ byL n) G' b' := by
  subst hX; exact put_loop hb0 hl 8 0 tm G b (by omega) (by omega) hI
theorem put_ev {b0 : Nat} {G : AH} {b : Nat} {h : List Int} (n : Int) (hb0 : b0 ≤ G.length) (hs : BS b0 G h b) (hl : h.length < 2 ^ 38) :
    ∃ G' b', Ev Try.prog C0 87 [hB h b, I n] G = some (hB (h ++ byL n) b', G') ∧ ByTo b0 G (h ++ byL n) G' b' := by
  have g0 : ([hB h b, I n] ++ List.replicate (21 - [hB h b, I n].length) undefA).length = 21 := by simp
  have g1 : ([hB h b, I n] ++ List.replicate (21 - [hB h b, I n].length) undefA).getD 0 undefA = hB h b := rfl
  have g2 : ([hB h b, I n] ++ List.replicate (21 - [hB h b, I n].length) undefA).getD 1 undefA = I n := rfl
  rw [fe87]
  generalize [hB h b, I n] ++ List.replicate (21 - [hB h b, I n].length) undefA = tm at *
  simp -implicitDefEqProofs only [c87, Try.f87, Option.getD_some, g0, g1, g2, ↓ld3, ↓st3, z3, boolOf_undef, nb, ↓aop_lookup, ↓aop_makeFunc, ↓aop_makeMap, ↓aop_mapUpdate, ↓aop_buildSlice, ↓aop_extract, ↓EvC_seq, ↓EvC_skip, ↓EvC_exit, ↓EvC_ret, ↓EvC_block, ↓EvC_cond, ↓ev_region, ↓runL_cons, ↓runL_nil, ↓stepO_none, ↓stepO_guard, ↓aop_move, ↓aop_assign, ↓aop_load, ↓aop_store, ↓aop_alloc, ↓aop_box, ↓aop_nilCheck, ↓aop_fieldAddr, ↓aop_field, ↓aop_indexAddr, ↓aop_binOp, ↓aop_pick, ↓aop_extract, ↓aop_buildSlice, ↓aop_slice, ↓aop_not, ↓aop_call, ↓callA_len, ↓callA_append, ev_tmp, ev_const, ofV_int, ofV_bool, ofV_str, ofV_nilSlice, ofV_nilPtr, putA_some, putA_none, gs_self, gs_ne, List.length_set, Option.bind_some, Option.map_some, intBinA, evL, evO, evP, ne_eq, not_false_eq_true, if_true, if_false, reduceCtorEq, ite_true, ite_false, reduceIte, put_app, AV.cells, and_true, true_and, and_self, decide_true, decide_false, ↓yielded_eq, yv_some, boolOf_bool, List.getElem?_toArray, List.getElem?_cons_zero, List.getElem?_cons_succ, Nat.reduceLT, Nat.reduceEqDiff, beq_self_eq_true, Option.some_beq_some, wr_app, wr_app0, rd_app, rd_app0, rdL_here, rdL_next, wrL_here, wrL_next, spl, List.all_cons, List.all_nil, AV.one, Bool.and_self, Bool.true_and, List.drop_zero, List.take_succ_cons, List.take_zero, List.drop_succ_cons, List.head?_cons, Nat.reduceAdd, Nat.reduceLeDiff, List.length_cons, List.length_nil, List.nil_append, List.cons_append, List.set_cons_zero, List.set_cons_succ, Int.toNat_natCast, Nat.add_zero, b_ft, b_tf, Bool.false_eq_true]
  generalize hX : EvC Try.prog C0 (Code.loop _) _ = X
  obtain ⟨tm', G', b', he, hl', h0, hto⟩ := put_loop' (b := b) (h := h) (n := n) hX hb0 hl ⟨by simp only [List.length_set, g0], by simp only [g0, g1, byN, List.range_zero, List.map_nil, List.append_nil, gs_self, gs_ne, List.length_set, ne_eq, Nat.reduceEqDiff, Nat.reduceLT, not_false_eq_true], by simp only [g0, g2, gs_self, gs_ne, List.length_set, ne_eq, Nat.reduceEqDiff, Nat.reduceLT, not_false_eq_true], by simp only [g0, gs_self, gs_ne, List.length_set, ne_eq, Nat.reduceEqDiff, Nat.reduceLT, not_false_eq_true]; rfl, by simp only [byN, List.range_zero, List.map_nil, List.append_nil]; exact ⟨hs, fun _ _ => rfl, Nat.le_refl _⟩⟩
  subst he
  refine ⟨G', b', ?_, hto⟩
  simp -implicitDefEqProofs only [hl', h0, ↓ld3, ↓st3, z3, boolOf_undef, nb, ↓aop_lookup, ↓aop_makeFunc, ↓aop_makeMap, ↓aop_mapUpdate, ↓aop_buildSlice, ↓aop_extract, ↓EvC_seq, ↓EvC_skip, ↓EvC_exit, ↓EvC_ret, ↓EvC_block, ↓EvC_cond, ↓ev_region, ↓runL_cons, ↓runL_nil, ↓stepO_none, ↓stepO_guard, ↓aop_move, ↓aop_assign, ↓aop_load, ↓aop_store, ↓aop_alloc, ↓aop_box, ↓aop_nilCheck, ↓aop_fieldAddr, ↓aop_field, ↓aop_indexAddr, ↓aop_binOp, ↓aop_pick, ↓aop_extract, ↓aop_buildSlice, ↓aop_slice, ↓aop_not, ↓aop_call, ↓callA_len, ↓callA_append, ev_tmp, ev_const, ofV_int, ofV_bool, ofV_str, ofV_nilSlice, ofV_nilPtr, putA_some, putA_none, gs_self, gs_ne, List.length_set, Option.bind_some, Option.map_some, intBinA, evL, evO, evP, ne_eq, not_false_eq_true, if_true, if_false, reduceCtorEq, ite_true, ite_false, reduceIte, put_app, AV.cells, and_true, true_and, and_self, decide_true, decide_false, ↓yielded_eq, yv_some, boolOf_bool, List.getElem?_toArray, List.getElem?_cons_zero, List.getElem?_cons_succ, Nat.reduceLT, Nat.reduceEqDiff, beq_self_eq_true, Option.some_beq_some, wr_app, wr_app0, rd_app, rd_app0, rdL_here, rdL_next, wrL_here, wrL_next, spl, List.all_cons, List.all_nil, AV.one, Bool.and_self, Bool.true_and, List.drop_zero, List.take_succ_cons, List.take_zero, List.drop_succ_cons, List.head?_cons, Nat.reduceAdd, Nat.reduceLeDiff, List.length_cons, List.length_nil, List.nil_append, List.cons_append, List.set_cons_zero, List.set_cons_succ, Int.toNat_natCast, Nat.add_zero, b_ft, b_tf, Bool.false_eq_true]

/-! key -/
structure KeyInv (G0 : AH) (v : AV) (a : Int) (h : List Int) (tm : List AV) (G : AH) (k b : Nat) : Prop where
  len : tm.length = 23
  t1 : tm.getD 1 undefA = v
  t5 : tm.getD 5 undefA = hB (keyL (a :: h.take k)) b
  t6 : tm.getD 6 undefA = I k
  bt : ByTo G0.length G0 (keyL (a :: h.take k)) G b
theorem keyL_len (l : List Int) : (keyL l).length = 8 * l.length := by
  induction l with
  | nil => rfl
  | cons x l ih =>
    have : keyL (x :: l) = byL x ++ keyL l := rfl
    rw [this, List.length_append, ih, byL_length, List.length_cons]; omega
theorem keyL_snoc (l : List Int) (x : Int) : keyL (l ++ [x]) = keyL l ++ byL x := by rw [keyL_append]; simp [keyL]
theorem key_round {G0 : AH} {v : AV} {a : Int} {h : List Int} {tm : List AV} {G : AH} {k b : Nat} {x : Int} (hv : IntS G0 v h) (hl : h.length < 2 ^ 30) (hx : h[k]? = some x) (hI : KeyInv G0 v a h tm G k b) :
    ∀ X, EvC Try.prog C0 l70_0 (tm, G) = X → ∃ tm' G' b', EvC Try.prog C0 l70_0 (tm', G') = X ∧ KeyInv G0 v a h tm' G' (k + 1) b' := by
  intro X hX
  have hkl := lt_of_get hx
  have hlen := hI.len
  have h1 := hI.t1
  have h5 := hI.t5
  have h6 := hI.t6
  have hbt := hI.bt
  have hvG := hv.same hbt.2.1
  obtain ⟨i1, k1, hi1, hr1⟩ := hvG.ix k x hx
  have hla := hv.len
  have hlt : decide ((k : Int) < (h.length : Int)) = true := by simp; omega
  have hw := inc_i (j := k) (by omega)
  obtain ⟨G', b', he, hto⟩ := put_ev x hbt.2.2 hbt.1 (by rw [keyL_len]; simp; omega)
  have hsn : keyL (a :: h.take k) ++ byL x = keyL (a :: h.take (k + 1)) := by
    rw [← keyL_snoc, List.take_add_one, hx]; rfl
  rw [hsn] at he hto
  generalize keyL (a :: h.take k) = old at *
  generalize hn : keyL (a :: h.take (k + 1)) = new at *
  rw [el70_0] at hX
  simp -implicitDefEqProofs only [b70_0, atPath, Try.f70, Option.getD_some, hlen, h1, h5, h6, hlt, hw, hla, hi1, hr1, he, ↓fc87, ↓ld3, ↓st3, z3, boolOf_undef, nb, ↓aop_lookup, ↓aop_makeFunc, ↓aop_makeMap, ↓aop_mapUpdate, ↓aop_buildSlice, ↓aop_extract, ↓EvC_seq, ↓EvC_skip, ↓EvC_exit, ↓EvC_ret, ↓EvC_block, ↓EvC_cond, ↓ev_region, ↓runL_cons, ↓runL_nil, ↓stepO_none, ↓stepO_guard, ↓aop_move, ↓aop_assign, ↓aop_load, ↓aop_store, ↓aop_alloc, ↓aop_box, ↓aop_nilCheck, ↓aop_fieldAddr, ↓aop_field, ↓aop_indexAddr, ↓aop_binOp, ↓aop_pick, ↓aop_extract, ↓aop_buildSlice, ↓aop_slice, ↓aop_not, ↓aop_call, ↓callA_len, ↓callA_append, ev_tmp, ev_const, ofV_int, ofV_bool, ofV_str, ofV_nilSlice, ofV_nilPtr, putA_some, putA_none, gs_self, gs_ne, List.length_set, Option.bind_some, Option.map_some, intBinA, evL, evO, evP, ne_eq, not_false_eq_true, if_true, if_false, reduceCtorEq, ite_true, ite_false, reduceIte, put_app, AV.cells, and_true, true_and, and_self, decide_true, decide_false, ↓yielded_eq, yv_some, boolOf_bool, List.getElem?_toArray, List.getElem?_cons_zero, List.getElem?_cons_succ, Nat.reduceLT, Nat.reduceEqDiff, beq_self_eq_true, Option.some_beq_some, wr_app, wr_app0, rd_app, rd_app0, rdL_here, rdL_next, wrL_here, wrL_next, spl, List.all_cons, List.all_nil, AV.one, Bool.and_self, Bool.true_and, List.drop_zero, List.take_succ_cons, List.take_zero, List.drop_succ_cons, List.head?_cons, Nat.reduceAdd, Nat.reduceLeDiff, List.length_cons, List.length_nil, List.nil_append, List.cons_append, List.set_cons_zero, List.set_cons_succ, Int.toNat_natCast, Nat.add_zero, b_ft, b_tf, Bool.false_eq_true] at hX
  refine ⟨_, G', b', hX, ?_, ?_, ?_, ?_, ?_⟩
  · simp only [List.length_set, hlen]
  · simp only [hlen, h1, gs_self, gs_ne, List.length_set, ne_eq, Nat.reduceEqDiff, Nat.reduceLT, not_false_eq_true]
  · rw [hn]; simp only [hlen, gs_self, gs_ne, List.length_set, ne_eq, Nat.reduceEqDiff, Nat.reduceLT, not_false_eq_true]
  · simp only [hlen, gs_self, gs_ne, List.length_set, ne_eq, Nat.reduceEqDiff, Nat.reduceLT, not_false_eq_true]
  · rw [hn]; exact ⟨hto.1, fun j hj => (hto.2.1 j hj).trans (hbt.2.1 j hj), Nat.le_trans hbt.2.2 hto.2.2⟩
theorem key_loop {G0 : AH} {v : AV} {a : Int} {h : List Int} (hv : IntS G0 v h) (hl : h.length < 2 ^ 30) : ∀ (d k : Nat) (tm : List AV) (G : AH) (b : Nat), h.length - k = d → k ≤ h.length → KeyInv G0 v a h tm G k b →
    ∃ tm' G' b', EvC Try.prog C0 l70_0 (tm, G) = some (.exit 0, (tm', G')) ∧ tm'.length = 23 ∧ tm'.getD 5 undefA = hB (keyL (a :: h)) b' ∧ ByTo G0.length G0 (keyL (a :: h)) G' b' := by
  intro d
  induction d with
  | zero =>
    intro k tm G b hd hk hI
    obtain rfl : k = h.length := by omega
    have hlen := hI.len
    have h1 := hI.t1
    have h5 := hI.t5
    have h6 := hI.t6
    have hbt := hI.bt
    have hla := hv.len
    have hlt : decide ((h.length : Int) < (h.length : Int)) = false := by simp
    rw [List.take_length] at h5 hbt
    rw [el70_0]
    simp -implicitDefEqProofs only [b70_0, atPath, Try.f70, Option.getD_some, hlen, h1, h5, h6, hla, hlt, ↓ld3, ↓st3, z3, boolOf_undef, nb, ↓aop_lookup, ↓aop_makeFunc, ↓aop_makeMap, ↓aop_mapUpdate, ↓aop_buildSlice, ↓aop_extract, ↓EvC_seq, ↓EvC_skip, ↓EvC_exit, ↓EvC_ret, ↓EvC_block, ↓EvC_cond, ↓ev_region, ↓runL_cons, ↓runL_nil, ↓stepO_none, ↓stepO_guard, ↓aop_move, ↓aop_assign, ↓aop_load, ↓aop_store, ↓aop_alloc, ↓aop_box, ↓aop_nilCheck, ↓aop_fieldAddr, ↓aop_field, ↓aop_indexAddr, ↓aop_binOp, ↓aop_pick, ↓aop_extract, ↓aop_buildSlice, ↓aop_slice, ↓aop_not, ↓aop_call, ↓callA_len, ↓callA_append, ev_tmp, ev_const, ofV_int, ofV_bool, ofV_str, ofV_nilSlice, ofV_nilPtr, putA_some, putA_none, gs_self, gs_ne, List.length_set, Option.bind_some, Option.map_some, intBinA, evL, evO, evP, ne_eq, not_false_eq_true, if_true, if_false, reduceCtorEq, ite_true, ite_false, reduceIte, put_app, AV.cells, and_true, true_and, and_self, decide_true, decide_false, ↓yielded_eq, yv_some, boolOf_bool, List.getElem?_toArray, List.getElem?_cons_zero, List.getElem?_cons_succ, Nat.reduceLT, Nat.reduceEqDiff, beq_self_eq_true, Option.some_beq_some, wr_app, wr_app0, rd_app, rd_app0, rdL_here, rdL_next, wrL_here, wrL_next, spl, List.all_cons, List.all_nil, AV.one, Bool.and_self, Bool.true_and, List.drop_zero, List.take_succ_cons, List.take_zero, List.drop_succ_cons, List.head?_cons, Nat.reduceAdd, Nat.reduceLeDiff, List.length_cons, List.length_nil, List.nil_append, List.cons_append, List.set_cons_zero, List.set_cons_succ, Int.toNat_natCast, Nat.add_zero, b_ft, b_tf, Bool.false_eq_true]
    exact ⟨_, G, b, rfl, by simp only [List.length_set, hlen], by simp only [hlen, h5, gs_self, gs_ne, List.length_set, ne_eq, Nat.reduceEqDiff, Nat.reduceLT, not_false_eq_true], hbt⟩
  | succ d ih =>
    intro k tm G b hd hk hI
    obtain ⟨x, hx⟩ := get_of (xs := h) (j := k) (by omega)
    obtain ⟨tm1, G1, b1, he, hI1⟩ := key_round hv hl hx hI _ rfl
    obtain ⟨tm', G', b', he2, r⟩ := ih (k + 1) tm1 G1 b1 (by omega) (by omega) hI1
    exact ⟨tm', G', b', he.symm.trans he2, r⟩
theorem key_loop' {G0 G : AH} {v : AV} {a : Int} {h : List Int} {tm : List AV} {b : Nat} {X : Option (AExit × St)} (hX : EvC Try.prog C0 l70_0 (tm, G) = X) (hv : IntS G0 v h) (hl : h.length < 2 ^ 30) (hI : KeyInv G0 v a h tm G 0 b) :
    ∃ tm' G' b', X = some (.exit 0, (tm', G')) ∧ tm'.length = 23 ∧ tm'.getD 5 undefA = hB (keyL (a :: h)) b' ∧ ByTo G0.length G0 (keyL (a :: h)) G' b' := by
  subst hX; exact key_loop hv hl h.length 0 tm G b (by omega) (by omega) hI
theorem str_hB {b0 b : Nat} {G : AH} {l : List Int} (h : BS b0 G l b) (hne : l ≠ []) : strA Try.prog G 107 9 (hB l b) = some (packB l) := by
  have hpos := List.length_pos_iff.2 hne
  have ue : Try.prog.underlying 5 = some (.int .u8) := un5
  rw [hB_cons hne]
  simp only [strA, un107, un9, ue, true_and]
  rw [if_pos hpos, rd_row (h.at' hne) (by rw [bb_length]; omega), List.drop_zero, List.take_of_length_le (by rw [bb_length]; omega), Option.bind_some, bb_bytes]; rfl
/-- a conversion of bytes that the heap holds -/
theorem aop_str {P : Program} {C : Cfg P} {t u : TypeId} (slot : Option Nat) (tm : List AV) (dst : Option Tmp) (ty : TypeId) (pos : String) (after : Array Edge) (g : Option (Nat × Bool)) (H : AH) (x : Nat) {i k es len cap : Nat} {ex : Bool} {s : ByteArray} (hx : evalA tm (.tmp x) = some (.slice i k es len cap ex)) (hs : strA P H t u (.slice i k es len cap ex) = some s) :
    aop P C slot (evalA tm) ⟨dst, .convert t u (.tmp x), ty, pos, after, g⟩ H = some (.val (.str s), H) := by
  have hp : pureA P (evalA tm) ⟨dst, .convert t u (.tmp x), ty, pos, after, g⟩ = none := by
    unfold pureA
    rw [if_neg]
    simp [Op.operands, hx, toV]
  rw [aop_convert, hp, hx]
  simp only [Option.bind_some, hs, Option.map_some]
theorem key_ev {G : AH} {v : AV} {a : Int} {h : List Int} (hv : IntS G v h) (hl : h.length < 2 ^ 30) :
    ∃ G', Ev Try.prog C0 70 [I a, v] G = some (.str (keyS a h), G') ∧ (∀ j, j < G.length → G'[j]? = G[j]?) ∧ G.length ≤ G'.length := by
  obtain ⟨G1, b1, h1, to1⟩ := put_ev (b0 := G.length) (b := 0) (h := []) a (Nat.le_refl _) (BS.nil _ _ _) (by simp)
  rw [List.nil_append, hB_nil] at *
  have e1 : byL a = keyL [a] := by simp [keyL]
  rw [e1] at h1 to1
  have g0 : ([I a, v] ++ List.replicate (23 - [I a, v].length) undefA).length = 23 := by simp
  have g1 : ([I a, v] ++ List.replicate (23 - [I a, v].length) undefA).getD 0 undefA = I a := rfl
  have g2 : ([I a, v] ++ List.replicate (23 - [I a, v].length) undefA).getD 1 undefA = v := rfl
  rw [fe70]
  generalize [I a, v] ++ List.replicate (23 - [I a, v].length) undefA = tm at *
  simp -implicitDefEqProofs only [c70, Try.f70, Option.getD_some, g0, g1, g2, h1, ↓fc87, ↓ld3, ↓st3, z3, boolOf_undef, nb, ↓aop_lookup, ↓aop_makeFunc, ↓aop_makeMap, ↓aop_mapUpdate, ↓aop_buildSlice, ↓aop_extract, ↓EvC_seq, ↓EvC_skip, ↓EvC_exit, ↓EvC_ret, ↓EvC_block, ↓EvC_cond, ↓ev_region, ↓runL_cons, ↓runL_nil, ↓stepO_none, ↓stepO_guard, ↓aop_move, ↓aop_assign, ↓aop_load, ↓aop_store, ↓aop_alloc, ↓aop_box, ↓aop_nilCheck, ↓aop_fieldAddr, ↓aop_field, ↓aop_indexAddr, ↓aop_binOp, ↓aop_pick, ↓aop_extract, ↓aop_buildSlice, ↓aop_slice, ↓aop_not, ↓aop_call, ↓callA_len, ↓callA_append, ev_tmp, ev_const, ofV_int, ofV_bool, ofV_str, ofV_nilSlice, ofV_nilPtr, putA_some, putA_none, gs_self, gs_ne, List.length_set, Option.bind_some, Option.map_some, intBinA, evL, evO, evP, ne_eq, not_false_eq_true, if_true, if_false, reduceCtorEq, ite_true, ite_false, reduceIte, put_app, AV.cells, and_true, true_and, and_self, decide_true, decide_false, ↓yielded_eq, yv_some, boolOf_bool, List.getElem?_toArray, List.getElem?_cons_zero, List.getElem?_cons_succ, Nat.reduceLT, Nat.reduceEqDiff, beq_self_eq_true, Option.some_beq_some, wr_app, wr_app0, rd_app, rd_app0, rdL_here, rdL_next, wrL_here, wrL_next, spl, List.all_cons, List.all_nil, AV.one, Bool.and_self, Bool.true_and, List.drop_zero, List.take_succ_cons, List.take_zero, List.drop_succ_cons, List.head?_cons, Nat.reduceAdd, Nat.reduceLeDiff, List.length_cons, List.length_nil, List.nil_append, List.cons_append, List.set_cons_zero, List.set_cons_succ, Int.toNat_natCast, Nat.add_zero, b_ft, b_tf, Bool.false_eq_true]
  generalize hX : EvC Try.prog C0 (Code.loop _) _ = X
  obtain ⟨tm', G', b', he, hl', h5, hto⟩ := key_loop' (G0 := G) (a := a) (b := b1) hX hv hl ⟨by simp only [List.length_set, g0], by simp only [g0, g2, gs_self, gs_ne, List.length_set, ne_eq, Nat.reduceEqDiff, Nat.reduceLT, not_false_eq_true], by rw [List.take_zero]; simp only [g0, gs_self, gs_ne, List.length_set, ne_eq, Nat.reduceEqDiff, Nat.reduceLT, not_false_eq_true], by simp only [g0, gs_self, gs_ne, List.length_set, ne_eq, Nat.reduceEqDiff, Nat.reduceLT, not_false_eq_true]; rfl, by rw [List.take_zero]; exact to1⟩
  subst he
  have hne : keyL (a :: h) ≠ [] := by
    intro e
    have := congrArg List.length e
    rw [keyL_len] at this
    simp at this
  refine ⟨G', ?_, hto.2.1, hto.2.2⟩
  have hs := str_hB hto.1 hne
  rw [hB_cons hne] at h5 hs
  have hcv : ∀ (dst : Option Tmp) (ty : TypeId) (pos : String) (after : Array Edge) (g : Option (Nat × Bool)), aop Try.prog C0 none (evalA (tm'.set 21 (ov b' (keyL (a :: h)).length))) ⟨dst, .convert 107 9 (.tmp 21), ty, pos, after, g⟩ G' = some (.val (.str (packB (keyL (a :: h)))), G') := fun dst ty pos after g =>
    aop_str none _ dst ty pos after g G' 21 (by simp only [ev_tmp, hl', gs_self, gs_ne, List.length_set, ne_eq, Nat.reduceEqDiff, Nat.reduceLT, not_false_eq_true, if_true]) hs
  simp -implicitDefEqProofs only [hl', h5, ↓hcv, ↓ld3, ↓st3, z3, boolOf_undef, nb, ↓aop_lookup, ↓aop_makeFunc, ↓aop_makeMap, ↓aop_mapUpdate, ↓aop_buildSlice, ↓aop_extract, ↓EvC_seq, ↓EvC_skip, ↓EvC_exit, ↓EvC_ret, ↓EvC_block, ↓EvC_cond, ↓ev_region, ↓runL_cons, ↓runL_nil, ↓stepO_none, ↓stepO_guard, ↓aop_move, ↓aop_assign, ↓aop_load, ↓aop_store, ↓aop_alloc, ↓aop_box, ↓aop_nilCheck, ↓aop_fieldAddr, ↓aop_field, ↓aop_indexAddr, ↓aop_binOp, ↓aop_pick, ↓aop_extract, ↓aop_buildSlice, ↓aop_slice, ↓aop_not, ↓aop_call, ↓callA_len, ↓callA_append, ev_tmp, ev_const, ofV_int, ofV_bool, ofV_str, ofV_nilSlice, ofV_nilPtr, putA_some, putA_none, gs_self, gs_ne, List.length_set, Option.bind_some, Option.map_some, intBinA, evL, evO, evP, ne_eq, not_false_eq_true, if_true, if_false, reduceCtorEq, ite_true, ite_false, reduceIte, put_app, AV.cells, and_true, true_and, and_self, decide_true, decide_false, ↓yielded_eq, yv_some, boolOf_bool, List.getElem?_toArray, List.getElem?_cons_zero, List.getElem?_cons_succ, Nat.reduceLT, Nat.reduceEqDiff, beq_self_eq_true, Option.some_beq_some, wr_app, wr_app0, rd_app, rd_app0, rdL_here, rdL_next, wrL_here, wrL_next, spl, List.all_cons, List.all_nil, AV.one, Bool.and_self, Bool.true_and, List.drop_zero, List.take_succ_cons, List.take_zero, List.drop_succ_cons, List.head?_cons, Nat.reduceAdd, Nat.reduceLeDiff, List.length_cons, List.length_nil, List.nil_append, List.cons_append, List.set_cons_zero, List.set_cons_succ, Int.toNat_natCast, Nat.add_zero, b_ft, b_tf, Bool.false_eq_true]
  rfl
end Go.Dv

/- fewest: the memo, the look for a page (printed by a program of mine, own work). -/
namespace Go.Dv
open Go.Proofs
set_option maxRecDepth 100000
set_option linter.unusedSimpArgs false
set_option linter.unusedVariables false
attribute [local congr] bind_congr_first


noncomputable def dd9 : TypeDesc := (Try.prog.underlying 9).getD default
theorem mt100 : mapTypes Try.prog 100 = some (9, 3) := by kernel_rfl
theorem ask9 (e : Bool) (s : ByteArray) : askA Try.prog 9 e (.str s) = some (.string s, dd9) := by cases e <;> kernel_rfl
theorem sameK9 (a b : ByteArray) : sameK Try.prog 9 dd9 (.string a) (.string b) = some (a == b) := by kernel_rfl
/-- every key is a state's, every value its least number of faults -/
def MemoOk (N f : Nat) (t : List Int) (es : List (AV × AV × Nat)) : Prop := ∀ e ∈ es, ∃ (a : Nat) (h : List Int), e.1 = .str (keyS a h) ∧ a < 2 ^ 40 ∧ (∀ x ∈ h, inI x) ∧ e.2.1 = I (fewS N f (t.drop a) h : Nat)
theorem find_str (s : ByteArray) : ∀ (es : List (AV × AV × Nat)) (n : Nat), (∀ e ∈ es, ∃ k, e.1 = .str k) → findA Try.prog 9 dd9 (.string s) es n = some none ∨ ∃ j e, es[j]? = some e ∧ findA Try.prog 9 dd9 (.string s) es n = some (some (n + j, e.2.1)) ∧ e.1 = .str s
  | [], n, _ => .inl rfl
  | (k, v, b) :: es, n, h => by
    obtain ⟨k', hk⟩ := h _ (List.mem_cons_self ..)
    simp only at hk
    subst hk
    simp only [findA]
    rw [show toV (.str k') = some (.string k') from rfl]
    simp only [Option.bind_some, sameK9]
    cases hb : (s == k')
    · simp only
      rcases find_str s es (n + 1) (fun e he => h e (List.mem_cons_of_mem _ he)) with h1 | ⟨j, e, h1, h2, h3⟩
      · exact .inl h1
      · exact .inr ⟨j + 1, e, h1, by rw [h2]; congr 3; omega, h3⟩
    · simp only
      exact .inr ⟨0, _, rfl, rfl, by rw [bytes_eq hb]⟩
theorem look_memo {N f : Nat} {t : List Int} {H : AH} {i c : Nat} {es : List (AV × AV × Nat)} (h : H[i]? = some (.map es c)) (hm : MemoOk N f t es) {a : Nat} {g : List Int} (ha : a < 2 ^ 40) (hg : ∀ x ∈ g, inI x) :
    lookupA Try.prog 100 (.map i) (.str (keyS a g)) true H = some (.tuple [I 0, .bool false]) ∨ lookupA Try.prog 100 (.map i) (.str (keyS a g)) true H = some (.tuple [I (fewS N f (t.drop a) g : Nat), .bool true]) := by
  simp only [lookupA, mt100, Option.bind_some, entriesA, h, ask9]
  rcases find_str (keyS a g) es 0 (fun e he => by obtain ⟨a', h', h1, _⟩ := hm e he; exact ⟨_, h1⟩) with h1 | ⟨j, e, h1, h2, h3⟩
  · left
    rw [h1]
    simp only [Option.bind_some, z3, Option.map_some, if_true]
  · right
    rw [h2]
    simp only [Option.bind_some, if_true]
    obtain ⟨a', h', k1, k2, k3, k4⟩ := hm e (List.mem_of_getElem? h1)
    rw [h3] at k1
    have k1' : keyS a g = keyS a' h' := by simpa using k1
    obtain ⟨e1, e2⟩ := keyS_inj (a := (a : Int)) (b := (a' : Int)) (by unfold inI; omega) (by unfold inI; omega) hg k3 k1'
    have e1' : a = a' := by omega
    rw [k4, e1', e2]
theorem put_memo {N f : Nat} {t : List Int} {H : AH} {i c : Nat} {es : List (AV × AV × Nat)} (h : H[i]? = some (.map es c)) (hm : MemoOk N f t es) {a : Nat} {g : List Int} (ha : a < 2 ^ 40) (hg : ∀ x ∈ g, inI x) :
    ∃ es' c', mapPutA Try.prog 100 (.map i) (.str (keyS a g)) (I (fewS N f (t.drop a) g : Nat)) H = some (H.set i (.map es' c')) ∧ MemoOk N f t es' := by
  have hnew : ∀ n : Nat, ∃ (a' : Nat) (h' : List Int), (AV.str (keyS a g), I (fewS N f (t.drop a) g : Nat), n).1 = .str (keyS a' h') ∧ a' < 2 ^ 40 ∧ (∀ x ∈ h', inI x) ∧ (AV.str (keyS a g), I (fewS N f (t.drop a) g : Nat), n).2.1 = I (fewS N f (t.drop a') h' : Nat) := fun n => ⟨a, g, rfl, ha, hg, rfl⟩
  simp only [mapPutA, mt100, Option.bind_some, h, ask9]
  rcases find_str (keyS a g) es 0 (fun e he => by obtain ⟨a', h', h1, _⟩ := hm e he; exact ⟨_, h1⟩) with h1 | ⟨j, e, h1, h2, h3⟩
  · rw [h1]
    simp only [Option.bind_some]
    refine ⟨_, _, rfl, fun e he => ?_⟩
    rcases List.mem_append.1 he with he | he
    · exact hm e he
    · simp only [List.mem_cons, List.not_mem_nil, or_false] at he
      subst he; exact hnew _
  · rw [h2]
    obtain ⟨k, v, n⟩ := e
    simp only at h3
    subst h3
    simp only [Option.bind_some, Nat.zero_add, h1]
    rw [show toV (.str (keyS a g)) = some (.string (keyS a g)) from rfl]
    have hsb : Instr.sameBits 10000 (.string (keyS a g)) (.string (keyS a g)) = true := by
      have : (keyS a g == keyS a g) = true := by show (keyS a g).data == (keyS a g).data; simp
      simpa [Instr.sameBits] using this
    simp only [Option.bind_some, hsb, if_true]
    refine ⟨_, _, rfl, fun e he => ?_⟩
    rcases List.mem_or_eq_of_mem_set he with he | rfl
    · exact hm e he
    · exact hnew _

/-- What stands through a call of fewest: the memo; all blocks but the memo's. -/
structure Few (G0 : AH) (im N f : Nat) (t : List Int) (G : AH) : Prop where
  memo : ∃ es c, G[im]? = some (.map es c) ∧ MemoOk N f t es
  keep : ∀ j, j < G0.length → j ≠ im → G[j]? = G0[j]?
  big : G0.length ≤ G.length
theorem Few.trans {G0 G1 G2 : AH} {im N f : Nat} {t : List Int} (h : Few G0 im N f t G1) (k : Few G1 im N f t G2) : Few G0 im N f t G2 :=
  ⟨k.memo, fun j hj hne => (k.keep j (Nat.lt_of_lt_of_le hj h.big) hne).trans (h.keep j hj hne), Nat.le_trans h.big k.big⟩
theorem Few.more {G0 G G' : AH} {im N f : Nat} {t : List Int} (h : Few G0 im N f t G) (hk : ∀ j, j < G.length → G'[j]? = G[j]?) (hb : G.length ≤ G'.length) : Few G0 im N f t G' := by
  obtain ⟨es, c, h1, h2⟩ := h.memo
  exact ⟨⟨es, c, (hk im (lt_of_get h1)).trans h1, h2⟩, fun j hj hne => (hk j (Nat.lt_of_lt_of_le hj h.big)).trans (h.keep j hj hne), Nat.le_trans h.big hb⟩
theorem Few.ints {G0 G : AH} {im N f : Nat} {t : List Int} {v : AV} {xs : List Int} (h0 : Few G0 im N f t G0) (h : Few G0 im N f t G) (hv : IntS G0 v xs) : IntS G v xs := by
  obtain ⟨es, c, h1, _⟩ := h0.memo
  refine ⟨hv.len, fun j x hx => ?_⟩
  obtain ⟨i, k, hi, hr⟩ := hv.ix j x hx
  have hne : i ≠ im := by
    intro e
    subst e
    simp [rdCells, h1] at hr
  have hil := rd_lt hr
  refine ⟨i, k, hi, ?_⟩
  unfold rdCells at hr ⊢
  rw [h.keep i hil hne]; exact hr
theorem Few.own {G0 G : AH} {im N f b : Nat} {t h : List Int} (h0 : Few G0 im N f t G0) (hf : Few G0 im N f t G) (hs : HS 0 G0 h b) : HS 0 G h b := by
  obtain ⟨es, c, h1, _⟩ := h0.memo
  refine ⟨fun _ => Nat.zero_le _, fun hne => ?_⟩
  have hb := hs.at' hne
  have hbi : b ≠ im := by
    intro e
    subst e
    rw [h1] at hb; cases hb
  rw [hf.keep b (lt_of_get hb) hbi]; exact hb

theorem reg56_12 {H : AH} {v w : AV} {t h : List Int} {i k : Nat} {x y : Int} {a : Bool} {tm : List AV} (hv : IntS H v t) (hw : IntS H w h) (hy : h[k]? = some y) (hx : t[i]? = some x) (hlen : tm.length = 123) (h0 : tm.getD 0 undefA = v) (h2 : tm.getD 2 undefA = I i) (h3 : tm.getD 3 undefA = w) (h15 : tm.getD 15 undefA = .bool a) (h16 : tm.getD 16 undefA = I k) :
    ∃ tm', EvC Try.prog C0 d56_12 (tm, H) = some (.normal, (tm', H)) ∧ tm'.length = 123 ∧ tm'.getD 15 undefA = .bool (a || (y == x)) ∧ (∀ t ∈ [0, 1, 2, 3, 4, 11, 16], tm'.getD t undefA = tm.getD t undefA) := by
  obtain ⟨i1, k1, hi1, hr1⟩ := hw.ix k y hy
  obtain ⟨i2, k2, hi2, hr2⟩ := hv.ix i x hx
  have dd := ed56_12
  simp only [d56_12, opsAt, atPath, Try.f56, Option.getD_some] at dd
  simp only [d56_12, opsAt, atPath, Try.f56, Option.getD_some]
  rw [dd]
  cases a
  · simp -implicitDefEqProofs only [hlen, h0, h2, h3, h15, h16, hi1, hi2, hr1, hr2, Bool.not_true, Bool.not_false, Bool.true_and, Bool.and_true, Bool.false_and, Bool.and_false, Bool.true_or, Bool.or_true, Bool.false_or, Bool.or_false, cond_true, cond_false, boolOf_undef, nb, beq_self_eq_true, Bool.and_self, ↓ld3, ↓st3, z3, boolOf_undef, nb, ↓aop_lookup, ↓aop_makeFunc, ↓aop_makeMap, ↓aop_mapUpdate, ↓aop_buildSlice, ↓aop_extract, ↓EvC_seq, ↓EvC_skip, ↓EvC_exit, ↓EvC_ret, ↓EvC_block, ↓EvC_cond, ↓ev_region, ↓runL_cons, ↓runL_nil, ↓stepO_none, ↓stepO_guard, ↓aop_move, ↓aop_assign, ↓aop_load, ↓aop_store, ↓aop_alloc, ↓aop_box, ↓aop_nilCheck, ↓aop_fieldAddr, ↓aop_field, ↓aop_indexAddr, ↓aop_binOp, ↓aop_pick, ↓aop_extract, ↓aop_buildSlice, ↓aop_slice, ↓aop_not, ↓aop_call, ↓callA_len, ↓callA_append, ev_tmp, ev_const, ofV_int, ofV_bool, ofV_str, ofV_nilSlice, ofV_nilPtr, putA_some, putA_none, gs_self, gs_ne, List.length_set, Option.bind_some, Option.map_some, intBinA, evL, evO, evP, ne_eq, not_false_eq_true, if_true, if_false, reduceCtorEq, ite_true, ite_false, reduceIte, put_app, AV.cells, and_true, true_and, and_self, decide_true, decide_false, ↓yielded_eq, yv_some, boolOf_bool, List.getElem?_toArray, List.getElem?_cons_zero, List.getElem?_cons_succ, Nat.reduceLT, Nat.reduceEqDiff, beq_self_eq_true, Option.some_beq_some, wr_app, wr_app0, rd_app, rd_app0, rdL_here, rdL_next, wrL_here, wrL_next, spl, List.all_cons, List.all_nil, AV.one, Bool.and_self, Bool.true_and, List.drop_zero, List.take_succ_cons, List.take_zero, List.drop_succ_cons, List.head?_cons, Nat.reduceAdd, Nat.reduceLeDiff, List.length_cons, List.length_nil, List.nil_append, List.cons_append, List.set_cons_zero, List.set_cons_succ, Int.toNat_natCast, Nat.add_zero, b_ft, b_tf, Bool.false_eq_true, ↓rp_done, ↓rp_take, ↓rp_all, ↓ra_nil, ↓ra_first, ↓ra_next, ↓quietO_none, ↓quietO_guard, ↓q_move, ↓q_assign, ↓q_pick, ↓q_binOp, ↓q_field, ↓q_fieldAddr, ↓q_indexAddr, ↓q_nilCheck, set_order, keepV_eq, stBeq_self, ↓rp_graft, put_slot, put_slot_app, List.length_append, List.append_assoc, Nat.add_assoc, ↓aop_build, evP, Bool.true_and, Bool.and_true, Bool.false_and, Bool.and_false, Bool.true_or, Bool.or_true, Bool.false_or, Bool.or_false, Bool.not_true, Bool.not_false]
    refine ⟨_, rfl, by simp only [List.length_set, hlen], by simp only [hlen, gs_self, gs_ne, List.length_set, ne_eq, Nat.reduceEqDiff, Nat.reduceLT, not_false_eq_true], fun t ht => ?_⟩
    simp only [List.mem_cons, List.not_mem_nil, or_false] at ht
    rcases ht with rfl | rfl | rfl | rfl | rfl | rfl | rfl <;> simp only [hlen, gs_self, gs_ne, List.length_set, ne_eq, Nat.reduceEqDiff, Nat.reduceLT, not_false_eq_true]

  · simp -implicitDefEqProofs only [hlen, h0, h2, h3, h15, h16, Bool.not_true, Bool.not_false, Bool.true_and, Bool.and_true, Bool.false_and, Bool.and_false, Bool.true_or, Bool.or_true, Bool.false_or, Bool.or_false, cond_true, cond_false, boolOf_undef, nb, beq_self_eq_true, Bool.and_self, ↓ld3, ↓st3, z3, boolOf_undef, nb, ↓aop_lookup, ↓aop_makeFunc, ↓aop_makeMap, ↓aop_mapUpdate, ↓aop_buildSlice, ↓aop_extract, ↓EvC_seq, ↓EvC_skip, ↓EvC_exit, ↓EvC_ret, ↓EvC_block, ↓EvC_cond, ↓ev_region, ↓runL_cons, ↓runL_nil, ↓stepO_none, ↓stepO_guard, ↓aop_move, ↓aop_assign, ↓aop_load, ↓aop_store, ↓aop_alloc, ↓aop_box, ↓aop_nilCheck, ↓aop_fieldAddr, ↓aop_field, ↓aop_indexAddr, ↓aop_binOp, ↓aop_pick, ↓aop_extract, ↓aop_buildSlice, ↓aop_slice, ↓aop_not, ↓aop_call, ↓callA_len, ↓callA_append, ev_tmp, ev_const, ofV_int, ofV_bool, ofV_str, ofV_nilSlice, ofV_nilPtr, putA_some, putA_none, gs_self, gs_ne, List.length_set, Option.bind_some, Option.map_some, intBinA, evL, evO, evP, ne_eq, not_false_eq_true, if_true, if_false, reduceCtorEq, ite_true, ite_false, reduceIte, put_app, AV.cells, and_true, true_and, and_self, decide_true, decide_false, ↓yielded_eq, yv_some, boolOf_bool, List.getElem?_toArray, List.getElem?_cons_zero, List.getElem?_cons_succ, Nat.reduceLT, Nat.reduceEqDiff, beq_self_eq_true, Option.some_beq_some, wr_app, wr_app0, rd_app, rd_app0, rdL_here, rdL_next, wrL_here, wrL_next, spl, List.all_cons, List.all_nil, AV.one, Bool.and_self, Bool.true_and, List.drop_zero, List.take_succ_cons, List.take_zero, List.drop_succ_cons, List.head?_cons, Nat.reduceAdd, Nat.reduceLeDiff, List.length_cons, List.length_nil, List.nil_append, List.cons_append, List.set_cons_zero, List.set_cons_succ, Int.toNat_natCast, Nat.add_zero, b_ft, b_tf, Bool.false_eq_true, ↓rp_done, ↓rp_take, ↓rp_all, ↓ra_nil, ↓ra_first, ↓ra_next, ↓quietO_none, ↓quietO_guard, ↓q_move, ↓q_assign, ↓q_pick, ↓q_binOp, ↓q_field, ↓q_fieldAddr, ↓q_indexAddr, ↓q_nilCheck, set_order, keepV_eq, stBeq_self, ↓rp_graft, put_slot, put_slot_app, List.length_append, List.append_assoc, Nat.add_assoc, ↓aop_build, evP, Bool.true_and, Bool.and_true, Bool.false_and, Bool.and_false, Bool.true_or, Bool.or_true, Bool.false_or, Bool.or_false, Bool.not_true, Bool.not_false]
    refine ⟨_, rfl, by simp only [List.length_set, hlen], by simp only [hlen, gs_self, gs_ne, List.length_set, ne_eq, Nat.reduceEqDiff, Nat.reduceLT, not_false_eq_true], fun t ht => ?_⟩
    simp only [List.mem_cons, List.not_mem_nil, or_false] at ht
    rcases ht with rfl | rfl | rfl | rfl | rfl | rfl | rfl <;> simp only [hlen, gs_self, gs_ne, List.length_set, ne_eq, Nat.reduceEqDiff, Nat.reduceLT, not_false_eq_true]

theorem reg56_12' {H : AH} {v w : AV} {t h : List Int} {i k : Nat} {x y : Int} {a : Bool} {tm : List AV} {X : Option (AExit × St)} (hX : EvC Try.prog C0 d56_12 (tm, H) = X) (hv : IntS H v t) (hw : IntS H w h) (hy : h[k]? = some y) (hx : t[i]? = some x) (hlen : tm.length = 123) (h0 : tm.getD 0 undefA = v) (h2 : tm.getD 2 undefA = I i) (h3 : tm.getD 3 undefA = w) (h15 : tm.getD 15 undefA = .bool a) (h16 : tm.getD 16 undefA = I k) :
    ∃ tm', X = some (.normal, (tm', H)) ∧ tm'.length = 123 ∧ tm'.getD 15 undefA = .bool (a || (y == x)) ∧ (∀ t ∈ [0, 1, 2, 3, 4, 11, 16], tm'.getD t undefA = tm.getD t undefA) := by
  subst hX; exact reg56_12 hv hw hy hx hlen h0 h2 h3 h15 h16
theorem has_loop {H : AH} {v w : AV} {t h : List Int} {i : Nat} {x : Int} (hv : IntS H v t) (hw : IntS H w h) (hl : h.length < 2 ^ 40) (hx : t[i]? = some x) : ∀ (d k : Nat) (a : Bool) (tm : List AV), h.length - k = d → k ≤ h.length →
    tm.length = 123 → tm.getD 0 undefA = v → tm.getD 2 undefA = I i → tm.getD 3 undefA = w → tm.getD 15 undefA = .bool a → tm.getD 16 undefA = I k →
    ∃ tm', EvC Try.prog C0 l56_0 (tm, H) = some (.exit 0, (tm', H)) ∧ tm'.length = 123 ∧ tm'.getD 15 undefA = .bool (a || decide (x ∈ h.drop k)) ∧ (∀ t ∈ [0, 1, 2, 3, 4, 11], tm'.getD t undefA = tm.getD t undefA) := by
  intro d
  induction d with
  | zero =>
    intro k a tm hd hk hlen h0 h2 h3 h15 h16
    obtain rfl : k = h.length := by omega
    have hlt : decide ((h.length : Int) < (h.length : Int)) = false := by simp
    have hla := hw.len
    rw [el56_0]
    simp -implicitDefEqProofs only [b56_0, atPath, Try.f56, Option.getD_some, hlen, h0, h2, h3, h16, hlt, hla, ↓ld3, ↓st3, z3, boolOf_undef, nb, ↓aop_lookup, ↓aop_makeFunc, ↓aop_makeMap, ↓aop_mapUpdate, ↓aop_buildSlice, ↓aop_extract, ↓EvC_seq, ↓EvC_skip, ↓EvC_exit, ↓EvC_ret, ↓EvC_block, ↓EvC_cond, ↓ev_region, ↓runL_cons, ↓runL_nil, ↓stepO_none, ↓stepO_guard, ↓aop_move, ↓aop_assign, ↓aop_load, ↓aop_store, ↓aop_alloc, ↓aop_box, ↓aop_nilCheck, ↓aop_fieldAddr, ↓aop_field, ↓aop_indexAddr, ↓aop_binOp, ↓aop_pick, ↓aop_extract, ↓aop_buildSlice, ↓aop_slice, ↓aop_not, ↓aop_call, ↓callA_len, ↓callA_append, ev_tmp, ev_const, ofV_int, ofV_bool, ofV_str, ofV_nilSlice, ofV_nilPtr, putA_some, putA_none, gs_self, gs_ne, List.length_set, Option.bind_some, Option.map_some, intBinA, evL, evO, evP, ne_eq, not_false_eq_true, if_true, if_false, reduceCtorEq, ite_true, ite_false, reduceIte, put_app, AV.cells, and_true, true_and, and_self, decide_true, decide_false, ↓yielded_eq, yv_some, boolOf_bool, List.getElem?_toArray, List.getElem?_cons_zero, List.getElem?_cons_succ, Nat.reduceLT, Nat.reduceEqDiff, beq_self_eq_true, Option.some_beq_some, wr_app, wr_app0, rd_app, rd_app0, rdL_here, rdL_next, wrL_here, wrL_next, spl, List.all_cons, List.all_nil, AV.one, Bool.and_self, Bool.true_and, List.drop_zero, List.take_succ_cons, List.take_zero, List.drop_succ_cons, List.head?_cons, Nat.reduceAdd, Nat.reduceLeDiff, List.length_cons, List.length_nil, List.nil_append, List.cons_append, List.set_cons_zero, List.set_cons_succ, Int.toNat_natCast, Nat.add_zero, b_ft, b_tf, Bool.false_eq_true]
    refine ⟨_, rfl, by simp only [List.length_set, hlen], by rw [List.drop_length]; simp only [hlen, h15, List.not_mem_nil, decide_false, Bool.or_false, gs_self, gs_ne, List.length_set, ne_eq, Nat.reduceEqDiff, Nat.reduceLT, not_false_eq_true], fun t ht => ?_⟩
    simp only [List.mem_cons, List.not_mem_nil, or_false] at ht
    rcases ht with rfl | rfl | rfl | rfl | rfl | rfl <;> simp only [hlen, gs_self, gs_ne, List.length_set, ne_eq, Nat.reduceEqDiff, Nat.reduceLT, not_false_eq_true]

  | succ d ih =>
    intro k a tm hd hk hlen h0 h2 h3 h15 h16
    obtain ⟨y, hy⟩ := get_of (xs := h) (j := k) (by omega)
    have hlt : decide ((k : Int) < (h.length : Int)) = true := by simp; omega
    have hla := hw.len
    have hinc := inc_i (j := k) (by omega)
    rw [el56_0]
    simp -implicitDefEqProofs only [b56_0, atPath, Try.f56, Option.getD_some, hlen, h0, h2, h3, h16, hlt, hla, ↓ld3, ↓st3, z3, boolOf_undef, nb, ↓aop_lookup, ↓aop_makeFunc, ↓aop_makeMap, ↓aop_mapUpdate, ↓aop_buildSlice, ↓aop_extract, ↓EvC_seq, ↓EvC_skip, ↓EvC_exit, ↓EvC_ret, ↓EvC_block, ↓EvC_cond, ↓ev_region, ↓runL_cons, ↓runL_nil, ↓stepO_none, ↓stepO_guard, ↓aop_move, ↓aop_assign, ↓aop_load, ↓aop_store, ↓aop_alloc, ↓aop_box, ↓aop_nilCheck, ↓aop_fieldAddr, ↓aop_field, ↓aop_indexAddr, ↓aop_binOp, ↓aop_pick, ↓aop_extract, ↓aop_buildSlice, ↓aop_slice, ↓aop_not, ↓aop_call, ↓callA_len, ↓callA_append, ev_tmp, ev_const, ofV_int, ofV_bool, ofV_str, ofV_nilSlice, ofV_nilPtr, putA_some, putA_none, gs_self, gs_ne, List.length_set, Option.bind_some, Option.map_some, intBinA, evL, evO, evP, ne_eq, not_false_eq_true, if_true, if_false, reduceCtorEq, ite_true, ite_false, reduceIte, put_app, AV.cells, and_true, true_and, and_self, decide_true, decide_false, ↓yielded_eq, yv_some, boolOf_bool, List.getElem?_toArray, List.getElem?_cons_zero, List.getElem?_cons_succ, Nat.reduceLT, Nat.reduceEqDiff, beq_self_eq_true, Option.some_beq_some, wr_app, wr_app0, rd_app, rd_app0, rdL_here, rdL_next, wrL_here, wrL_next, spl, List.all_cons, List.all_nil, AV.one, Bool.and_self, Bool.true_and, List.drop_zero, List.take_succ_cons, List.take_zero, List.drop_succ_cons, List.head?_cons, Nat.reduceAdd, Nat.reduceLeDiff, List.length_cons, List.length_nil, List.nil_append, List.cons_append, List.set_cons_zero, List.set_cons_succ, Int.toNat_natCast, Nat.add_zero, b_ft, b_tf, Bool.false_eq_true]
    generalize hX : EvC Try.prog C0 (Code.region 12 _ true) _ = X
    obtain ⟨tm1, he, hl1, k15, hk1⟩ := reg56_12' (a := a) hX hv hw hy hx (by simp only [List.length_set, hlen]) (by simp only [hlen, h0, gs_self, gs_ne, List.length_set, ne_eq, Nat.reduceEqDiff, Nat.reduceLT, not_false_eq_true]) (by simp only [hlen, h2, gs_self, gs_ne, List.length_set, ne_eq, Nat.reduceEqDiff, Nat.reduceLT, not_false_eq_true]) (by simp only [hlen, h3, gs_self, gs_ne, List.length_set, ne_eq, Nat.reduceEqDiff, Nat.reduceLT, not_false_eq_true]) (by simp only [hlen, h15, gs_self, gs_ne, List.length_set, ne_eq, Nat.reduceEqDiff, Nat.reduceLT, not_false_eq_true]) (by simp only [hlen, h16, gs_self, gs_ne, List.length_set, ne_eq, Nat.reduceEqDiff, Nat.reduceLT, not_false_eq_true])
    subst he
    have k16 := hk1 16 (by simp)
    simp only [hlen, h16, gs_self, gs_ne, List.length_set, ne_eq, Nat.reduceEqDiff, Nat.reduceLT, not_false_eq_true] at k16
    simp -implicitDefEqProofs only [hl1, k15, k16, hinc, ↓ld3, ↓st3, z3, boolOf_undef, nb, ↓aop_lookup, ↓aop_makeFunc, ↓aop_makeMap, ↓aop_mapUpdate, ↓aop_buildSlice, ↓aop_extract, ↓EvC_seq, ↓EvC_skip, ↓EvC_exit, ↓EvC_ret, ↓EvC_block, ↓EvC_cond, ↓ev_region, ↓runL_cons, ↓runL_nil, ↓stepO_none, ↓stepO_guard, ↓aop_move, ↓aop_assign, ↓aop_load, ↓aop_store, ↓aop_alloc, ↓aop_box, ↓aop_nilCheck, ↓aop_fieldAddr, ↓aop_field, ↓aop_indexAddr, ↓aop_binOp, ↓aop_pick, ↓aop_extract, ↓aop_buildSlice, ↓aop_slice, ↓aop_not, ↓aop_call, ↓callA_len, ↓callA_append, ev_tmp, ev_const, ofV_int, ofV_bool, ofV_str, ofV_nilSlice, ofV_nilPtr, putA_some, putA_none, gs_self, gs_ne, List.length_set, Option.bind_some, Option.map_some, intBinA, evL, evO, evP, ne_eq, not_false_eq_true, if_true, if_false, reduceCtorEq, ite_true, ite_false, reduceIte, put_app, AV.cells, and_true, true_and, and_self, decide_true, decide_false, ↓yielded_eq, yv_some, boolOf_bool, List.getElem?_toArray, List.getElem?_cons_zero, List.getElem?_cons_succ, Nat.reduceLT, Nat.reduceEqDiff, beq_self_eq_true, Option.some_beq_some, wr_app, wr_app0, rd_app, rd_app0, rdL_here, rdL_next, wrL_here, wrL_next, spl, List.all_cons, List.all_nil, AV.one, Bool.and_self, Bool.true_and, List.drop_zero, List.take_succ_cons, List.take_zero, List.drop_succ_cons, List.head?_cons, Nat.reduceAdd, Nat.reduceLeDiff, List.length_cons, List.length_nil, List.nil_append, List.cons_append, List.set_cons_zero, List.set_cons_succ, Int.toNat_natCast, Nat.add_zero, b_ft, b_tf, Bool.false_eq_true]
    generalize hX : EvC Try.prog C0 _ _ = X
    have key : ∀ (tm2 : List AV), EvC Try.prog C0 l56_0 (tm2, H) = X → tm2.length = 123 → tm2.getD 15 undefA = .bool (a || (y == x)) → tm2.getD 16 undefA = I ((k + 1 : Nat) : Int) → (∀ t ∈ [0, 1, 2, 3, 4, 11], tm2.getD t undefA = tm.getD t undefA) →
        ∃ tm', X = some (.exit 0, (tm', H)) ∧ tm'.length = 123 ∧ tm'.getD 15 undefA = .bool (a || decide (x ∈ h.drop k)) ∧ (∀ t ∈ [0, 1, 2, 3, 4, 11], tm'.getD t undefA = tm.getD t undefA) := by
      intro tm2 e q0 q1 q2 q3
      obtain ⟨tm', he, hl', r15, rk⟩ := ih (k + 1) _ tm2 (by omega) (by omega) q0 ((q3 0 (by simp)).trans h0) ((q3 2 (by simp)).trans h2) ((q3 3 (by simp)).trans h3) q1 q2
      refine ⟨tm', e.symm.trans he, hl', ?_, fun t ht => (rk t ht).trans (q3 t ht)⟩
      rw [r15, drop_at hy, Bool.or_assoc]
      congr 2
      by_cases hxy : y = x
      · subst hxy; simp
      · have h1 : (y == x) = false := by simpa using hxy
        have h2 : ¬ x = y := fun e => hxy e.symm
        simp [h1, h2]
    refine key _ hX (by simp only [List.length_set, hl1]) (by simp only [hl1, k15, gs_self, gs_ne, List.length_set, ne_eq, Nat.reduceEqDiff, Nat.reduceLT, not_false_eq_true]) (by simp only [hl1, gs_self, gs_ne, List.length_set, ne_eq, Nat.reduceEqDiff, Nat.reduceLT, not_false_eq_true]) (fun t ht => ?_)
    have hk2 := hk1 t (by simp only [List.mem_cons, List.not_mem_nil, or_false] at ht ⊢; omega)
    simp only [List.mem_cons, List.not_mem_nil, or_false] at ht
    rcases ht with rfl | rfl | rfl | rfl | rfl | rfl <;> simp only [hl1, hlen, gs_self, gs_ne, List.length_set, ne_eq, Nat.reduceEqDiff, Nat.reduceLT, not_false_eq_true] at hk2 ⊢ <;> exact hk2
theorem has_loop' {H : AH} {v w : AV} {t h : List Int} {i : Nat} {x : Int} {tm : List AV} {X : Option (AExit × St)} (hX : EvC Try.prog C0 l56_0 (tm, H) = X) (hv : IntS H v t) (hw : IntS H w h) (hl : h.length < 2 ^ 40) (hx : t[i]? = some x)
    (hlen : tm.length = 123) (h0 : tm.getD 0 undefA = v) (h2 : tm.getD 2 undefA = I i) (h3 : tm.getD 3 undefA = w) (h15 : tm.getD 15 undefA = .bool false) (h16 : tm.getD 16 undefA = I ((0 : Nat) : Int)) :
    ∃ tm', X = some (.exit 0, (tm', H)) ∧ tm'.length = 123 ∧ tm'.getD 15 undefA = .bool (decide (x ∈ h)) ∧ (∀ t ∈ [0, 1, 2, 3, 4, 11], tm'.getD t undefA = tm.getD t undefA) := by
  subst hX
  have := has_loop hv hw hl hx h.length 0 false tm (by omega) (by omega) hlen h0 h2 h3 h15 h16
  simpa using this
end Go.Dv

/- fewest: the regions of any order (printed by a program of mine, own work). -/
namespace Go.Dv
open Go.Proofs
set_option maxRecDepth 100000
set_option linter.unusedSimpArgs false
set_option linter.unusedVariables false
attribute [local congr] bind_congr_first


/-- a row in the region's own blocks grows: the old block is dead -/
theorem app_killL {G L : AH} {q n i k' m c' s : Nat} {e' : Bool} {xs ys : List Int} {cs : List AV} (hx : rdCells (G ++ L) i k' m = some (ii ys)) (hm : 0 < m) (hq : L[q]? = some (.cells cs 3)) (ho : rdCells (G ++ L) (G.length + q) 0 n = some (ii xs)) (hn : n + m < 2 ^ 40) (hs : L[s]? = some .fresh) :
    appendA Try.prog (some (G.length + s)) 46 (some 46) (.slice (G.length + q) 0 1 n n false) (.slice i k' 1 m c' e') (G ++ L) = some (.slice (G.length + s) 0 1 (n + m) (n + m) false, G ++ (L.set q .dead).set s (.cells (ii (xs ++ ys)) 3)) := by
  obtain ⟨f, hf, hfn⟩ := app_src (c := c') (e := e') hx
  have hb' := get_app (G := G) hq
  have hne : q ≠ s := by intro e; subst e; rw [hq] at hs; cases hs
  unfold appendA
  rw [if_neg (by rw [zs46]; simp), se46, Option.bind_some, z3, Option.bind_some, ce3, hf, Option.bind_some]
  simp only [hfn, Option.bind_some]
  rw [if_pos ⟨rfl, by simp [AV.cells]⟩, if_pos trivial, if_neg (by omega), if_neg (by omega), if_neg (by simp)]
  simp only [hb']
  rw [if_pos ⟨trivial, ii_one _, by rw [by3]; exact gr3 hn⟩, Nat.mul_one, ho, Option.bind_some, List.set_append_right _ _ (by omega), Nat.add_sub_cancel_left, put_at (by rw [List.getElem?_set_ne hne]; exact hs), ← ii_append]
  simp
theorem bs_nil_at {G L : AH} {n : Nat} (h : L[n]? = some .fresh) : buildSliceA Try.prog (some (G.length + n)) 46 0 [] (G ++ L) = some (.slice (G.length + n) 0 1 0 0 true, G ++ L.set n (.cells (ii []) 3)) := by
  simp only [buildSliceA, se46, z3, Option.bind_some, ce3]
  rw [if_pos ⟨by omega, by simp [AV.cells]⟩]
  simp [zrow, fillA, put_at h, ii]
set_option maxHeartbeats 8000000 in
theorem reg56_22a {G G2 G3 : AH} {v s : AV} {t : List Int} {f a im m : Nat} {x : Int} {tm : List AV} (hv : IntS G v t) (hx : t[a]? = some x) (ha : a < 2 ^ 40) (hm : IntKind.i64.wrap (1 + (m : Int)) = ((1 + m : Nat) : Int))
    (e42 : Ev Try.prog C0 42 [ov (G.length + 12) 1] (G ++ [.fresh, .fresh, .fresh, .fresh, .cells (ii []) 3, .fresh, .fresh, .fresh, .fresh, .fresh, .fresh, .cells (ii [x]) 3, .cells (ii [x]) 3, .fresh, .fresh, .fresh, .fresh, .fresh]) = some (s, G2)) (e56 : Ev Try.prog C0 56 [v, I f, I ((a + 1 : Nat) : Int), s, .map im] G2 = some (I m, G3)) (hlen : tm.length = 123) (h0 : tm.getD 0 undefA = v) (h1 : tm.getD 1 undefA = I f) (h2 : tm.getD 2 undefA = I a) (h4 : tm.getD 4 undefA = .map im) (h3 : tm.getD 3 undefA = .nilSlice) :
    ∃ tm', EvC Try.prog C0 d56_22 (tm, G) = some (.normal, (tm', G3)) ∧ tm'.length = 123 ∧ tm'.getD 14 undefA = I ((1 + m : Nat) : Int) ∧ (∀ t ∈ [0, 1, 2, 3, 4, 11], tm'.getD t undefA = tm.getD t undefA) := by
  obtain ⟨i2, k2, hi2, hr2'⟩ := hv.ix a x hx
  have hr2 : ∀ L, rdCells (G ++ L) i2 k2 1 = some [I x] := fun L => rd_old hr2' L
  have hinc := inc_i (j := a) (by omega)
  have e1 : ∀ L : AH, L[4]? = some .fresh → buildSliceA Try.prog (some (G.length + 4)) 46 0 [] (G ++ L) = some (.slice (G.length + 4) 0 1 0 0 true, G ++ L.set 4 (.cells (ii []) 3)) := fun L h => bs_nil_at h
  have e2 : ∀ L : AH, L[11]? = some .fresh → buildSliceA Try.prog (some (G.length + 11)) 46 1 [(0, I x)] (G ++ L) = some (.slice (G.length + 11) 0 1 1 1 true, G ++ L.set 11 (.cells (ii [x]) 3)) := fun L h => bs_at x h
  have e3 := app_nosrc
  have e4 : ∀ L : AH, L[4]? = some (.cells (ii []) 3) → L[11]? = some (.cells (ii [x]) 3) → L[12]? = some .fresh → appendA Try.prog (some (G.length + 12)) 46 (some 46) (.slice (G.length + 4) 0 1 0 0 true) (.slice (G.length + 11) 0 1 1 1 true) (G ++ L) = some (ov (G.length + 12) 1, G ++ L.set 12 (.cells (ii [x]) 3)) := fun L p q r =>
    app_exat (xs := []) (rd_sp q rfl) (by omega) (rd_sp p rfl) (by omega) r
  have dd := ed56_22
  simp only [d56_22, opsAt, atPath, Try.f56, Option.getD_some] at dd
  simp only [d56_22, opsAt, atPath, Try.f56, Option.getD_some]
  rw [dd]
  simp -implicitDefEqProofs only [hlen, h0, h1, h2, h3, h4, hi2, hr2, hinc, e1, e2, e3, e4, e42, e56, hm, ↓fc42, ↓fc56, List.replicate, Bool.not_true, Bool.not_false, Bool.true_and, Bool.and_true, Bool.false_and, Bool.and_false, Bool.true_or, Bool.or_true, Bool.false_or, Bool.or_false, cond_true, cond_false, boolOf_undef, nb, beq_self_eq_true, Bool.and_self, ↓ld3, ↓st3, z3, boolOf_undef, nb, ↓aop_lookup, ↓aop_makeFunc, ↓aop_makeMap, ↓aop_mapUpdate, ↓aop_buildSlice, ↓aop_extract, ↓EvC_seq, ↓EvC_skip, ↓EvC_exit, ↓EvC_ret, ↓EvC_block, ↓EvC_cond, ↓ev_region, ↓runL_cons, ↓runL_nil, ↓stepO_none, ↓stepO_guard, ↓aop_move, ↓aop_assign, ↓aop_load, ↓aop_store, ↓aop_alloc, ↓aop_box, ↓aop_nilCheck, ↓aop_fieldAddr, ↓aop_field, ↓aop_indexAddr, ↓aop_binOp, ↓aop_pick, ↓aop_extract, ↓aop_buildSlice, ↓aop_slice, ↓aop_not, ↓aop_call, ↓callA_len, ↓callA_append, ev_tmp, ev_const, ofV_int, ofV_bool, ofV_str, ofV_nilSlice, ofV_nilPtr, putA_some, putA_none, gs_self, gs_ne, List.length_set, Option.bind_some, Option.map_some, intBinA, evL, evO, evP, ne_eq, not_false_eq_true, if_true, if_false, reduceCtorEq, ite_true, ite_false, reduceIte, put_app, AV.cells, and_true, true_and, and_self, decide_true, decide_false, ↓yielded_eq, yv_some, boolOf_bool, List.getElem?_toArray, List.getElem?_cons_zero, List.getElem?_cons_succ, Nat.reduceLT, Nat.reduceEqDiff, beq_self_eq_true, Option.some_beq_some, wr_app, wr_app0, rd_app, rd_app0, rdL_here, rdL_next, wrL_here, wrL_next, spl, List.all_cons, List.all_nil, AV.one, Bool.and_self, Bool.true_and, List.drop_zero, List.take_succ_cons, List.take_zero, List.drop_succ_cons, List.head?_cons, Nat.reduceAdd, Nat.reduceLeDiff, List.length_cons, List.length_nil, List.nil_append, List.cons_append, List.set_cons_zero, List.set_cons_succ, Int.toNat_natCast, Nat.add_zero, b_ft, b_tf, Bool.false_eq_true, ↓rp_done, ↓rp_take, ↓rp_all, ↓ra_nil, ↓ra_first, ↓ra_next, ↓quietO_none, ↓quietO_guard, ↓q_move, ↓q_assign, ↓q_pick, ↓q_binOp, ↓q_field, ↓q_fieldAddr, ↓q_indexAddr, ↓q_nilCheck, set_order, keepV_eq, stBeq_self, ↓rp_graft, put_slot, put_slot_app, List.length_append, List.append_assoc, Nat.add_assoc, ↓aop_build, evP, Bool.true_and, Bool.and_true, Bool.false_and, Bool.and_false, Bool.true_or, Bool.or_true, Bool.false_or, Bool.or_false, Bool.not_true, Bool.not_false]
  refine ⟨_, rfl, by simp only [List.length_set, hlen], by simp only [hlen, gs_self, gs_ne, List.length_set, ne_eq, Nat.reduceEqDiff, Nat.reduceLT, not_false_eq_true], fun t ht => ?_⟩
  simp only [List.mem_cons, List.not_mem_nil, or_false] at ht
  rcases ht with rfl | rfl | rfl | rfl | rfl | rfl <;> simp only [hlen, gs_self, gs_ne, List.length_set, ne_eq, Nat.reduceEqDiff, Nat.reduceLT, not_false_eq_true]

set_option maxHeartbeats 8000000 in
theorem reg56_22b {G G2 G3 : AH} {v s : AV} {t h hx' : List Int} {f a im m b : Nat} {x : Int} {tm : List AV} (hv : IntS G v t) (hx : t[a]? = some x) (ha : a < 2 ^ 40) (hm : IntKind.i64.wrap (1 + (m : Int)) = ((1 + m : Nat) : Int)) (hne : h ≠ []) (hl : h.length < 2 ^ 38) (hb : G[b]? = some (.cells (ii h) 3)) (hhx : h ++ [x] = hx')
    (e42 : Ev Try.prog C0 42 [ov (G.length + 12) (h.length + 1)] (G ++ [.fresh, .fresh, .fresh, .fresh, .cells (ii []) 3, .fresh, .dead, .fresh, .fresh, .fresh, .fresh, .cells (ii [x]) 3, .cells (ii hx') 3, .fresh, .fresh, .fresh, .fresh, .fresh]) = some (s, G2)) (e56 : Ev Try.prog C0 56 [v, I f, I ((a + 1 : Nat) : Int), s, .map im] G2 = some (I m, G3)) (hlen : tm.length = 123) (h0 : tm.getD 0 undefA = v) (h1 : tm.getD 1 undefA = I f) (h2 : tm.getD 2 undefA = I a) (h4 : tm.getD 4 undefA = .map im) (h3 : tm.getD 3 undefA = ov b h.length) :
    ∃ tm', EvC Try.prog C0 d56_22 (tm, G) = some (.normal, (tm', G3)) ∧ tm'.length = 123 ∧ tm'.getD 14 undefA = I ((1 + m : Nat) : Int) ∧ (∀ t ∈ [0, 1, 2, 3, 4, 11], tm'.getD t undefA = tm.getD t undefA) := by
  obtain ⟨i2, k2, hi2, hr2'⟩ := hv.ix a x hx
  have hr2 : ∀ L, rdCells (G ++ L) i2 k2 1 = some [I x] := fun L => rd_old hr2' L
  have hinc := inc_i (j := a) (by omega)
  have hpos := List.length_pos_iff.2 hne
  have e1 : ∀ L : AH, L[4]? = some .fresh → buildSliceA Try.prog (some (G.length + 4)) 46 0 [] (G ++ L) = some (.slice (G.length + 4) 0 1 0 0 true, G ++ L.set 4 (.cells (ii []) 3)) := fun L h => bs_nil_at h
  have e2 : ∀ L : AH, L[11]? = some .fresh → buildSliceA Try.prog (some (G.length + 11)) 46 1 [(0, I x)] (G ++ L) = some (.slice (G.length + 11) 0 1 1 1 true, G ++ L.set 11 (.cells (ii [x]) 3)) := fun L h => bs_at x h
  have e3 : ∀ L : AH, L[4]? = some (.cells (ii []) 3) → L[6]? = some .fresh → appendA Try.prog (some (G.length + 6)) 46 (some 46) (.slice (G.length + 4) 0 1 0 0 true) (ov b h.length) (G ++ L) = some (ov (G.length + 6) h.length, G ++ L.set 6 (.cells (ii h) 3)) := fun L p r => by
    have ho := rd_ap (k := 0) (n := h.length) hb (by omega) L
    rw [List.drop_zero, List.take_length] at ho
    have := app_exat (xs := []) (n := 0) (c' := h.length) (e' := false) ho hpos (rd_sp p rfl) (by omega) r
    rwa [Nat.zero_add, List.nil_append] at this
  have e4 : ∀ L : AH, L[6]? = some (.cells (ii h) 3) → L[11]? = some (.cells (ii [x]) 3) → L[12]? = some .fresh → appendA Try.prog (some (G.length + 12)) 46 (some 46) (ov (G.length + 6) h.length) (.slice (G.length + 11) 0 1 1 1 true) (G ++ L) = some (ov (G.length + 12) (h.length + 1), G ++ (L.set 6 .dead).set 12 (.cells (ii hx') 3)) := fun L p q r => by
    rw [← hhx]
    exact app_killL (rd_sp q rfl) (by omega) p (rd_sp p rfl) (by omega) r
  have dd := ed56_22
  simp only [d56_22, opsAt, atPath, Try.f56, Option.getD_some] at dd
  simp only [d56_22, opsAt, atPath, Try.f56, Option.getD_some]
  rw [dd]
  simp -implicitDefEqProofs only [hlen, h0, h1, h2, h3, h4, hi2, hr2, hinc, e1, e2, e3, e4, e42, e56, hm, ↓fc42, ↓fc56, List.replicate, Bool.not_true, Bool.not_false, Bool.true_and, Bool.and_true, Bool.false_and, Bool.and_false, Bool.true_or, Bool.or_true, Bool.false_or, Bool.or_false, cond_true, cond_false, boolOf_undef, nb, beq_self_eq_true, Bool.and_self, ↓ld3, ↓st3, z3, boolOf_undef, nb, ↓aop_lookup, ↓aop_makeFunc, ↓aop_makeMap, ↓aop_mapUpdate, ↓aop_buildSlice, ↓aop_extract, ↓EvC_seq, ↓EvC_skip, ↓EvC_exit, ↓EvC_ret, ↓EvC_block, ↓EvC_cond, ↓ev_region, ↓runL_cons, ↓runL_nil, ↓stepO_none, ↓stepO_guard, ↓aop_move, ↓aop_assign, ↓aop_load, ↓aop_store, ↓aop_alloc, ↓aop_box, ↓aop_nilCheck, ↓aop_fieldAddr, ↓aop_field, ↓aop_indexAddr, ↓aop_binOp, ↓aop_pick, ↓aop_extract, ↓aop_buildSlice, ↓aop_slice, ↓aop_not, ↓aop_call, ↓callA_len, ↓callA_append, ev_tmp, ev_const, ofV_int, ofV_bool, ofV_str, ofV_nilSlice, ofV_nilPtr, putA_some, putA_none, gs_self, gs_ne, List.length_set, Option.bind_some, Option.map_some, intBinA, evL, evO, evP, ne_eq, not_false_eq_true, if_true, if_false, reduceCtorEq, ite_true, ite_false, reduceIte, put_app, AV.cells, and_true, true_and, and_self, decide_true, decide_false, ↓yielded_eq, yv_some, boolOf_bool, List.getElem?_toArray, List.getElem?_cons_zero, List.getElem?_cons_succ, Nat.reduceLT, Nat.reduceEqDiff, beq_self_eq_true, Option.some_beq_some, wr_app, wr_app0, rd_app, rd_app0, rdL_here, rdL_next, wrL_here, wrL_next, spl, List.all_cons, List.all_nil, AV.one, Bool.and_self, Bool.true_and, List.drop_zero, List.take_succ_cons, List.take_zero, List.drop_succ_cons, List.head?_cons, Nat.reduceAdd, Nat.reduceLeDiff, List.length_cons, List.length_nil, List.nil_append, List.cons_append, List.set_cons_zero, List.set_cons_succ, Int.toNat_natCast, Nat.add_zero, b_ft, b_tf, Bool.false_eq_true, ↓rp_done, ↓rp_take, ↓rp_all, ↓ra_nil, ↓ra_first, ↓ra_next, ↓quietO_none, ↓quietO_guard, ↓q_move, ↓q_assign, ↓q_pick, ↓q_binOp, ↓q_field, ↓q_fieldAddr, ↓q_indexAddr, ↓q_nilCheck, set_order, keepV_eq, stBeq_self, ↓rp_graft, put_slot, put_slot_app, List.length_append, List.append_assoc, Nat.add_assoc, ↓aop_build, evP, Bool.true_and, Bool.and_true, Bool.false_and, Bool.and_false, Bool.true_or, Bool.or_true, Bool.false_or, Bool.or_false, Bool.not_true, Bool.not_false]
  refine ⟨_, rfl, by simp only [List.length_set, hlen], by simp only [hlen, gs_self, gs_ne, List.length_set, ne_eq, Nat.reduceEqDiff, Nat.reduceLT, not_false_eq_true], fun t ht => ?_⟩
  simp only [List.mem_cons, List.not_mem_nil, or_false] at ht
  rcases ht with rfl | rfl | rfl | rfl | rfl | rfl <;> simp only [hlen, gs_self, gs_ne, List.length_set, ne_eq, Nat.reduceEqDiff, Nat.reduceLT, not_false_eq_true]


/-- a copy of a row with one number left out -/
def CutRow (b0 : Nat) (G : AH) (w : AV) (l : List Int) : Prop := (l = [] ∧ ∃ j, w = .slice j 0 1 0 0 true ∧ rdCells G j 0 0 = some []) ∨ (l ≠ [] ∧ ∃ b, w = ov b l.length ∧ b0 ≤ b ∧ G[b]? = some (.cells (ii l) 3))

set_option maxHeartbeats 8000000 in
theorem reg56_17a {G : AH} {h l' : List Int} {b i : Nat} {tm : List AV} (hi : i = 0) (hn : h.length = 1) (hil : i < h.length) (hhl : h.length < 2 ^ 38) (hb : G[b]? = some (.cells (ii h) 3)) (hl' : h.take i ++ h.drop (i + 1) = l') (hlen : tm.length = 123) (h3 : tm.getD 3 undefA = ov b h.length) (h17 : tm.getD 17 undefA = I i) :
    ∃ tm' L w, EvC Try.prog C0 d56_17 (tm, G) = some (.normal, (tm', G ++ L)) ∧ tm'.length = 123 ∧ tm'.getD 18 undefA = w ∧ CutRow G.length (G ++ L) w l' ∧ (∀ t ∈ [0, 1, 2, 3, 4, 11, 14, 17], tm'.getD t undefA = tm.getD t undefA) := by
  have hinc := inc_i (j := i) (by omega)
  have e1 : ∀ L : AH, L[0]? = some .fresh → buildSliceA Try.prog (some G.length) 46 0 [] (G ++ L) = some (.slice G.length 0 1 0 0 true, G ++ L.set 0 (.cells (ii []) 3)) := fun L p => bs_nil_at (G := G) (n := 0) p
  have e1' : ∀ L : AH, L[0]? = some .fresh → buildSliceA Try.prog (some (G.length + 0)) 46 0 [] (G ++ L) = some (.slice G.length 0 1 0 0 true, G ++ L.set 0 (.cells (ii []) 3)) := e1
  have e2 : ∀ H, sliceA Try.prog 46 H (ov b h.length) none (some (I i)) none = some (.slice b 0 1 i h.length false) := fun H => sl46h H b 0 h.length h.length false i (by omega)
  have e3 : ∀ H, sliceA Try.prog 46 H (ov b h.length) (some (I ((i + 1 : Nat) : Int))) none none = some (.slice b (i + 1) 1 (h.length - (i + 1)) (h.length - (i + 1)) false) := fun H => by
    have := sl46l H b 0 h.length h.length false (i + 1) (by omega) (by omega)
    rwa [Nat.zero_add] at this
  have e4 : ∀ (slot : Option Nat) (L : AH), appendA Try.prog slot 46 (some 46) (.slice G.length 0 1 0 0 true) (.slice b 0 1 i h.length false) (G ++ L) = some (.slice G.length 0 1 0 0 true, G ++ L) := fun slot L => by
    rw [hi]; exact app_none (rd_ap hb (by omega) L)
  have e5 : ∀ (slot : Option Nat) (L : AH), appendA Try.prog slot 46 (some 46) (.slice G.length 0 1 0 0 true) (.slice b (i + 1) 1 (h.length - (i + 1)) (h.length - (i + 1)) false) (G ++ L) = some (.slice G.length 0 1 0 0 true, G ++ L) := fun slot L => by
    rw [show h.length - (i + 1) = 0 by omega]; exact app_none (rd_ap hb (by omega) L)
  have dd := ed56_17
  simp only [d56_17, opsAt, atPath, Try.f56, Option.getD_some] at dd
  simp only [d56_17, opsAt, atPath, Try.f56, Option.getD_some]
  rw [dd]
  simp -implicitDefEqProofs only [hlen, h3, h17, hinc, e1, e1', e2, e3, e4, e5, List.replicate, Bool.not_true, Bool.not_false, Bool.true_and, Bool.and_true, Bool.false_and, Bool.and_false, Bool.true_or, Bool.or_true, Bool.false_or, Bool.or_false, cond_true, cond_false, boolOf_undef, nb, beq_self_eq_true, Bool.and_self, ↓ld3, ↓st3, z3, boolOf_undef, nb, ↓aop_lookup, ↓aop_makeFunc, ↓aop_makeMap, ↓aop_mapUpdate, ↓aop_buildSlice, ↓aop_extract, ↓EvC_seq, ↓EvC_skip, ↓EvC_exit, ↓EvC_ret, ↓EvC_block, ↓EvC_cond, ↓ev_region, ↓runL_cons, ↓runL_nil, ↓stepO_none, ↓stepO_guard, ↓aop_move, ↓aop_assign, ↓aop_load, ↓aop_store, ↓aop_alloc, ↓aop_box, ↓aop_nilCheck, ↓aop_fieldAddr, ↓aop_field, ↓aop_indexAddr, ↓aop_binOp, ↓aop_pick, ↓aop_extract, ↓aop_buildSlice, ↓aop_slice, ↓aop_not, ↓aop_call, ↓callA_len, ↓callA_append, ev_tmp, ev_const, ofV_int, ofV_bool, ofV_str, ofV_nilSlice, ofV_nilPtr, putA_some, putA_none, gs_self, gs_ne, List.length_set, Option.bind_some, Option.map_some, intBinA, evL, evO, evP, ne_eq, not_false_eq_true, if_true, if_false, reduceCtorEq, ite_true, ite_false, reduceIte, put_app, AV.cells, and_true, true_and, and_self, decide_true, decide_false, ↓yielded_eq, yv_some, boolOf_bool, List.getElem?_toArray, List.getElem?_cons_zero, List.getElem?_cons_succ, Nat.reduceLT, Nat.reduceEqDiff, beq_self_eq_true, Option.some_beq_some, wr_app, wr_app0, rd_app, rd_app0, rdL_here, rdL_next, wrL_here, wrL_next, spl, List.all_cons, List.all_nil, AV.one, Bool.and_self, Bool.true_and, List.drop_zero, List.take_succ_cons, List.take_zero, List.drop_succ_cons, List.head?_cons, Nat.reduceAdd, Nat.reduceLeDiff, List.length_cons, List.length_nil, List.nil_append, List.cons_append, List.set_cons_zero, List.set_cons_succ, Int.toNat_natCast, Nat.add_zero, b_ft, b_tf, Bool.false_eq_true, ↓rp_done, ↓rp_take, ↓rp_all, ↓ra_nil, ↓ra_first, ↓ra_next, ↓quietO_none, ↓quietO_guard, ↓q_move, ↓q_assign, ↓q_pick, ↓q_binOp, ↓q_field, ↓q_fieldAddr, ↓q_indexAddr, ↓q_nilCheck, set_order, keepV_eq, stBeq_self, ↓rp_graft, put_slot, put_slot_app, List.length_append, List.append_assoc, Nat.add_assoc, ↓aop_build, evP, Bool.true_and, Bool.and_true, Bool.false_and, Bool.and_false, Bool.true_or, Bool.or_true, Bool.false_or, Bool.or_false, Bool.not_true, Bool.not_false]
  refine ⟨_, _, _, rfl, by simp only [List.length_set, hlen], by simp only [hlen, gs_self, gs_ne, List.length_set, ne_eq, Nat.reduceEqDiff, Nat.reduceLT, not_false_eq_true], .inl ⟨?_, G.length, rfl, ?_⟩, fun t ht => ?_⟩
  · rw [← hl']; exact List.length_eq_zero_iff.1 (by simp; omega)
  · exact rd_sp (G := G) (n := 0) (xs := []) rfl rfl
  simp only [List.mem_cons, List.not_mem_nil, or_false] at ht
  rcases ht with rfl | rfl | rfl | rfl | rfl | rfl | rfl | rfl <;> simp only [hlen, gs_self, gs_ne, List.length_set, ne_eq, Nat.reduceEqDiff, Nat.reduceLT, not_false_eq_true]

set_option maxHeartbeats 8000000 in
theorem reg56_17b {G : AH} {h l' : List Int} {b i : Nat} {tm : List AV} (hi : i = 0) (hn : 1 < h.length) (hil : i < h.length) (hhl : h.length < 2 ^ 38) (hb : G[b]? = some (.cells (ii h) 3)) (hl' : h.take i ++ h.drop (i + 1) = l') (hlen : tm.length = 123) (h3 : tm.getD 3 undefA = ov b h.length) (h17 : tm.getD 17 undefA = I i) :
    ∃ tm' L w, EvC Try.prog C0 d56_17 (tm, G) = some (.normal, (tm', G ++ L)) ∧ tm'.length = 123 ∧ tm'.getD 18 undefA = w ∧ CutRow G.length (G ++ L) w l' ∧ (∀ t ∈ [0, 1, 2, 3, 4, 11, 14, 17], tm'.getD t undefA = tm.getD t undefA) := by
  have hinc := inc_i (j := i) (by omega)
  have e1 : ∀ L : AH, L[0]? = some .fresh → buildSliceA Try.prog (some G.length) 46 0 [] (G ++ L) = some (.slice G.length 0 1 0 0 true, G ++ L.set 0 (.cells (ii []) 3)) := fun L p => bs_nil_at (G := G) (n := 0) p
  have e1' : ∀ L : AH, L[0]? = some .fresh → buildSliceA Try.prog (some (G.length + 0)) 46 0 [] (G ++ L) = some (.slice G.length 0 1 0 0 true, G ++ L.set 0 (.cells (ii []) 3)) := e1
  have e2 : ∀ H, sliceA Try.prog 46 H (ov b h.length) none (some (I i)) none = some (.slice b 0 1 i h.length false) := fun H => sl46h H b 0 h.length h.length false i (by omega)
  have e3 : ∀ H, sliceA Try.prog 46 H (ov b h.length) (some (I ((i + 1 : Nat) : Int))) none none = some (.slice b (i + 1) 1 (h.length - (i + 1)) (h.length - (i + 1)) false) := fun H => by
    have := sl46l H b 0 h.length h.length false (i + 1) (by omega) (by omega)
    rwa [Nat.zero_add] at this
  have e4 : ∀ (slot : Option Nat) (L : AH), appendA Try.prog slot 46 (some 46) (.slice G.length 0 1 0 0 true) (.slice b 0 1 i h.length false) (G ++ L) = some (.slice G.length 0 1 0 0 true, G ++ L) := fun slot L => by
    rw [hi]; exact app_none (rd_ap hb (by omega) L)
  have e5 : ∀ L : AH, L[0]? = some (.cells (ii []) 3) → L[9]? = some .fresh → appendA Try.prog (some (G.length + 9)) 46 (some 46) (.slice G.length 0 1 0 0 true) (.slice b (i + 1) 1 (h.length - (i + 1)) (h.length - (i + 1)) false) (G ++ L) = some (ov (G.length + 9) (h.length - 1), G ++ L.set 9 (.cells (ii l') 3)) := fun L p r => by
    have ho := rd_ap (k := i + 1) (n := h.length - (i + 1)) hb (by omega) L
    rw [List.take_of_length_le (by simp)] at ho
    have := app_exat (G := G) (L := L) (b := G.length) (xs := []) (n := 0) (c' := h.length - (i + 1)) (e' := false) ho (by omega) (rd_sp (n := 0) p rfl) (by omega) r
    rw [Nat.zero_add, List.nil_append] at this
    rw [this, ← hl', hi, List.take_zero, List.nil_append]
  have dd := ed56_17
  simp only [d56_17, opsAt, atPath, Try.f56, Option.getD_some] at dd
  simp only [d56_17, opsAt, atPath, Try.f56, Option.getD_some]
  rw [dd]
  simp -implicitDefEqProofs only [hlen, h3, h17, hinc, e1, e1', e2, e3, e4, e5, List.replicate, Bool.not_true, Bool.not_false, Bool.true_and, Bool.and_true, Bool.false_and, Bool.and_false, Bool.true_or, Bool.or_true, Bool.false_or, Bool.or_false, cond_true, cond_false, boolOf_undef, nb, beq_self_eq_true, Bool.and_self, ↓ld3, ↓st3, z3, boolOf_undef, nb, ↓aop_lookup, ↓aop_makeFunc, ↓aop_makeMap, ↓aop_mapUpdate, ↓aop_buildSlice, ↓aop_extract, ↓EvC_seq, ↓EvC_skip, ↓EvC_exit, ↓EvC_ret, ↓EvC_block, ↓EvC_cond, ↓ev_region, ↓runL_cons, ↓runL_nil, ↓stepO_none, ↓stepO_guard, ↓aop_move, ↓aop_assign, ↓aop_load, ↓aop_store, ↓aop_alloc, ↓aop_box, ↓aop_nilCheck, ↓aop_fieldAddr, ↓aop_field, ↓aop_indexAddr, ↓aop_binOp, ↓aop_pick, ↓aop_extract, ↓aop_buildSlice, ↓aop_slice, ↓aop_not, ↓aop_call, ↓callA_len, ↓callA_append, ev_tmp, ev_const, ofV_int, ofV_bool, ofV_str, ofV_nilSlice, ofV_nilPtr, putA_some, putA_none, gs_self, gs_ne, List.length_set, Option.bind_some, Option.map_some, intBinA, evL, evO, evP, ne_eq, not_false_eq_true, if_true, if_false, reduceCtorEq, ite_true, ite_false, reduceIte, put_app, AV.cells, and_true, true_and, and_self, decide_true, decide_false, ↓yielded_eq, yv_some, boolOf_bool, List.getElem?_toArray, List.getElem?_cons_zero, List.getElem?_cons_succ, Nat.reduceLT, Nat.reduceEqDiff, beq_self_eq_true, Option.some_beq_some, wr_app, wr_app0, rd_app, rd_app0, rdL_here, rdL_next, wrL_here, wrL_next, spl, List.all_cons, List.all_nil, AV.one, Bool.and_self, Bool.true_and, List.drop_zero, List.take_succ_cons, List.take_zero, List.drop_succ_cons, List.head?_cons, Nat.reduceAdd, Nat.reduceLeDiff, List.length_cons, List.length_nil, List.nil_append, List.cons_append, List.set_cons_zero, List.set_cons_succ, Int.toNat_natCast, Nat.add_zero, b_ft, b_tf, Bool.false_eq_true, ↓rp_done, ↓rp_take, ↓rp_all, ↓ra_nil, ↓ra_first, ↓ra_next, ↓quietO_none, ↓quietO_guard, ↓q_move, ↓q_assign, ↓q_pick, ↓q_binOp, ↓q_field, ↓q_fieldAddr, ↓q_indexAddr, ↓q_nilCheck, set_order, keepV_eq, stBeq_self, ↓rp_graft, put_slot, put_slot_app, List.length_append, List.append_assoc, Nat.add_assoc, ↓aop_build, evP, Bool.true_and, Bool.and_true, Bool.false_and, Bool.and_false, Bool.true_or, Bool.or_true, Bool.false_or, Bool.or_false, Bool.not_true, Bool.not_false]
  have hll : l'.length = h.length - 1 := by rw [← hl']; simp; omega
  refine ⟨_, _, _, rfl, by simp only [List.length_set, hlen], by simp only [hlen, gs_self, gs_ne, List.length_set, ne_eq, Nat.reduceEqDiff, Nat.reduceLT, not_false_eq_true]; rfl, .inr ⟨?_, G.length + 9, by rw [hll], by omega, get_app rfl⟩, fun t ht => ?_⟩
  · intro e; rw [e] at hll; simp at hll; omega
  simp only [List.mem_cons, List.not_mem_nil, or_false] at ht
  rcases ht with rfl | rfl | rfl | rfl | rfl | rfl | rfl | rfl <;> simp only [hlen, gs_self, gs_ne, List.length_set, ne_eq, Nat.reduceEqDiff, Nat.reduceLT, not_false_eq_true]

set_option maxHeartbeats 8000000 in
theorem reg56_17c {G : AH} {h l' : List Int} {b i : Nat} {tm : List AV} (hi : 0 < i) (hn : i + 1 = h.length) (hil : i < h.length) (hhl : h.length < 2 ^ 38) (hb : G[b]? = some (.cells (ii h) 3)) (hl' : h.take i ++ h.drop (i + 1) = l') (hlen : tm.length = 123) (h3 : tm.getD 3 undefA = ov b h.length) (h17 : tm.getD 17 undefA = I i) :
    ∃ tm' L w, EvC Try.prog C0 d56_17 (tm, G) = some (.normal, (tm', G ++ L)) ∧ tm'.length = 123 ∧ tm'.getD 18 undefA = w ∧ CutRow G.length (G ++ L) w l' ∧ (∀ t ∈ [0, 1, 2, 3, 4, 11, 14, 17], tm'.getD t undefA = tm.getD t undefA) := by
  have hinc := inc_i (j := i) (by omega)
  have e1 : ∀ L : AH, L[0]? = some .fresh → buildSliceA Try.prog (some G.length) 46 0 [] (G ++ L) = some (.slice G.length 0 1 0 0 true, G ++ L.set 0 (.cells (ii []) 3)) := fun L p => bs_nil_at (G := G) (n := 0) p
  have e1' : ∀ L : AH, L[0]? = some .fresh → buildSliceA Try.prog (some (G.length + 0)) 46 0 [] (G ++ L) = some (.slice G.length 0 1 0 0 true, G ++ L.set 0 (.cells (ii []) 3)) := e1
  have e2 : ∀ H, sliceA Try.prog 46 H (ov b h.length) none (some (I i)) none = some (.slice b 0 1 i h.length false) := fun H => sl46h H b 0 h.length h.length false i (by omega)
  have e3 : ∀ H, sliceA Try.prog 46 H (ov b h.length) (some (I ((i + 1 : Nat) : Int))) none none = some (.slice b (i + 1) 1 (h.length - (i + 1)) (h.length - (i + 1)) false) := fun H => by
    have := sl46l H b 0 h.length h.length false (i + 1) (by omega) (by omega)
    rwa [Nat.zero_add] at this
  have e4 : ∀ L : AH, L[0]? = some (.cells (ii []) 3) → L[4]? = some .fresh → appendA Try.prog (some (G.length + 4)) 46 (some 46) (.slice G.length 0 1 0 0 true) (.slice b 0 1 i h.length false) (G ++ L) = some (ov (G.length + 4) i, G ++ L.set 4 (.cells (ii l') 3)) := fun L p r => by
    have ho := rd_ap (k := 0) (n := i) hb (by omega) L
    rw [List.drop_zero] at ho
    have := app_exat (G := G) (L := L) (b := G.length) (xs := []) (n := 0) (c' := h.length) (e' := false) ho (by omega) (rd_sp (n := 0) p rfl) (by omega) r
    rw [Nat.zero_add, List.nil_append] at this
    rw [this, ← hl', List.drop_of_length_le (l := h) (by omega), List.append_nil]
  have e5 : ∀ (slot : Option Nat) (L : AH), appendA Try.prog slot 46 (some 46) (ov (G.length + 4) i) (.slice b (i + 1) 1 (h.length - (i + 1)) (h.length - (i + 1)) false) (G ++ L) = some (ov (G.length + 4) i, G ++ L) := fun slot L => by
    rw [show h.length - (i + 1) = 0 by omega]; exact app_none (rd_ap hb (by omega) L)
  have dd := ed56_17
  simp only [d56_17, opsAt, atPath, Try.f56, Option.getD_some] at dd
  simp only [d56_17, opsAt, atPath, Try.f56, Option.getD_some]
  rw [dd]
  simp -implicitDefEqProofs only [hlen, h3, h17, hinc, e1, e1', e2, e3, e4, e5, List.replicate, Bool.not_true, Bool.not_false, Bool.true_and, Bool.and_true, Bool.false_and, Bool.and_false, Bool.true_or, Bool.or_true, Bool.false_or, Bool.or_false, cond_true, cond_false, boolOf_undef, nb, beq_self_eq_true, Bool.and_self, ↓ld3, ↓st3, z3, boolOf_undef, nb, ↓aop_lookup, ↓aop_makeFunc, ↓aop_makeMap, ↓aop_mapUpdate, ↓aop_buildSlice, ↓aop_extract, ↓EvC_seq, ↓EvC_skip, ↓EvC_exit, ↓EvC_ret, ↓EvC_block, ↓EvC_cond, ↓ev_region, ↓runL_cons, ↓runL_nil, ↓stepO_none, ↓stepO_guard, ↓aop_move, ↓aop_assign, ↓aop_load, ↓aop_store, ↓aop_alloc, ↓aop_box, ↓aop_nilCheck, ↓aop_fieldAddr, ↓aop_field, ↓aop_indexAddr, ↓aop_binOp, ↓aop_pick, ↓aop_extract, ↓aop_buildSlice, ↓aop_slice, ↓aop_not, ↓aop_call, ↓callA_len, ↓callA_append, ev_tmp, ev_const, ofV_int, ofV_bool, ofV_str, ofV_nilSlice, ofV_nilPtr, putA_some, putA_none, gs_self, gs_ne, List.length_set, Option.bind_some, Option.map_some, intBinA, evL, evO, evP, ne_eq, not_false_eq_true, if_true, if_false, reduceCtorEq, ite_true, ite_false, reduceIte, put_app, AV.cells, and_true, true_and, and_self, decide_true, decide_false, ↓yielded_eq, yv_some, boolOf_bool, List.getElem?_toArray, List.getElem?_cons_zero, List.getElem?_cons_succ, Nat.reduceLT, Nat.reduceEqDiff, beq_self_eq_true, Option.some_beq_some, wr_app, wr_app0, rd_app, rd_app0, rdL_here, rdL_next, wrL_here, wrL_next, spl, List.all_cons, List.all_nil, AV.one, Bool.and_self, Bool.true_and, List.drop_zero, List.take_succ_cons, List.take_zero, List.drop_succ_cons, List.head?_cons, Nat.reduceAdd, Nat.reduceLeDiff, List.length_cons, List.length_nil, List.nil_append, List.cons_append, List.set_cons_zero, List.set_cons_succ, Int.toNat_natCast, Nat.add_zero, b_ft, b_tf, Bool.false_eq_true, ↓rp_done, ↓rp_take, ↓rp_all, ↓ra_nil, ↓ra_first, ↓ra_next, ↓quietO_none, ↓quietO_guard, ↓q_move, ↓q_assign, ↓q_pick, ↓q_binOp, ↓q_field, ↓q_fieldAddr, ↓q_indexAddr, ↓q_nilCheck, set_order, keepV_eq, stBeq_self, ↓rp_graft, put_slot, put_slot_app, List.length_append, List.append_assoc, Nat.add_assoc, ↓aop_build, evP, Bool.true_and, Bool.and_true, Bool.false_and, Bool.and_false, Bool.true_or, Bool.or_true, Bool.false_or, Bool.or_false, Bool.not_true, Bool.not_false]
  have hll : l'.length = i := by rw [← hl']; simp; omega
  refine ⟨_, _, _, rfl, by simp only [List.length_set, hlen], by simp only [hlen, gs_self, gs_ne, List.length_set, ne_eq, Nat.reduceEqDiff, Nat.reduceLT, not_false_eq_true]; rfl, .inr ⟨?_, G.length + 4, by rw [hll], by omega, get_app rfl⟩, fun t ht => ?_⟩
  · intro e; rw [e] at hll; simp at hll; omega
  simp only [List.mem_cons, List.not_mem_nil, or_false] at ht
  rcases ht with rfl | rfl | rfl | rfl | rfl | rfl | rfl | rfl <;> simp only [hlen, gs_self, gs_ne, List.length_set, ne_eq, Nat.reduceEqDiff, Nat.reduceLT, not_false_eq_true]

set_option maxHeartbeats 8000000 in
theorem reg56_17d {G : AH} {h l' : List Int} {b i : Nat} {tm : List AV} (hi : 0 < i) (hn : i + 1 < h.length) (hil : i < h.length) (hhl : h.length < 2 ^ 38) (hb : G[b]? = some (.cells (ii h) 3)) (hl' : h.take i ++ h.drop (i + 1) = l') (hlen : tm.length = 123) (h3 : tm.getD 3 undefA = ov b h.length) (h17 : tm.getD 17 undefA = I i) :
    ∃ tm' L w, EvC Try.prog C0 d56_17 (tm, G) = some (.normal, (tm', G ++ L)) ∧ tm'.length = 123 ∧ tm'.getD 18 undefA = w ∧ CutRow G.length (G ++ L) w l' ∧ (∀ t ∈ [0, 1, 2, 3, 4, 11, 14, 17], tm'.getD t undefA = tm.getD t undefA) := by
  have hinc := inc_i (j := i) (by omega)
  have e1 : ∀ L : AH, L[0]? = some .fresh → buildSliceA Try.prog (some G.length) 46 0 [] (G ++ L) = some (.slice G.length 0 1 0 0 true, G ++ L.set 0 (.cells (ii []) 3)) := fun L p => bs_nil_at (G := G) (n := 0) p
  have e1' : ∀ L : AH, L[0]? = some .fresh → buildSliceA Try.prog (some (G.length + 0)) 46 0 [] (G ++ L) = some (.slice G.length 0 1 0 0 true, G ++ L.set 0 (.cells (ii []) 3)) := e1
  have e2 : ∀ H, sliceA Try.prog 46 H (ov b h.length) none (some (I i)) none = some (.slice b 0 1 i h.length false) := fun H => sl46h H b 0 h.length h.length false i (by omega)
  have e3 : ∀ H, sliceA Try.prog 46 H (ov b h.length) (some (I ((i + 1 : Nat) : Int))) none none = some (.slice b (i + 1) 1 (h.length - (i + 1)) (h.length - (i + 1)) false) := fun H => by
    have := sl46l H b 0 h.length h.length false (i + 1) (by omega) (by omega)
    rwa [Nat.zero_add] at this
  have e4 : ∀ L : AH, L[0]? = some (.cells (ii []) 3) → L[4]? = some .fresh → appendA Try.prog (some (G.length + 4)) 46 (some 46) (.slice G.length 0 1 0 0 true) (.slice b 0 1 i h.length false) (G ++ L) = some (ov (G.length + 4) i, G ++ L.set 4 (.cells (ii (h.take i)) 3)) := fun L p r => by
    have ho := rd_ap (k := 0) (n := i) hb (by omega) L
    rw [List.drop_zero] at ho
    have := app_exat (G := G) (L := L) (b := G.length) (xs := []) (n := 0) (c' := h.length) (e' := false) ho (by omega) (rd_sp (n := 0) p rfl) (by omega) r
    rwa [Nat.zero_add, List.nil_append] at this
  have e5 : ∀ L : AH, L[4]? = some (.cells (ii (h.take i)) 3) → L[9]? = some .fresh → appendA Try.prog (some (G.length + 9)) 46 (some 46) (ov (G.length + 4) i) (.slice b (i + 1) 1 (h.length - (i + 1)) (h.length - (i + 1)) false) (G ++ L) = some (ov (G.length + 9) (h.length - 1), G ++ (L.set 4 .dead).set 9 (.cells (ii l') 3)) := fun L p r => by
    have ho := rd_ap (k := i + 1) (n := h.length - (i + 1)) hb (by omega) L
    rw [List.take_of_length_le (by simp)] at ho
    have := app_killL (c' := h.length - (i + 1)) (e' := false) ho (by omega) p (rd_sp (m := i) p (by simp; omega)) (by omega) r
    rw [this, ← hl', show i + (h.length - (i + 1)) = h.length - 1 by omega]
  have dd := ed56_17
  simp only [d56_17, opsAt, atPath, Try.f56, Option.getD_some] at dd
  simp only [d56_17, opsAt, atPath, Try.f56, Option.getD_some]
  rw [dd]
  simp -implicitDefEqProofs only [hlen, h3, h17, hinc, e1, e1', e2, e3, e4, e5, List.replicate, Bool.not_true, Bool.not_false, Bool.true_and, Bool.and_true, Bool.false_and, Bool.and_false, Bool.true_or, Bool.or_true, Bool.false_or, Bool.or_false, cond_true, cond_false, boolOf_undef, nb, beq_self_eq_true, Bool.and_self, ↓ld3, ↓st3, z3, boolOf_undef, nb, ↓aop_lookup, ↓aop_makeFunc, ↓aop_makeMap, ↓aop_mapUpdate, ↓aop_buildSlice, ↓aop_extract, ↓EvC_seq, ↓EvC_skip, ↓EvC_exit, ↓EvC_ret, ↓EvC_block, ↓EvC_cond, ↓ev_region, ↓runL_cons, ↓runL_nil, ↓stepO_none, ↓stepO_guard, ↓aop_move, ↓aop_assign, ↓aop_load, ↓aop_store, ↓aop_alloc, ↓aop_box, ↓aop_nilCheck, ↓aop_fieldAddr, ↓aop_field, ↓aop_indexAddr, ↓aop_binOp, ↓aop_pick, ↓aop_extract, ↓aop_buildSlice, ↓aop_slice, ↓aop_not, ↓aop_call, ↓callA_len, ↓callA_append, ev_tmp, ev_const, ofV_int, ofV_bool, ofV_str, ofV_nilSlice, ofV_nilPtr, putA_some, putA_none, gs_self, gs_ne, List.length_set, Option.bind_some, Option.map_some, intBinA, evL, evO, evP, ne_eq, not_false_eq_true, if_true, if_false, reduceCtorEq, ite_true, ite_false, reduceIte, put_app, AV.cells, and_true, true_and, and_self, decide_true, decide_false, ↓yielded_eq, yv_some, boolOf_bool, List.getElem?_toArray, List.getElem?_cons_zero, List.getElem?_cons_succ, Nat.reduceLT, Nat.reduceEqDiff, beq_self_eq_true, Option.some_beq_some, wr_app, wr_app0, rd_app, rd_app0, rdL_here, rdL_next, wrL_here, wrL_next, spl, List.all_cons, List.all_nil, AV.one, Bool.and_self, Bool.true_and, List.drop_zero, List.take_succ_cons, List.take_zero, List.drop_succ_cons, List.head?_cons, Nat.reduceAdd, Nat.reduceLeDiff, List.length_cons, List.length_nil, List.nil_append, List.cons_append, List.set_cons_zero, List.set_cons_succ, Int.toNat_natCast, Nat.add_zero, b_ft, b_tf, Bool.false_eq_true, ↓rp_done, ↓rp_take, ↓rp_all, ↓ra_nil, ↓ra_first, ↓ra_next, ↓quietO_none, ↓quietO_guard, ↓q_move, ↓q_assign, ↓q_pick, ↓q_binOp, ↓q_field, ↓q_fieldAddr, ↓q_indexAddr, ↓q_nilCheck, set_order, keepV_eq, stBeq_self, ↓rp_graft, put_slot, put_slot_app, List.length_append, List.append_assoc, Nat.add_assoc, ↓aop_build, evP, Bool.true_and, Bool.and_true, Bool.false_and, Bool.and_false, Bool.true_or, Bool.or_true, Bool.false_or, Bool.or_false, Bool.not_true, Bool.not_false]
  have hll : l'.length = h.length - 1 := by rw [← hl']; simp; omega
  refine ⟨_, _, _, rfl, by simp only [List.length_set, hlen], by simp only [hlen, gs_self, gs_ne, List.length_set, ne_eq, Nat.reduceEqDiff, Nat.reduceLT, not_false_eq_true]; rfl, .inr ⟨?_, G.length + 9, by rw [hll], by omega, get_app rfl⟩, fun t ht => ?_⟩
  · intro e; rw [e] at hll; simp at hll; omega
  simp only [List.mem_cons, List.not_mem_nil, or_false] at ht
  rcases ht with rfl | rfl | rfl | rfl | rfl | rfl | rfl | rfl <;> simp only [hlen, gs_self, gs_ne, List.length_set, ne_eq, Nat.reduceEqDiff, Nat.reduceLT, not_false_eq_true]

theorem reg56_17 {G : AH} {h l' : List Int} {b i : Nat} {tm : List AV} (hil : i < h.length) (hhl : h.length < 2 ^ 38) (hb : G[b]? = some (.cells (ii h) 3)) (hl' : h.take i ++ h.drop (i + 1) = l') (hlen : tm.length = 123) (h3 : tm.getD 3 undefA = ov b h.length) (h17 : tm.getD 17 undefA = I i) :
    ∃ tm' L w, EvC Try.prog C0 d56_17 (tm, G) = some (.normal, (tm', G ++ L)) ∧ tm'.length = 123 ∧ tm'.getD 18 undefA = w ∧ CutRow G.length (G ++ L) w l' ∧ (∀ t ∈ [0, 1, 2, 3, 4, 11, 14, 17], tm'.getD t undefA = tm.getD t undefA) := by
  rcases Nat.eq_zero_or_pos i with hi | hi
  · rcases Nat.lt_or_ge 1 h.length with hn | hn
    · exact reg56_17b hi hn hil hhl hb hl' hlen h3 h17
    · exact reg56_17a hi (by omega) hil hhl hb hl' hlen h3 h17
  · rcases Nat.lt_or_ge (i + 1) h.length with hn | hn
    · exact reg56_17d hi hn hil hhl hb hl' hlen h3 h17
    · exact reg56_17c hi (by omega) hil hhl hb hl' hlen h3 h17
theorem reg56_17' {G : AH} {h l' : List Int} {b i : Nat} {tm : List AV} {X : Option (AExit × St)} (hX : EvC Try.prog C0 d56_17 (tm, G) = X) (hil : i < h.length) (hhl : h.length < 2 ^ 38) (hb : G[b]? = some (.cells (ii h) 3)) (hl' : h.take i ++ h.drop (i + 1) = l') (hlen : tm.length = 123) (h3 : tm.getD 3 undefA = ov b h.length) (h17 : tm.getD 17 undefA = I i) :
    ∃ tm' L w, X = some (.normal, (tm', G ++ L)) ∧ tm'.length = 123 ∧ tm'.getD 18 undefA = w ∧ CutRow G.length (G ++ L) w l' ∧ (∀ t ∈ [0, 1, 2, 3, 4, 11, 14, 17], tm'.getD t undefA = tm.getD t undefA) := by
  subst hX; exact reg56_17 hil hhl hb hl' hlen h3 h17
end Go.Dv
