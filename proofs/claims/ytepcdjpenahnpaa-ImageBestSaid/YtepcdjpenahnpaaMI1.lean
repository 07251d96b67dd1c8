/- Texts of the evaluator and of the laws' walks, put together in the order of their build: CfgI, N13, T90, P90, T91, T92, T93, T94 (own work). -/
import Derived.Test.YtepcdjpenahnpaaM2
import Derived.Test.YtepcdjpenahnpaaChecked
import Derived.KernelRfl
import Derived.Eval
import Derived.Shelf.Sort.Plain
import Derived.Shelf.Slices.In.SortNone
import Derived.Laws.Cells

/- What the evaluator asks of this translation's text; the calls whose answers are known, for the laws about pages: awake, and the library's sort by the kit's shelf (own work). -/
namespace Go.Proofs
open Go.Shelf
def Try.lays189_ren : Go.Shelf.Ren := ⟨fun | 189 => 62 | 125 => 86 | 257 => 85 | 128 => 97 | 129 => 98 | 294 => 88 | 295 => 89 | 296 => 90 | 297 => 91 | 298 => 92 | 299 => 93 | 216 => 94 | 300 => 95 | 301 => 96 | 328 => 99 | 329 => 100 | 330 => 101 | 331 => 102 | 332 => 103 | 215 => 104 | 343 => 105 | n => n, fun | 28 => 46 | 3 => 3 | 46 => 161 | 0 => 0 | 51 => 78 | 53 => 166 | 4 => 4 | 183 => 168 | 182 => 167 | 131 => 103 | 5 => 5 | 9 => 9 | 218 => 176 | 222 => 144 | 228 => 181 | 229 => 182 | n => n, fun | n => n⟩
theorem Try.lays189 : Go.Proofs.Lays.n189 Try.prog Try.lays189_ren := {
  mixed := by kernel_rfl
  f125 := Try.func86.trans (congrArg some (by kernel_rfl))
  f128 := Try.func97.trans (congrArg some (by kernel_rfl))
  f129 := Try.func98.trans (congrArg some (by kernel_rfl))
  f189 := Try.func62.trans (congrArg some (by kernel_rfl))
  f215 := Try.func104.trans (congrArg some (by kernel_rfl))
  f216 := Try.func94.trans (congrArg some (by kernel_rfl))
  f257 := Try.func85.trans (congrArg some (by kernel_rfl))
  f294 := Try.func88.trans (congrArg some (by kernel_rfl))
  f295 := Try.func89.trans (congrArg some (by kernel_rfl))
  f296 := Try.func90.trans (congrArg some (by kernel_rfl))
  f297 := Try.func91.trans (congrArg some (by kernel_rfl))
  f298 := Try.func92.trans (congrArg some (by kernel_rfl))
  f299 := Try.func93.trans (congrArg some (by kernel_rfl))
  f300 := Try.func95.trans (congrArg some (by kernel_rfl))
  f301 := Try.func96.trans (congrArg some (by kernel_rfl))
  f328 := Try.func99.trans (congrArg some (by kernel_rfl))
  f329 := Try.func100.trans (congrArg some (by kernel_rfl))
  f330 := Try.func101.trans (congrArg some (by kernel_rfl))
  f331 := Try.func102.trans (congrArg some (by kernel_rfl))
  f332 := Try.func103.trans (congrArg some (by kernel_rfl))
  f343 := Try.func105.trans (congrArg some (by kernel_rfl))
  t0 := Try.underlying0
  a0 := Try.isAgg0
  z0 := Try.sizeOf0
  v0 := Try.zeroValue0
  t3 := Try.underlying3
  a3 := Try.isAgg3
  z3 := Try.sizeOf3
  v3 := Try.zeroValue3
  t4 := Try.underlying4
  a4 := Try.isAgg4
  z4 := Try.sizeOf4
  v4 := Try.zeroValue4
  t5 := Try.underlying5
  a5 := Try.isAgg5
  z5 := Try.sizeOf5
  v5 := Try.zeroValue5
  t9 := Try.underlying9
  a9 := Try.isAgg9
  z9 := Try.sizeOf9
  v9 := Try.zeroValue9
  t28 := Try.underlying46
  a28 := Try.isAgg46
  z28 := Try.sizeOf46
  v28 := Try.zeroValue46
  t46 := Try.underlying161
  a46 := Try.isAgg161
  z46 := Try.sizeOf161
  v46 := Try.zeroValue161
  t51 := Try.underlying78
  a51 := Try.isAgg78
  z51 := Try.sizeOf78
  v51 := Try.zeroValue78
  t53 := Try.underlying166
  a53 := Try.isAgg166
  z53 := Try.sizeOf166
  v53 := Try.zeroValue166
  t131 := Try.underlying103
  a131 := Try.isAgg103
  z131 := Try.sizeOf103
  v131 := Try.zeroValue103
  t182 := Try.underlying167
  a182 := Try.isAgg167
  z182 := Try.sizeOf167
  v182 := Try.zeroValue167
  t183 := Try.underlying168
  a183 := Try.isAgg168
  z183 := Try.sizeOf168
  v183 := Try.zeroValue168
  t218 := Try.underlying176
  a218 := Try.isAgg176
  z218 := Try.sizeOf176
  v218 := Try.zeroValue176
  t222 := Try.underlying144
  a222 := Try.isAgg144
  z222 := Try.sizeOf144
  v222 := Try.zeroValue144
  t228 := Try.underlying181
  a228 := Try.isAgg181
  z228 := Try.sizeOf181
  v228 := Try.zeroValue181
  t229 := Try.underlying182
  a229 := Try.isAgg182
  z229 := Try.sizeOf182
  v229 := Try.zeroValue182 }
end Go.Proofs
namespace Go.Dv
open Go.Proofs
theorem names_ok : Try.prog.funcs.toList.all (fun g => !(g.name == "runtime.NumGoroutine")) = true := by kernel_rfl
theorem name_ok (f : Nat) (g : Func) (h : Try.prog.funcs[f]? = some g) : (g.name == "runtime.NumGoroutine") = false := by
  have := List.all_eq_true.1 names_ok g (by
    have h' : Try.prog.funcs.toList[f]? = some g := by simpa using h
    exact List.mem_of_getElem? h')
  simpa using this
/-- a configuration with known calls -/
noncomputable def known (o : CallF) (h : ∀ w0 Pr, CallOk Try.prog w0 Pr o) : Cfg Try.prog := { orc := o, orcOk := h, meth := fun _ _ => none, methOk := (by intro t n f h; cases h), name := name_ok, mixed := Try.checked.mixed }
/-- no call is known -/
noncomputable def K0 : Cfg Try.prog := known (fun _ _ _ => none) (by intro _ _ _ _ _ _ _ h; cases h)
theorem awake_runs : [26].all (saysTrue Try.prog K0 60) = true := by kernel_rfl

/-! the library's sort -/
def intsOf : List AV → Option (List Int)
  | [] => some []
  | .int .i64 n :: l => (intsOf l).map (n :: ·)
  | _ => none
theorem intsOf_spec : ∀ (cs : List AV) (zs : List Int), intsOf cs = some zs → cs = zs.map fun n => AV.int .i64 n
  | [], zs, h => by simp only [intsOf, Option.some.injEq] at h; subst h; rfl
  | x :: cs, zs, h => by
    unfold intsOf at h
    split at h
    · rename_i e; cases e
    · rename_i e
      cases e
      simp only [Option.map_eq_some_iff] at h
      obtain ⟨ys, hy, rfl⟩ := h
      rw [intsOf_spec _ ys hy]; rfl
    · cases h
theorem intsOf_map : ∀ (zs : List Int), intsOf (zs.map fun n => AV.int .i64 n) = some zs
  | [] => rfl
  | z :: zs => by rw [List.map_cons, intsOf, intsOf_map zs]; rfl
/-- a list of ints in order -/
def sorted (zs : List Int) : List Int := zs.mergeSort fun x y => decide (x ≤ y)
def sortOrc : CallF := fun f args H => if f = 62 then match args with
    | [.nilSlice] => some (.tuple [], H)
    | [.slice i 0 1 n _ _] => match H[i]? with
      | some (.cells cs e) => if cs.length = n ∧ n ≠ 0 ∧ n < 2 ^ 62 then (intsOf cs).map fun zs => (.tuple [], H.set i (.cells ((sorted zs).map fun n => AV.int .i64 n) e)) else none
      | _ => none
    | _ => none
  else none
open Go.Sort Go.RowKit in
theorem sortOrc_ok (w0 : World) (Pr : Nat → Prop) : CallOk Try.prog w0 Pr sortOrc := by
  intro f args H v H' h φ w vs hW hr
  unfold sortOrc at h
  split at h
  · rename_i hf
    subst hf
    split at h
    · simp only [Option.some.injEq, Prod.mk.injEq] at h
      obtain ⟨rfl, rfl⟩ := h
      obtain ⟨u, us, e, ru, rus⟩ := hr
      rw [show us = [] from rus] at e
      rw [show u = .slice none 0 0 from ru] at e
      obtain rfl : vs = #[.slice none 0 0] := by cases vs; simp_all
      refine (Any.slices_Sort_int_none Try.lays189 none 0 w).mono fun e w' he => ?_
      obtain ⟨rfl, rfl⟩ := he
      exact ⟨φ, _, Env.le_refl φ, rfl, ⟨_, rfl, rfl⟩, hW⟩
    · rename_i i n cap ex
      split at h
      · rename_i cs e hi
        split at h
        · rename_i hc
          obtain ⟨hn, hn0, hn62⟩ := hc
          simp only [Option.map_eq_some_iff, Prod.mk.injEq] at h
          obtain ⟨zs, hz, rfl, rfl⟩ := h
          have hcs := intsOf_spec cs zs hz
          have hzl : zs.length = n := by rw [← hn, hcs, List.length_map]
          obtain ⟨u, us, e1, ru, rus⟩ := hr
          rw [show us = [] from rus] at e1
          obtain ⟨a, c, rfl, hle, hcap, hor⟩ := ru
          obtain ⟨b, o, z, hφ, rfl, hfit⟩ : ∃ b o z, φ i = some (b, o, z) ∧ a = ⟨b, o + 0, none⟩ ∧ o + 0 + c * 1 ≤ z := by
            rcases hor with h0 | h0
            · omega
            · exact h0
          obtain rfl : vs = #[.slice (some ⟨b, o + 0, none⟩) n c] := by cases vs; simp_all
          obtain ⟨b', o', z', cc, hφ', hheap, hz', hfits, hv⟩ := hW.obj i _ hi
          rw [hφ] at hφ'
          cases hφ'
          have hcell : ∀ (j : Nat) (x : Int), zs[j]? = some x → cc[o + j]? = some (.int .i64 x) := by
            intro j x hx
            obtain ⟨u, hu, ru⟩ := hv j (.int .i64 x) (by rw [hcs, List.getElem?_map, hx]; rfl)
            rw [hu, show u = .int .i64 x from ru]
          have hH : Holds (Value.int .i64) w b (o + 0) zs.toArray := by
            intro j hj
            have hj' : j < zs.length := by simpa using hj
            refine ⟨?_, by simp [World.frozen?, hheap]⟩
            rw [cellOf hheap, Nat.add_zero, hcell j zs[j] (List.getElem?_eq_getElem hj'), getElem!_pos _ j hj]
            simp
          have := Any.slices_Sort_int Try.lays189 b (o + 0) c zs w hH (hW.lt i _ hφ) (by omega)
          rw [hzl] at this
          refine this.mono fun e2 w' he => ?_
          obtain ⟨rfl, m, os, rfl⟩ := he
          refine ⟨φ, _, Env.le_refl φ, rfl, ⟨_, rfl, rfl⟩, ?_⟩
          have hp : (sorted zs).length = n := by rw [sorted, List.length_mergeSort, hzl]
          have hput : (putRow (Value.int .i64) (Sort.ahead w m) b (o + 0) (sorted zs).toArray).heap[b]? = some (.cells (putCells (Value.int .i64) (o + 0) (sorted zs).toArray cc) e (0, 0)) := by
            simp [putRow, mapBlock, Sort.ahead, Array.getElem?_modify, hheap, onCells]
          have hW1 : WR w0 Pr φ (H.set i (.cells ((sorted zs).map fun n => AV.int .i64 n) e)) (putRow (Value.int .i64) (Sort.ahead w m) b (o + 0) (sorted zs).toArray) := by
            refine hW.rewrite hi rfl rfl hφ (by simp [putRow, mapBlock, Sort.ahead]) rfl rfl rfl (fun d hd => ?_) ⟨b, o, z, _, hφ, hput, by simpa [putCells] using hz', by simp [hp]; simp [hn] at hfits; exact hfits, fun j y hj => ?_⟩
            · simp only [putRow, mapBlock, Sort.ahead, Array.getElem?_modify]
              rw [if_neg (fun e => hd e.symm)]
            · rw [List.getElem?_map] at hj
              simp only [Option.map_eq_some_iff] at hj
              obtain ⟨x, hx, rfl⟩ := hj
              have hjl := lt_of_get hx
              refine ⟨.int .i64 x, ?_, rfl⟩
              have hsz : o + j < cc.size := by simp [hn] at hfits; omega
              simp only [putCells, Array.getElem?_mapIdx, Array.getElem?_eq_getElem hsz, Option.map_some]
              rw [if_pos ⟨by omega, by simp; omega⟩, show o + j - (o + 0) = j by omega, getElem!_pos _ j (by simpa using hjl)]
              rw [List.getElem?_eq_getElem hjl] at hx
              simp [Option.some.inj hx]
          exact hW1.later (by simp [grow]) (fun k hk => by show ((putRow (Value.int .i64) (Sort.ahead w m) b (o + 0) (sorted zs).toArray).heap ++ os)[k]? = _; rw [Array.getElem?_append_left hk]) rfl rfl rfl
        · cases h
      · cases h
    · cases h
  · cases h

def orE (a b : CallF) : CallF := fun f args H => (a f args H).or (b f args H)
/-- awake's answer and the sort are known -/
noncomputable def C0 : Cfg Try.prog := known (orElse (trueOrc [26]) sortOrc) (fun w0 Pr => orElse_ok (trueOrc_ok awake_runs w0 Pr) (sortOrc_ok w0 Pr))
theorem orc0 {f : FuncId} (h : f ∉ [26, 62]) (args : List AV) (H : AH) : C0.orc f args H = none := by
  simp only [List.mem_cons, List.not_mem_nil, or_false, not_or] at h
  have e1 : trueOrc [26] f args H = none := by
    unfold trueOrc
    split
    · rw [if_neg (by simpa using h.1)]
    · rfl
  have e2 : sortOrc f args H = none := by unfold sortOrc; rw [if_neg h.2]
  show ((trueOrc [26] f args H).or (sortOrc f args H)) = none
  rw [e1, e2]; rfl
theorem awake_ev (H : AH) : Ev Try.prog C0 26 [] H = some (.bool true, H) := Ev_orc (by show ((trueOrc [26] 26 [] H).or (sortOrc 26 [] H)) = _; simp [trueOrc])
theorem sort_ev_nil (H : AH) : Ev Try.prog C0 62 [.nilSlice] H = some (.tuple [], H) := Ev_orc (by show ((trueOrc [26] 62 [.nilSlice] H).or (sortOrc 62 [.nilSlice] H)) = _; simp [trueOrc, sortOrc])
theorem sort_ev {H : AH} {i cap : Nat} {ex : Bool} {zs : List Int} (hi : H[i]? = some (.cells (zs.map fun n => AV.int .i64 n) 3)) (h0 : zs ≠ []) (hl : zs.length < 2 ^ 62) :
    Ev Try.prog C0 62 [.slice i 0 1 zs.length cap ex] H = some (.tuple [], H.set i (.cells ((sorted zs).map fun n => AV.int .i64 n) 3)) := Ev_orc (by
  show ((trueOrc [26] 62 [.slice i 0 1 zs.length cap ex] H).or (sortOrc 62 [.slice i 0 1 zs.length cap ex] H)) = _
  have e1 : trueOrc [26] 62 [.slice i 0 1 zs.length cap ex] H = none := rfl
  rw [e1, Option.none_or]
  simp only [sortOrc, if_true, hi, List.length_map, intsOf_map, Option.map_some]
  rw [if_pos ⟨trivial, by simpa using h0, hl⟩])
end Go.Dv

/- Names for the bodies and loops of functions of the translation, by their place in it (written by gen.py, own work). -/
namespace Go.Dv
open Go.Proofs
set_option maxRecDepth 100000
noncomputable def c28 : Code := Try.f28.body.getD .skip
theorem fe28 (args : List AV) (H : AH) : Ev Try.prog C0 28 args H = (EvC Try.prog C0 c28 (args ++ List.replicate (16 - args.length) undefA, H)).bind fun r => match r with | (.normal, s) => some ((s.1.getD 4 undefA), s.2) | (.ret, s) => some ((s.1.getD 4 undefA), s.2) | _ => none := Ev_eq Try.func28 rfl args H (orc0 (by decide) args H)
theorem fc28 (C : Cfg Try.prog) (slot : Option Nat) (tm : List AV) (H : AH) (o : Oper) (xs : Array Operand) (ats : Array TypeId) : callA Try.prog C slot (evalA tm) o ⟨.value (.func 28), xs, ats⟩ H = (evL (evalA tm) xs.toList).map fun vs => (.enter 28 vs, H) := callF (by rw [Try.func28]; rfl) slot _ H o xs ats rfl
noncomputable def b68_0 : Code := atPath [true, false, true, false, false] (Try.f68.body.getD .skip)
noncomputable def l68_0 : Code := Code.loop b68_0
theorem el68_0 (s : St) : EvC Try.prog C0 l68_0 s = (EvC Try.prog C0 b68_0 s).bind fun r => match r with | (.normal, s') => EvC Try.prog C0 l68_0 s' | r => some r := EvC_loop _ _
noncomputable def c68 : Code := Try.f68.body.getD .skip
theorem fe68 (args : List AV) (H : AH) : Ev Try.prog C0 68 args H = (EvC Try.prog C0 c68 (args ++ List.replicate (19 - args.length) undefA, H)).bind fun r => match r with | (.normal, s) => some ((s.1.getD 4 undefA), s.2) | (.ret, s) => some ((s.1.getD 4 undefA), s.2) | _ => none := Ev_eq Try.func68 rfl args H (orc0 (by decide) args H)
theorem fc68 (C : Cfg Try.prog) (slot : Option Nat) (tm : List AV) (H : AH) (o : Oper) (xs : Array Operand) (ats : Array TypeId) : callA Try.prog C slot (evalA tm) o ⟨.value (.func 68), xs, ats⟩ H = (evL (evalA tm) xs.toList).map fun vs => (.enter 68 vs, H) := callF (by rw [Try.func68]; rfl) slot _ H o xs ats rfl
noncomputable def c67 : Code := Try.f67.body.getD .skip
theorem fe67 (args : List AV) (H : AH) : Ev Try.prog C0 67 args H = (EvC Try.prog C0 c67 (args ++ List.replicate (8 - args.length) undefA, H)).bind fun r => match r with | (.normal, s) => some ((s.1.getD 2 undefA), s.2) | (.ret, s) => some ((s.1.getD 2 undefA), s.2) | _ => none := Ev_eq Try.func67 rfl args H (orc0 (by decide) args H)
theorem fc67 (C : Cfg Try.prog) (slot : Option Nat) (tm : List AV) (H : AH) (o : Oper) (xs : Array Operand) (ats : Array TypeId) : callA Try.prog C slot (evalA tm) o ⟨.value (.func 67), xs, ats⟩ H = (evL (evalA tm) xs.toList).map fun vs => (.enter 67 vs, H) := callF (by rw [Try.func67]; rfl) slot _ H o xs ats rfl
noncomputable def c69 : Code := Try.f69.body.getD .skip
noncomputable def d69_5 : Code := atPath [true, true, true, true, false] (Try.f69.body.getD .skip)
theorem ed69_5 (tm : List AV) (H : AH) : EvC Try.prog C0 d69_5 (tm, H) = (runPlan Try.prog C0 (Ev Try.prog C0) H.length (opsAt d69_5) (.take 0 (.take 1 (.take 3 (.take 4 (graft (.all [(2, (.all [(5, .done)])), (5, (.all [(2, .done)]))]) (.all [(6, (.take 7 .done))])))))) (tm, H ++ [.fresh, .fresh, .fresh, .fresh, .fresh, .fresh, .fresh, .fresh])).bind fun s' => some (.normal, s') := ev_drawA (by kernel_rfl) (by kernel_rfl) tm H
theorem fe69 (args : List AV) (H : AH) : Ev Try.prog C0 69 args H = (EvC Try.prog C0 c69 (args ++ List.replicate (33 - args.length) undefA, H)).bind fun r => match r with | (.normal, s) => some ((s.1.getD 6 undefA), s.2) | (.ret, s) => some ((s.1.getD 6 undefA), s.2) | _ => none := Ev_eq Try.func69 rfl args H (orc0 (by decide) args H)
theorem fc69 (C : Cfg Try.prog) (slot : Option Nat) (tm : List AV) (H : AH) (o : Oper) (xs : Array Operand) (ats : Array TypeId) : callA Try.prog C slot (evalA tm) o ⟨.value (.func 69), xs, ats⟩ H = (evL (evalA tm) xs.toList).map fun vs => (.enter 69 vs, H) := callF (by rw [Try.func69]; rfl) slot _ H o xs ats rfl
noncomputable def c66 : Code := Try.f66.body.getD .skip
theorem fe66 (args : List AV) (H : AH) : Ev Try.prog C0 66 args H = (EvC Try.prog C0 c66 (args ++ List.replicate (32 - args.length) undefA, H)).bind fun r => match r with | (.normal, s) => some ((.tuple [s.1.getD 6 undefA, s.1.getD 7 undefA]), s.2) | (.ret, s) => some ((.tuple [s.1.getD 6 undefA, s.1.getD 7 undefA]), s.2) | _ => none := Ev_eq Try.func66 rfl args H (orc0 (by decide) args H)
theorem fc66 (C : Cfg Try.prog) (slot : Option Nat) (tm : List AV) (H : AH) (o : Oper) (xs : Array Operand) (ats : Array TypeId) : callA Try.prog C slot (evalA tm) o ⟨.value (.func 66), xs, ats⟩ H = (evL (evalA tm) xs.toList).map fun vs => (.enter 66 vs, H) := callF (by rw [Try.func66]; rfl) slot _ H o xs ats rfl
noncomputable def b53_0 : Code := atPath [true, true, true, true, true, false, true, false, false] (Try.f53.body.getD .skip)
noncomputable def l53_0 : Code := Code.loop b53_0
theorem el53_0 (s : St) : EvC Try.prog C0 l53_0 s = (EvC Try.prog C0 b53_0 s).bind fun r => match r with | (.normal, s') => EvC Try.prog C0 l53_0 s' | r => some r := EvC_loop _ _
noncomputable def c53 : Code := Try.f53.body.getD .skip
theorem fe53 (args : List AV) (H : AH) : Ev Try.prog C0 53 args H = (EvC Try.prog C0 c53 (args ++ List.replicate (43 - args.length) undefA, H)).bind fun r => match r with | (.normal, s) => some ((.tuple [s.1.getD 4 undefA, s.1.getD 5 undefA, s.1.getD 6 undefA]), s.2) | (.ret, s) => some ((.tuple [s.1.getD 4 undefA, s.1.getD 5 undefA, s.1.getD 6 undefA]), s.2) | _ => none := Ev_eq Try.func53 rfl args H (orc0 (by decide) args H)
theorem fc53 (C : Cfg Try.prog) (slot : Option Nat) (tm : List AV) (H : AH) (o : Oper) (xs : Array Operand) (ats : Array TypeId) : callA Try.prog C slot (evalA tm) o ⟨.value (.func 53), xs, ats⟩ H = (evL (evalA tm) xs.toList).map fun vs => (.enter 53 vs, H) := callF (by rw [Try.func53]; rfl) slot _ H o xs ats rfl
noncomputable def c30 : Code := Try.f30.body.getD .skip
theorem fe30 (args : List AV) (H : AH) : Ev Try.prog C0 30 args H = (EvC Try.prog C0 c30 (args ++ List.replicate (18 - args.length) undefA, H)).bind fun r => match r with | (.normal, s) => some ((.tuple [s.1.getD 4 undefA, s.1.getD 5 undefA]), s.2) | (.ret, s) => some ((.tuple [s.1.getD 4 undefA, s.1.getD 5 undefA]), s.2) | _ => none := Ev_eq Try.func30 rfl args H (orc0 (by decide) args H)
theorem fc30 (C : Cfg Try.prog) (slot : Option Nat) (tm : List AV) (H : AH) (o : Oper) (xs : Array Operand) (ats : Array TypeId) : callA Try.prog C slot (evalA tm) o ⟨.value (.func 30), xs, ats⟩ H = (evL (evalA tm) xs.toList).map fun vs => (.enter 30 vs, H) := callF (by rw [Try.func30]; rfl) slot _ H o xs ats rfl
noncomputable def c40 : Code := Try.f40.body.getD .skip
theorem fe40 (args : List AV) (H : AH) : Ev Try.prog C0 40 args H = (EvC Try.prog C0 c40 (args ++ List.replicate (20 - args.length) undefA, H)).bind fun r => match r with | (.normal, s) => some ((.tuple [s.1.getD 4 undefA, s.1.getD 5 undefA]), s.2) | (.ret, s) => some ((.tuple [s.1.getD 4 undefA, s.1.getD 5 undefA]), s.2) | _ => none := Ev_eq Try.func40 rfl args H (orc0 (by decide) args H)
theorem fc40 (C : Cfg Try.prog) (slot : Option Nat) (tm : List AV) (H : AH) (o : Oper) (xs : Array Operand) (ats : Array TypeId) : callA Try.prog C slot (evalA tm) o ⟨.value (.func 40), xs, ats⟩ H = (evL (evalA tm) xs.toList).map fun vs => (.enter 40 vs, H) := callF (by rw [Try.func40]; rfl) slot _ H o xs ats rfl
noncomputable def b32_0 : Code := atPath [true, true, false, true, false, false] (Try.f32.body.getD .skip)
noncomputable def l32_0 : Code := Code.loop b32_0
theorem el32_0 (s : St) : EvC Try.prog C0 l32_0 s = (EvC Try.prog C0 b32_0 s).bind fun r => match r with | (.normal, s') => EvC Try.prog C0 l32_0 s' | r => some r := EvC_loop _ _
noncomputable def c32 : Code := Try.f32.body.getD .skip
noncomputable def d32_6 : Code := atPath [true, true, false, true, false, false, true, false, false, false] (Try.f32.body.getD .skip)
theorem ed32_6 (tm : List AV) (H : AH) : EvC Try.prog C0 d32_6 (tm, H) = (runPlan Try.prog C0 (Ev Try.prog C0) H.length (opsAt d32_6) (.take 0 (.take 1 (.take 2 (.take 4 (.take 5 (.take 6 (graft (.all [(3, (.all [(7, (.take 8 .done))])), (7, (.all [(3, (.take 8 .done))]))]) .done))))))) (tm, H)).bind fun s' => some (.normal, s') := ev_draw (by kernel_rfl) (by kernel_rfl) tm H
theorem fe32 (args : List AV) (H : AH) : Ev Try.prog C0 32 args H = (EvC Try.prog C0 c32 (args ++ List.replicate (26 - args.length) undefA, H)).bind fun r => match r with | (.normal, s) => some ((s.1.getD 4 undefA), s.2) | (.ret, s) => some ((s.1.getD 4 undefA), s.2) | _ => none := Ev_eq Try.func32 rfl args H (orc0 (by decide) args H)
theorem fc32 (C : Cfg Try.prog) (slot : Option Nat) (tm : List AV) (H : AH) (o : Oper) (xs : Array Operand) (ats : Array TypeId) : callA Try.prog C slot (evalA tm) o ⟨.value (.func 32), xs, ats⟩ H = (evL (evalA tm) xs.toList).map fun vs => (.enter 32 vs, H) := callF (by rw [Try.func32]; rfl) slot _ H o xs ats rfl
noncomputable def b41_0 : Code := atPath [true, true, true, false, true, false, false, true, false, false, true, false, true, false, false] (Try.f41.body.getD .skip)
noncomputable def l41_0 : Code := Code.loop b41_0
theorem el41_0 (s : St) : EvC Try.prog C0 l41_0 s = (EvC Try.prog C0 b41_0 s).bind fun r => match r with | (.normal, s') => EvC Try.prog C0 l41_0 s' | r => some r := EvC_loop _ _
noncomputable def b41_1 : Code := atPath [true, true, true, false, true, false, false] (Try.f41.body.getD .skip)
noncomputable def l41_1 : Code := Code.loop b41_1
theorem el41_1 (s : St) : EvC Try.prog C0 l41_1 s = (EvC Try.prog C0 b41_1 s).bind fun r => match r with | (.normal, s') => EvC Try.prog C0 l41_1 s' | r => some r := EvC_loop _ _
noncomputable def c41 : Code := Try.f41.body.getD .skip
noncomputable def d41_10 : Code := atPath [true, true, true, false, true, false, false, true, false, false, true, false, true, false, false, true, false, false, false] (Try.f41.body.getD .skip)
theorem ed41_10 (tm : List AV) (H : AH) : EvC Try.prog C0 d41_10 (tm, H) = (runPlan Try.prog C0 (Ev Try.prog C0) H.length (opsAt d41_10) (.take 0 (.take 1 (.take 2 (.take 4 (.take 5 (.take 6 (graft (.all [(3, (.all [(7, (.take 8 .done))])), (7, (.all [(3, (.take 8 .done))]))]) .done))))))) (tm, H)).bind fun s' => some (.normal, s') := ev_draw (by kernel_rfl) (by kernel_rfl) tm H
theorem fe41 (args : List AV) (H : AH) : Ev Try.prog C0 41 args H = (EvC Try.prog C0 c41 (args ++ List.replicate (61 - args.length) undefA, H)).bind fun r => match r with | (.normal, s) => some ((.tuple [s.1.getD 4 undefA, s.1.getD 5 undefA]), s.2) | (.ret, s) => some ((.tuple [s.1.getD 4 undefA, s.1.getD 5 undefA]), s.2) | _ => none := Ev_eq Try.func41 rfl args H (orc0 (by decide) args H)
theorem fc41 (C : Cfg Try.prog) (slot : Option Nat) (tm : List AV) (H : AH) (o : Oper) (xs : Array Operand) (ats : Array TypeId) : callA Try.prog C slot (evalA tm) o ⟨.value (.func 41), xs, ats⟩ H = (evL (evalA tm) xs.toList).map fun vs => (.enter 41 vs, H) := callF (by rw [Try.func41]; rfl) slot _ H o xs ats rfl
noncomputable def b42_0 : Code := atPath [true, true, false, true, false, false, true, false, false, true, false, false, false] (Try.f42.body.getD .skip)
noncomputable def l42_0 : Code := Code.loop b42_0
theorem el42_0 (s : St) : EvC Try.prog C0 l42_0 s = (EvC Try.prog C0 b42_0 s).bind fun r => match r with | (.normal, s') => EvC Try.prog C0 l42_0 s' | r => some r := EvC_loop _ _
noncomputable def b42_1 : Code := atPath [true, true, false, true, false, false] (Try.f42.body.getD .skip)
noncomputable def l42_1 : Code := Code.loop b42_1
theorem el42_1 (s : St) : EvC Try.prog C0 l42_1 s = (EvC Try.prog C0 b42_1 s).bind fun r => match r with | (.normal, s') => EvC Try.prog C0 l42_1 s' | r => some r := EvC_loop _ _
noncomputable def c42 : Code := Try.f42.body.getD .skip
noncomputable def d42_6 : Code := atPath [true, true, false, true, false, false, true, false, false, true, false, false, false, false, false] (Try.f42.body.getD .skip)
theorem ed42_6 (tm : List AV) (H : AH) : EvC Try.prog C0 d42_6 (tm, H) = (runPlan Try.prog C0 (Ev Try.prog C0) H.length (opsAt d42_6) (.take 0 (.take 1 (.take 2 (.take 3 (.take 4 (.take 5 (.take 6 (.take 8 (.take 9 (.take 10 (graft (.all [(7, (.all [(11, (.take 12 (.take 13 .done)))])), (11, (.all [(7, (.take 12 (.take 13 .done)))]))]) .done))))))))))) (tm, H)).bind fun s' => some (.normal, s') := ev_draw (by kernel_rfl) (by kernel_rfl) tm H
noncomputable def d42_8 : Code := atPath [true, true, false, true, false, false, true, false, false, true, true] (Try.f42.body.getD .skip)
theorem ed42_8 (tm : List AV) (H : AH) : EvC Try.prog C0 d42_8 (tm, H) = (runPlan Try.prog C0 (Ev Try.prog C0) H.length (opsAt d42_8) (.take 0 (.take 1 (.take 3 (.take 4 (.take 5 (.take 8 (.take 9 (graft (.all [(2, (.all [(6, (.all [(7, (.all [(10, (.all [(11, .done)]))])), (10, (.all [(7, (.all [(11, .done)]))]))])), (10, (.all [(6, (.all [(7, (.all [(11, .done)]))]))]))])), (6, (.all [(2, (.all [(7, (.all [(10, (.all [(11, .done)]))])), (10, (.all [(7, (.all [(11, .done)]))]))])), (7, (.all [(2, (.all [(10, (.all [(11, .done)]))])), (10, (.all [(2, (.all [(11, .done)])), (11, (.all [(2, .done)]))]))])), (10, (.all [(2, (.all [(7, (.all [(11, .done)]))])), (7, (.all [(2, (.all [(11, .done)])), (11, (.all [(2, .done)]))]))]))])), (10, (.all [(2, (.all [(6, (.all [(7, (.all [(11, .done)]))]))])), (6, (.all [(2, (.all [(7, (.all [(11, .done)]))])), (7, (.all [(2, (.all [(11, .done)])), (11, (.all [(2, .done)]))]))]))]))]) (.all [(12, (.take 13 .done))]))))))))) (tm, H ++ [.fresh, .fresh, .fresh, .fresh, .fresh, .fresh, .fresh, .fresh, .fresh, .fresh, .fresh, .fresh, .fresh, .fresh])).bind fun s' => some (.normal, s') := ev_drawA (by kernel_rfl) (by kernel_rfl) tm H
theorem fe42 (args : List AV) (H : AH) : Ev Try.prog C0 42 args H = (EvC Try.prog C0 c42 (args ++ List.replicate (44 - args.length) undefA, H)).bind fun r => match r with | (.normal, s) => some ((s.1.getD 2 undefA), s.2) | (.ret, s) => some ((s.1.getD 2 undefA), s.2) | _ => none := Ev_eq Try.func42 rfl args H (orc0 (by decide) args H)
theorem fc42 (C : Cfg Try.prog) (slot : Option Nat) (tm : List AV) (H : AH) (o : Oper) (xs : Array Operand) (ats : Array TypeId) : callA Try.prog C slot (evalA tm) o ⟨.value (.func 42), xs, ats⟩ H = (evL (evalA tm) xs.toList).map fun vs => (.enter 42 vs, H) := callF (by rw [Try.func42]; rfl) slot _ H o xs ats rfl
noncomputable def b43_0 : Code := atPath [true, false, true, false, false, true, false, false, true, false, true, false, false] (Try.f43.body.getD .skip)
noncomputable def l43_0 : Code := Code.loop b43_0
theorem el43_0 (s : St) : EvC Try.prog C0 l43_0 s = (EvC Try.prog C0 b43_0 s).bind fun r => match r with | (.normal, s') => EvC Try.prog C0 l43_0 s' | r => some r := EvC_loop _ _
noncomputable def b43_1 : Code := atPath [true, false, true, false, false] (Try.f43.body.getD .skip)
noncomputable def l43_1 : Code := Code.loop b43_1
theorem el43_1 (s : St) : EvC Try.prog C0 l43_1 s = (EvC Try.prog C0 b43_1 s).bind fun r => match r with | (.normal, s') => EvC Try.prog C0 l43_1 s' | r => some r := EvC_loop _ _
noncomputable def c43 : Code := Try.f43.body.getD .skip
noncomputable def d43_8 : Code := atPath [true, false, true, false, false, true, false, false, true, false, true, false, false, true, false, false] (Try.f43.body.getD .skip)
theorem ed43_8 (tm : List AV) (H : AH) : EvC Try.prog C0 d43_8 (tm, H) = (runPlan Try.prog C0 (Ev Try.prog C0) H.length (opsAt d43_8) (.take 0 (.take 1 (.take 2 (.take 3 (.take 4 (.take 6 (.take 7 (.take 8 (graft (.all [(5, (.all [(9, (.take 10 (.take 11 (.take 12 .done))))])), (9, (.all [(5, (.take 10 (.take 11 (.take 12 .done))))]))]) .done))))))))) (tm, H)).bind fun s' => some (.normal, s') := ev_draw (by kernel_rfl) (by kernel_rfl) tm H
theorem fe43 (args : List AV) (H : AH) : Ev Try.prog C0 43 args H = (EvC Try.prog C0 c43 (args ++ List.replicate (34 - args.length) undefA, H)).bind fun r => match r with | (.normal, s) => some ((s.1.getD 4 undefA), s.2) | (.ret, s) => some ((s.1.getD 4 undefA), s.2) | _ => none := Ev_eq Try.func43 rfl args H (orc0 (by decide) args H)
theorem fc43 (C : Cfg Try.prog) (slot : Option Nat) (tm : List AV) (H : AH) (o : Oper) (xs : Array Operand) (ats : Array TypeId) : callA Try.prog C slot (evalA tm) o ⟨.value (.func 43), xs, ats⟩ H = (evL (evalA tm) xs.toList).map fun vs => (.enter 43 vs, H) := callF (by rw [Try.func43]; rfl) slot _ H o xs ats rfl
noncomputable def c13 : Code := Try.f13.body.getD .skip
theorem fe13 (args : List AV) (H : AH) : Ev Try.prog C0 13 args H = (EvC Try.prog C0 c13 (args ++ List.replicate (75 - args.length) undefA, H)).bind fun r => match r with | (.normal, s) => some ((s.1.getD 4 undefA), s.2) | (.ret, s) => some ((s.1.getD 4 undefA), s.2) | _ => none := Ev_eq Try.func13 rfl args H (orc0 (by decide) args H)
theorem fc13 (C : Cfg Try.prog) (slot : Option Nat) (tm : List AV) (H : AH) (o : Oper) (xs : Array Operand) (ats : Array TypeId) : callA Try.prog C slot (evalA tm) o ⟨.value (.func 13), xs, ats⟩ H = (evL (evalA tm) xs.toList).map fun vs => (.enter 13 vs, H) := callF (by rw [Try.func13]; rfl) slot _ H o xs ats rfl
noncomputable def c14 : Code := Try.f14.body.getD .skip
theorem fe14 (args : List AV) (H : AH) : Ev Try.prog C0 14 args H = (EvC Try.prog C0 c14 (args ++ List.replicate (92 - args.length) undefA, H)).bind fun r => match r with | (.normal, s) => some ((s.1.getD 6 undefA), s.2) | (.ret, s) => some ((s.1.getD 6 undefA), s.2) | _ => none := Ev_eq Try.func14 rfl args H (orc0 (by decide) args H)
theorem fc14 (C : Cfg Try.prog) (slot : Option Nat) (tm : List AV) (H : AH) (o : Oper) (xs : Array Operand) (ats : Array TypeId) : callA Try.prog C slot (evalA tm) o ⟨.value (.func 14), xs, ats⟩ H = (evL (evalA tm) xs.toList).map fun vs => (.enter 14 vs, H) := callF (by rw [Try.func14]; rfl) slot _ H o xs ats rfl
noncomputable def b27_0 : Code := atPath [true, true, true, true, true, false, true, false, false] (Try.f27.body.getD .skip)
noncomputable def l27_0 : Code := Code.loop b27_0
theorem el27_0 (s : St) : EvC Try.prog C0 l27_0 s = (EvC Try.prog C0 b27_0 s).bind fun r => match r with | (.normal, s') => EvC Try.prog C0 l27_0 s' | r => some r := EvC_loop _ _
noncomputable def c27 : Code := Try.f27.body.getD .skip
theorem fe27 (args : List AV) (H : AH) : Ev Try.prog C0 27 args H = (EvC Try.prog C0 c27 (args ++ List.replicate (54 - args.length) undefA, H)).bind fun r => match r with | (.normal, s) => some ((.tuple [s.1.getD 4 undefA, s.1.getD 5 undefA]), s.2) | (.ret, s) => some ((.tuple [s.1.getD 4 undefA, s.1.getD 5 undefA]), s.2) | _ => none := Ev_eq Try.func27 rfl args H (orc0 (by decide) args H)
theorem fc27 (C : Cfg Try.prog) (slot : Option Nat) (tm : List AV) (H : AH) (o : Oper) (xs : Array Operand) (ats : Array TypeId) : callA Try.prog C slot (evalA tm) o ⟨.value (.func 27), xs, ats⟩ H = (evL (evalA tm) xs.toList).map fun vs => (.enter 27 vs, H) := callF (by rw [Try.func27]; rfl) slot _ H o xs ats rfl
noncomputable def b55_0 : Code := atPath [true, true, false, true, false, false] (Try.f55.body.getD .skip)
noncomputable def l55_0 : Code := Code.loop b55_0
theorem el55_0 (s : St) : EvC Try.prog C0 l55_0 s = (EvC Try.prog C0 b55_0 s).bind fun r => match r with | (.normal, s') => EvC Try.prog C0 l55_0 s' | r => some r := EvC_loop _ _
noncomputable def c55 : Code := Try.f55.body.getD .skip
theorem fe55 (args : List AV) (H : AH) : Ev Try.prog C0 55 args H = (EvC Try.prog C0 c55 (args ++ List.replicate (35 - args.length) undefA, H)).bind fun r => match r with | (.normal, s) => some ((s.1.getD 4 undefA), s.2) | (.ret, s) => some ((s.1.getD 4 undefA), s.2) | _ => none := Ev_eq Try.func55 rfl args H (orc0 (by decide) args H)
theorem fc55 (C : Cfg Try.prog) (slot : Option Nat) (tm : List AV) (H : AH) (o : Oper) (xs : Array Operand) (ats : Array TypeId) : callA Try.prog C slot (evalA tm) o ⟨.value (.func 55), xs, ats⟩ H = (evL (evalA tm) xs.toList).map fun vs => (.enter 55 vs, H) := callF (by rw [Try.func55]; rfl) slot _ H o xs ats rfl
noncomputable def c54 : Code := Try.f54.body.getD .skip
theorem fe54 (args : List AV) (H : AH) : Ev Try.prog C0 54 args H = (EvC Try.prog C0 c54 (args ++ List.replicate (9 - args.length) undefA, H)).bind fun r => match r with | (.normal, s) => some ((s.1.getD 4 undefA), s.2) | (.ret, s) => some ((s.1.getD 4 undefA), s.2) | _ => none := Ev_eq Try.func54 rfl args H (orc0 (by decide) args H)
theorem fc54 (C : Cfg Try.prog) (slot : Option Nat) (tm : List AV) (H : AH) (o : Oper) (xs : Array Operand) (ats : Array TypeId) : callA Try.prog C slot (evalA tm) o ⟨.value (.func 54), xs, ats⟩ H = (evL (evalA tm) xs.toList).map fun vs => (.enter 54 vs, H) := callF (by rw [Try.func54]; rfl) slot _ H o xs ats rfl
noncomputable def b31_0 : Code := atPath [true, true, false, true, false, false, true, false, false, true, false, true, false, false] (Try.f31.body.getD .skip)
noncomputable def l31_0 : Code := Code.loop b31_0
theorem el31_0 (s : St) : EvC Try.prog C0 l31_0 s = (EvC Try.prog C0 b31_0 s).bind fun r => match r with | (.normal, s') => EvC Try.prog C0 l31_0 s' | r => some r := EvC_loop _ _
noncomputable def b31_1 : Code := atPath [true, true, false, true, false, false] (Try.f31.body.getD .skip)
noncomputable def l31_1 : Code := Code.loop b31_1
theorem el31_1 (s : St) : EvC Try.prog C0 l31_1 s = (EvC Try.prog C0 b31_1 s).bind fun r => match r with | (.normal, s') => EvC Try.prog C0 l31_1 s' | r => some r := EvC_loop _ _
noncomputable def c31 : Code := Try.f31.body.getD .skip
noncomputable def d31_9 : Code := atPath [true, true, false, true, false, false, true, false, false, true, false, true, false, false, true, false, false] (Try.f31.body.getD .skip)
theorem ed31_9 (tm : List AV) (H : AH) : EvC Try.prog C0 d31_9 (tm, H) = (runPlan Try.prog C0 (Ev Try.prog C0) H.length (opsAt d31_9) (.take 0 (.take 1 (.take 2 (.take 3 (.take 4 (.take 6 (.take 7 (.take 8 (graft (.all [(5, (.all [(9, (.take 10 (.take 11 (.take 12 .done))))])), (9, (.all [(5, (.take 10 (.take 11 (.take 12 .done))))]))]) .done))))))))) (tm, H)).bind fun s' => some (.normal, s') := ev_draw (by kernel_rfl) (by kernel_rfl) tm H
theorem fe31 (args : List AV) (H : AH) : Ev Try.prog C0 31 args H = (EvC Try.prog C0 c31 (args ++ List.replicate (34 - args.length) undefA, H)).bind fun r => match r with | (.normal, s) => some ((s.1.getD 2 undefA), s.2) | (.ret, s) => some ((s.1.getD 2 undefA), s.2) | _ => none := Ev_eq Try.func31 rfl args H (orc0 (by decide) args H)
theorem fc31 (C : Cfg Try.prog) (slot : Option Nat) (tm : List AV) (H : AH) (o : Oper) (xs : Array Operand) (ats : Array TypeId) : callA Try.prog C slot (evalA tm) o ⟨.value (.func 31), xs, ats⟩ H = (evL (evalA tm) xs.toList).map fun vs => (.enter 31 vs, H) := callF (by rw [Try.func31]; rfl) slot _ H o xs ats rfl
noncomputable def c9 : Code := Try.f9.body.getD .skip
theorem fe9 (args : List AV) (H : AH) : Ev Try.prog C0 9 args H = (EvC Try.prog C0 c9 (args ++ List.replicate (69 - args.length) undefA, H)).bind fun r => match r with | (.normal, s) => some ((s.1.getD 4 undefA), s.2) | (.ret, s) => some ((s.1.getD 4 undefA), s.2) | _ => none := Ev_eq Try.func9 rfl args H (orc0 (by decide) args H)
theorem fc9 (C : Cfg Try.prog) (slot : Option Nat) (tm : List AV) (H : AH) (o : Oper) (xs : Array Operand) (ats : Array TypeId) : callA Try.prog C slot (evalA tm) o ⟨.value (.func 9), xs, ats⟩ H = (evL (evalA tm) xs.toList).map fun vs => (.enter 9 vs, H) := callF (by rw [Try.func9]; rfl) slot _ H o xs ats rfl
end Go.Dv

/- Slices of ints for the laws about pages: what is read, what is the call's own, appends, cuts (own work). -/
namespace Go.Dv
open Go.Proofs
set_option maxRecDepth 100000
set_option linter.unusedSimpArgs false
set_option linter.unusedVariables false
theorem boolOf_undef : boolOf undefA = none := rfl
theorem nb (b : Bool) : ((none : Option Bool) == some b) = false := by cases b <;> rfl
theorem ld3 (H : AH) (i k : Nat) : ldA Try.prog 3 H i k = (rdCells H i k 1).bind (·.head?) := by kernel_rfl
theorem st3 (H : AH) (i k : Nat) (kk : IntKind) (n : Int) : stA Try.prog 3 H i k (.int kk n) = wrCells H i k [.int kk n] := by kernel_rfl
theorem z3 : zeroA Try.prog 3 = some (I 0) := by kernel_rfl
theorem ia46 (i k es len cap : Nat) (ex : Bool) (kk : IntKind) (n : Int) : indexAddrA Try.prog 46 (.slice i k es len cap ex) (.int kk n) = if 0 ≤ n ∧ n < len ∧ 1 = es then some (.ptr i (k + n.toNat * es)) else none := by kernel_rfl
theorem ln46 (H : AH) (i k es len cap : Nat) (ex : Bool) : lenA Try.prog 46 H (.slice i k es len cap ex) = some (.int .i64 len) := by kernel_rfl
theorem ln46n (H : AH) : lenA Try.prog 46 H .nilSlice = some (.int .i64 0) := by kernel_rfl
theorem se46 : sliceElem Try.prog 46 = some 3 := by kernel_rfl
theorem by3 : Try.prog.bytesOf 3 = 8 := by kernel_rfl
theorem ce3 : Try.prog.cellsOf 3 = 1 := by kernel_rfl
theorem zs46 : zerosA Try.prog (some 46) = false := by kernel_rfl
theorem un46 : Try.prog.underlying 46 = some (.slice 3) := by kernel_rfl
theorem in3 : (Try.prog.info? 3).isSome = true := by kernel_rfl
theorem eqs46 (H : AH) (i k es len cap : Nat) (ex : Bool) : eqA Try.prog 46 H (.slice i k es len cap ex) .nilSlice = some false := by kernel_rfl
theorem eqn46 (H : AH) : eqA Try.prog 46 H .nilSlice .nilSlice = some true := by kernel_rfl

/-- The cells of a list of numbers. -/
def ii (xs : List Int) : List AV := xs.map fun n => I n
theorem ii_length (xs : List Int) : (ii xs).length = xs.length := by simp [ii]
theorem ii_append (xs ys : List Int) : ii (xs ++ ys) = ii xs ++ ii ys := by simp [ii]
theorem ii_drop (xs : List Int) (n : Nat) : (ii xs).drop n = ii (xs.drop n) := by simp [ii]
theorem ii_take (xs : List Int) (n : Nat) : (ii xs).take n = ii (xs.take n) := by simp [ii]
theorem ii_set (xs : List Int) (j : Nat) (x : Int) : (ii xs).set j (I x) = ii (xs.set j x) := by simp [ii, List.map_set]
theorem ii_one (xs : List Int) : (ii xs).all AV.one = true := by simp [ii, AV.one]
theorem ii_get {xs : List Int} {j : Nat} {x : Int} (h : xs[j]? = some x) : (ii xs)[j]? = some (I x) := by simp [ii, h]

/-- A slice that reads as a list of ints. -/
structure IntS (H : AH) (v : AV) (xs : List Int) : Prop where
  len : ∀ G, lenA Try.prog 46 G v = some (I xs.length)
  ix : ∀ (j : Nat) (x : Int), xs[j]? = some x → ∃ i k, indexAddrA Try.prog 46 v (I j) = some (.ptr i k) ∧ rdCells H i k 1 = some [I x]
theorem rd_same {H G : AH} (h : ∀ j, j < H.length → G[j]? = H[j]?) {i k n : Nat} {xs : List AV} (hr : rdCells H i k n = some xs) : rdCells G i k n = some xs := by
  have hi := rd_lt hr
  unfold rdCells at hr ⊢
  rw [h i hi]; exact hr
theorem IntS.same {H G : AH} {v : AV} {xs : List Int} (h : IntS H v xs) (hs : ∀ j, j < H.length → G[j]? = H[j]?) : IntS G v xs :=
  ⟨h.len, fun j x hx => by obtain ⟨i, k, h1, h2⟩ := h.ix j x hx; exact ⟨i, k, h1, rd_same hs h2⟩⟩

theorem rd_row {H : AH} {i : Nat} {cs : List AV} {e : TypeId} (h : H[i]? = some (.cells cs e)) {k n : Nat} (hk : k + n ≤ cs.length) : rdCells H i k n = some ((cs.drop k).take n) := by
  simp only [rdCells, h]; rw [if_pos hk]
theorem rd_at {H : AH} {b k : Nat} {xs : List Int} {x : Int} (h : H[b]? = some (.cells (ii xs) 3)) (hx : xs[k]? = some x) : rdCells H b k 1 = some [I x] := by
  have hl := lt_of_get hx
  rw [rd_row h (by rw [ii_length]; omega), ii_drop, List.drop_eq_getElem_cons hl]
  rw [List.getElem?_eq_getElem hl] at hx
  rw [Option.some.inj hx]; rfl
theorem rd_ints {H : AH} {b k n : Nat} {xs : List Int} (h : H[b]? = some (.cells (ii xs) 3)) (hk : k + n ≤ xs.length) : rdCells H b k n = some (ii ((xs.drop k).take n)) := by
  rw [rd_row h (by rw [ii_length]; omega), ii_drop, ii_take]
theorem wr_row {H : AH} {b k : Nat} {xs ys : List Int} (h : H[b]? = some (.cells (ii xs) 3)) (hk : k + ys.length ≤ xs.length) : wrCells H b k (ii ys) = some (H.set b (.cells (ii (xs.take k ++ ys ++ xs.drop (k + ys.length))) 3)) := by
  simp only [wrCells, h]
  rw [if_pos ⟨by rw [ii_length, ii_length]; exact hk, ii_one _⟩, spl_append _ _ _ (by rw [ii_length, ii_length]; exact hk), ii_take, ii_length, ii_drop, ← ii_append, ← ii_append]
theorem int_row {H : AH} {b c k n : Nat} {ex : Bool} {xs : List Int} (h : H[b]? = some (.cells (ii xs) 3)) (hk : k + n ≤ xs.length) : IntS H (.slice b k 1 n c ex) ((xs.drop k).take n) := by
  have hl : ((xs.drop k).take n).length = n := by rw [List.length_take, List.length_drop]; omega
  refine ⟨fun G => by rw [ln46, hl], fun j x hx => ⟨b, k + j, ?_, ?_⟩⟩
  · have := lt_of_get hx
    rw [ia46, if_pos ⟨by omega, by omega, rfl⟩]; simp
  · rw [List.getElem?_take] at hx
    split at hx
    · rw [List.getElem?_drop] at hx
      exact rd_at h hx
    · cases hx
theorem int_nil (H : AH) : IntS H .nilSlice [] := ⟨fun G => ln46n G, fun j x hx => by simp at hx⟩

/-! appends -/
theorem gr3 {n : Nat} (h : n < 2 ^ 40) : growOk 8 n = true := by
  simp only [growOk, Bool.and_eq_true, decide_eq_true_eq]; omega
theorem app_src {H : AH} {i k n c : Nat} {e : Bool} {ys : List Int} (hr : rdCells H i k n = some (ii ys)) : ∃ f, srcA H 1 (.slice i k 1 n c e) = some (n, f) ∧ f n = some (ii ys) := by
  refine ⟨_, rfl, ?_⟩
  simp only [Nat.le_refl, if_true, Nat.mul_one]; exact hr
/-- a full row grows: it goes to a new block -/
theorem app_grow {H : AH} {b k n i k' m c' : Nat} {e' : Bool} {xs ys : List Int} {cs : List AV} (hx : rdCells H i k' m = some (ii ys)) (hm : 0 < m) (hb : H[b]? = some (.cells cs 3)) (ho : rdCells H b k n = some (ii xs)) (hn : n + m < 2 ^ 40) :
    appendA Try.prog none 46 (some 46) (.slice b k 1 n n false) (.slice i k' 1 m c' e') H = some (.slice H.length 0 1 (n + m) (n + m) false, H.set b .dead ++ [.cells (ii (xs ++ ys)) 3]) := by
  obtain ⟨f, hf, hfn⟩ := app_src (c := c') (e := e') hx
  unfold appendA
  rw [if_neg (by rw [zs46]; simp), se46, Option.bind_some, z3, Option.bind_some, ce3, hf, Option.bind_some]
  simp only [hfn, Option.bind_some]
  rw [if_pos ⟨rfl, by simp [AV.cells]⟩, if_pos trivial, if_neg (by omega), if_neg (by omega), if_neg (by simp)]
  simp only [hb]
  rw [if_pos ⟨trivial, ii_one _, by rw [by3]; exact gr3 hn⟩, Nat.mul_one, ho, Option.bind_some, put_none, ← ii_append]
  simp
/-- an empty row with nothing behind it: a new block -/
theorem app_new {H : AH} {j i k' m c' : Nat} {e' : Bool} {ys : List Int} (hx : rdCells H i k' m = some (ii ys)) (hm : 0 < m) (hj : rdCells H j 0 0 = some []) (hn : m < 2 ^ 40) :
    appendA Try.prog none 46 (some 46) (.slice j 0 1 0 0 true) (.slice i k' 1 m c' e') H = some (.slice H.length 0 1 m m false, H ++ [.cells (ii ys) 3]) := by
  obtain ⟨f, hf, hfn⟩ := app_src (c := c') (e := e') hx
  unfold appendA
  rw [if_neg (by rw [zs46]; simp), se46, Option.bind_some, z3, Option.bind_some, ce3, hf, Option.bind_some]
  simp only [hfn, Option.bind_some]
  rw [if_pos ⟨rfl, by simp [AV.cells]⟩, if_pos trivial, if_neg (by omega), if_neg (by omega), if_pos trivial, Nat.zero_add, by3, if_pos (gr3 hn), Nat.zero_mul, hj, Option.bind_some, put_none]
  simp
/-- nothing to append -/
theorem app_none {H : AH} {slot : Option Nat} {b k n c i k' c' : Nat} {e e' : Bool} {cs : List AV} (hx : rdCells H i k' 0 = some cs) :
    appendA Try.prog slot 46 (some 46) (.slice b k 1 n c e) (.slice i k' 1 0 c' e') H = some (.slice b k 1 n c e, H) := by
  unfold appendA
  rw [if_neg (by rw [zs46]; simp), se46, Option.bind_some, z3, Option.bind_some, ce3]
  simp only [srcA, if_true, Option.bind_some, Nat.le_refl, Nat.zero_mul, hx]
  rw [if_pos ⟨rfl, by simp [AV.cells]⟩]
theorem app_nil {H : AH} {i k' m c' : Nat} {e' : Bool} {ys : List Int} (hx : rdCells H i k' m = some (ii ys)) (hm : 0 < m) (hn : m < 2 ^ 40) :
    appendA Try.prog none 46 (some 46) .nilSlice (.slice i k' 1 m c' e') H = some (.slice H.length 0 1 m m false, H ++ [.cells (ii ys) 3]) := by
  obtain ⟨f, hf, hfn⟩ := app_src (c := c') (e := e') hx
  unfold appendA
  rw [if_neg (by rw [zs46]; simp), se46, Option.bind_some, z3, Option.bind_some, ce3, hf, Option.bind_some]
  simp only [hfn, Option.bind_some]
  rw [if_pos ⟨rfl, by simp [AV.cells]⟩, if_neg (by omega), by3, if_pos (gr3 hn), put_none]
  simp
/-- in place -/
theorem app_in {H : AH} {slot : Option Nat} {b k n c i k' m c' : Nat} {e e' : Bool} {xs ys : List Int} (hx : rdCells H i k' m = some (ii ys)) (hm : 0 < m) (hb : H[b]? = some (.cells (ii xs) 3)) (hk : k + n + m ≤ xs.length) (hc : n + m ≤ c) :
    appendA Try.prog slot 46 (some 46) (.slice b k 1 n c e) (.slice i k' 1 m c' e') H = some (.slice b k 1 (n + m) c e, H.set b (.cells (ii (xs.take (k + n) ++ ys ++ xs.drop (k + n + m))) 3)) := by
  obtain ⟨f, hf, hfn⟩ := app_src (c := c') (e := e') hx
  have hl : ys.length = m := by have := rd_len hx; rwa [ii_length] at this
  unfold appendA
  rw [if_neg (by rw [zs46]; simp), se46, Option.bind_some, z3, Option.bind_some, ce3, hf, Option.bind_some]
  simp only [hfn, Option.bind_some]
  rw [if_pos ⟨rfl, by simp [AV.cells]⟩, if_pos trivial, if_neg (by omega), if_pos hc, if_pos (ii_one _), Nat.mul_one, wr_row hb (by omega), hl]
  simp

/-! small slices, cuts, clear -/
theorem bs46n (H : AH) : buildSliceA Try.prog none 46 0 [] H = some (.slice H.length 0 1 0 0 true, H ++ [.cells (ii []) 3]) := by
  simp only [buildSliceA, se46, z3, Option.bind_some, ce3]
  rw [if_pos ⟨by omega, by simp [AV.cells]⟩]
  simp [zrow, fillA, put_none, ii]
theorem bs46 (H : AH) (p : Int) : buildSliceA Try.prog none 46 1 [(0, I p)] H = some (.slice H.length 0 1 1 1 true, H ++ [.cells (ii [p]) 3]) := by
  simp only [buildSliceA, se46, z3, Option.bind_some, ce3]
  rw [if_pos ⟨by omega, by simp [AV.cells]⟩]
  have : fillA (fun i => some (i * 1, 1)) (zrow (I 0).cells (1 * 1)) [(0, I p)] = some [I p] := by rfl
  rw [this, Option.bind_some, put_none]; rfl
theorem sl46 (H : AH) (b k n c : Nat) (ex : Bool) (l h : Nat) (hl : l ≤ h) (hh : h ≤ c) : sliceA Try.prog 46 H (.slice b k 1 n c ex) (some (I l)) (some (I h)) none = some (.slice b (k + l) 1 (h - l) (c - l) ex) := by
  unfold sliceA
  rw [un46]
  simp only [boundA]
  rw [if_pos (by omega), if_pos (by omega)]
  simp only [Int.toNat_natCast, ce3]
  rw [if_pos ⟨hl, hh, trivial⟩]
  have := in3
  cases hi : Try.prog.info? 3 with
  | none => rw [hi] at this; cases this
  | some d => simp
theorem sl46h (H : AH) (b k n c : Nat) (ex : Bool) (h : Nat) (hh : h ≤ c) : sliceA Try.prog 46 H (.slice b k 1 n c ex) none (some (I h)) none = some (.slice b k 1 h c ex) := by
  unfold sliceA
  rw [un46]
  simp only [boundA]
  rw [if_pos (by omega)]
  simp only [Int.toNat_natCast, ce3]
  rw [if_pos ⟨by omega, hh, trivial⟩]
  have := in3
  cases hi : Try.prog.info? 3 with
  | none => rw [hi] at this; cases this
  | some d => simp
theorem sl46l (H : AH) (b k n c : Nat) (ex : Bool) (l : Nat) (hl : l ≤ n) (hn : n ≤ c) : sliceA Try.prog 46 H (.slice b k 1 n c ex) (some (I l)) none none = some (.slice b (k + l) 1 (n - l) (c - l) ex) := by
  unfold sliceA
  rw [un46]
  simp only [boundA]
  rw [if_pos (by omega)]
  simp only [Int.toNat_natCast, ce3]
  rw [if_pos ⟨hl, hn, trivial⟩]
  have := in3
  cases hi : Try.prog.info? 3 with
  | none => rw [hi] at this; cases this
  | some d => simp
theorem sl46m (H : AH) (b k n c : Nat) (ex : Bool) (l h m : Nat) (hl : l ≤ h) (hh : h ≤ m) (hm : m ≤ c) : sliceA Try.prog 46 H (.slice b k 1 n c ex) (some (I l)) (some (I h)) (some (I m)) = some (.slice b (k + l) 1 (h - l) (m - l) true) := by
  unfold sliceA
  rw [un46]
  simp only [boundA]
  rw [if_pos (by omega), if_pos (by omega), if_pos (by omega)]
  simp only [Int.toNat_natCast, ce3]
  rw [if_pos ⟨rfl, hl, hh, hm, trivial⟩]
  have := in3
  cases hi : Try.prog.info? 3 with
  | none => rw [hi] at this; cases this
  | some d => simp
/-- one cell is cleared -/
theorem clr46 {H : AH} {b k c : Nat} {ex : Bool} {xs : List Int} (h : H[b]? = some (.cells (ii xs) 3)) (hk : k < xs.length) : clearA Try.prog 46 (.slice b k 1 1 c ex) H = some (H.set b (.cells (ii (xs.set k 0)) 3)) := by
  simp only [clearA, se46, z3, Option.bind_some]
  rw [if_pos ⟨rfl, rfl, by simp [AV.cells]⟩, if_neg (by omega)]
  have e : zrow (I 0).cells (1 * 1) = ii [0] := by rfl
  rw [e, wr_row h (by simp; omega)]
  congr 3
  rw [List.set_eq_take_append_cons_drop, if_pos hk]
  simp

/-! a row of the call's own that ends where its block ends -/
abbrev ov (b n : Nat) : AV := .slice b 0 1 n n false
def hV (h : List Int) (b : Nat) : AV := if h = [] then .nilSlice else ov b h.length
theorem hV_nil (b : Nat) : hV [] b = .nilSlice := rfl
theorem hV_cons {h : List Int} (hh : h ≠ []) (b : Nat) : hV h b = ov b h.length := if_neg hh
/-- its block is numbered b0 or more -/
structure HS (b0 : Nat) (G : AH) (h : List Int) (b : Nat) : Prop where
  ge : h ≠ [] → b0 ≤ b
  at' : h ≠ [] → G[b]? = some (.cells (ii h) 3)
theorem HS.nil (b0 : Nat) (G : AH) (b : Nat) : HS b0 G [] b := ⟨fun h => absurd rfl h, fun h => absurd rfl h⟩
theorem HS.ints {b0 : Nat} {G : AH} {h : List Int} {b : Nat} (hs : HS b0 G h b) : IntS G (hV h b) h := by
  by_cases hh : h = []
  · subst hh; exact int_nil G
  · rw [hV_cons hh]
    have := int_row (c := h.length) (ex := false) (k := 0) (n := h.length) (hs.at' hh) (by omega)
    rwa [List.drop_zero, List.take_of_length_le (Nat.le_refl _)] at this
theorem HS.keep {b0 : Nat} {G G' : AH} {h : List Int} {b : Nat} (hs : HS b0 G h b) (hk : ∀ j, j < G.length → G'[j]? = G[j]?) : HS b0 G' h b :=
  ⟨hs.ge, fun hh => (hk b (lt_of_get (hs.at' hh))).trans (hs.at' hh)⟩
theorem HS.mono {b0 b1 : Nat} {G : AH} {h : List Int} {b : Nat} (hs : HS b0 G h b) (hb : b1 ≤ b0) : HS b1 G h b := ⟨fun hh => Nat.le_trans hb (hs.ge hh), hs.at'⟩
end Go.Dv

/- Plain laws about pages in frames: the page that was not needed for the longest time is replaced (own work). -/
namespace Go.Dv
set_option linter.unusedVariables false

/-- a page is needed -/
def useS (f : Nat) (h : List Int) (p : Int) : List Int × Bool :=
  if p ∈ h then (h.erase p ++ [p], false) else ((if h.length = f then h.drop 1 else h) ++ [p], true)
/-- the pages of a trace are needed: the pages held, and the number of faults -/
def runS (f : Nat) : List Int → List Int → Nat → List Int × Nat
  | [], h, n => (h, n)
  | p :: t, h, n => runS f t (useS f h p).1 (if (useS f h p).2 then n + 1 else n)

theorem use_in {f : Nat} {h : List Int} {p : Int} (hp : p ∈ h) : useS f h p = (h.erase p ++ [p], false) := if_pos hp
theorem use_out {f : Nat} {h : List Int} {p : Int} (hp : p ∉ h) : useS f h p = ((if h.length = f then h.drop 1 else h) ++ [p], true) := if_neg hp
theorem use_len {f : Nat} (hf : 0 < f) {h : List Int} (hh : h.length ≤ f) (p : Int) : (useS f h p).1.length ≤ f := by
  by_cases hp : p ∈ h
  · rw [use_in hp]
    have := List.length_pos_of_mem hp
    simp only [List.length_append, List.length_erase_of_mem hp, List.length_cons, List.length_nil]; omega
  · rw [use_out hp]
    split
    · simp only [List.length_append, List.length_drop, List.length_cons, List.length_nil]; omega
    · simp only [List.length_append, List.length_cons, List.length_nil]; omega
theorem run_len {f : Nat} (hf : 0 < f) : ∀ (t h : List Int) (n : Nat), h.length ≤ f → (runS f t h n).1.length ≤ f
  | [], _, _, hh => hh
  | p :: t, h, n, hh => run_len hf t _ _ (use_len hf hh p)
theorem run_faults {f : Nat} : ∀ (t h : List Int) (n : Nat), (runS f t h n).2 ≤ n + t.length
  | [], _, _ => Nat.le_refl _
  | p :: t, h, n => by
    have := run_faults (f := f) t (useS f h p).1 (if (useS f h p).2 then n + 1 else n)
    show (runS f t _ _).2 ≤ _
    refine Nat.le_trans this ?_
    simp only [List.length_cons]
    split <;> omega
theorem run_add {f : Nat} : ∀ (t h : List Int) (n : Nat), (runS f t h n).2 = n + (runS f t h 0).2 ∧ (runS f t h n).1 = (runS f t h 0).1
  | [], _, _ => ⟨rfl, rfl⟩
  | p :: t, h, n => by
    have a := run_add (f := f) t (useS f h p).1 (if (useS f h p).2 then n + 1 else n)
    have b := run_add (f := f) t (useS f h p).1 (if (useS f h p).2 then 0 + 1 else 0)
    simp only [runS]
    rw [a.1, a.2, b.1, b.2]
    refine ⟨?_, rfl⟩
    split <;> omega

/-- the reference's step -/
def refS (f : Nat) (h : List Int) (p : Int) : List Int × Bool :=
  if (h.filter (fun x => x != p)).length = h.length then ((if h.length = f then (h.filter (fun x => x != p)).drop 1 else h.filter (fun x => x != p)) ++ [p], true) else (h.filter (fun x => x != p) ++ [p], false)
theorem filter_out {h : List Int} {p : Int} (hp : p ∉ h) : h.filter (fun x => x != p) = h := by
  rw [List.filter_eq_self]
  intro x hx
  simp only [bne_iff_ne, ne_eq]
  exact fun e => hp (e ▸ hx)
theorem filter_in : ∀ {h : List Int} {p : Int}, h.Nodup → p ∈ h → h.filter (fun x => x != p) = h.erase p
  | [], _, _, hp => by cases hp
  | x :: h, p, hn, hp => by
    rw [List.nodup_cons] at hn
    by_cases e : x = p
    · subst e
      rw [List.filter_cons, if_neg (by simp), filter_out hn.1, List.erase_cons_head]
    · rw [List.filter_cons, if_pos (by simpa using e), List.erase_cons_tail (by simpa using e), filter_in hn.2 ((List.mem_cons.1 hp).resolve_left fun h => e h.symm)]
theorem ref_use {f : Nat} {h : List Int} {p : Int} (hn : h.Nodup) : refS f h p = useS f h p := by
  by_cases hp : p ∈ h
  · rw [use_in hp, refS, filter_in hn hp, if_neg]
    rw [List.length_erase_of_mem hp]
    have := List.length_pos_of_mem hp
    omega
  · rw [use_out hp, refS, filter_out hp, if_pos rfl]
theorem use_nodup {f : Nat} {h : List Int} {p : Int} (hn : h.Nodup) : (useS f h p).1.Nodup := by
  by_cases hp : p ∈ h
  · rw [use_in hp]
    refine List.nodup_append.2 ⟨hn.erase p, by simp, ?_⟩
    intro a ha b hb e
    simp only [List.mem_cons, List.not_mem_nil, or_false] at hb
    subst hb; subst e
    exact (List.Nodup.mem_erase_iff hn).1 ha |>.1 rfl
  · rw [use_out hp]
    have hs : (if h.length = f then h.drop 1 else h).Sublist h := by
      split
      · exact List.drop_sublist _ _
      · exact List.Sublist.refl _
    refine List.nodup_append.2 ⟨hn.sublist hs, by simp, ?_⟩
    intro a ha b hb e
    simp only [List.mem_cons, List.not_mem_nil, or_false] at hb
    subst hb; subst e
    exact hp (hs.subset ha)

/-- the stack of all pages, that needed last at the end -/
def stackS (m : List Int) (p : Int) : List Int := m.erase p ++ [p]
def lastN (f : Nat) (m : List Int) : List Int := m.drop (m.length - f)
theorem lastN_split (f : Nat) (m : List Int) : m = m.take (m.length - f) ++ lastN f m := (List.take_append_drop _ _).symm
theorem lastN_len (f : Nat) (m : List Int) : (lastN f m).length = min f m.length := by rw [lastN, List.length_drop]; omega
theorem stack_nodup {m : List Int} {p : Int} (hn : m.Nodup) : (stackS m p).Nodup := by
  refine List.nodup_append.2 ⟨hn.erase p, by simp, ?_⟩
  intro a ha b hb e
  simp only [List.mem_cons, List.not_mem_nil, or_false] at hb
  subst hb; subst e
  exact (List.Nodup.mem_erase_iff hn).1 ha |>.1 rfl
theorem lastN_step {f : Nat} (hf : 0 < f) {m : List Int} (hn : m.Nodup) (p : Int) : (useS f (lastN f m) p).1 = lastN f (stackS m p) := by
  have hs := lastN_split f m
  have hl := lastN_len f m
  have hal : (m.take (m.length - f)).length = m.length - f := by rw [List.length_take]; omega
  generalize ha : m.take (m.length - f) = a at hs hal
  generalize hh : lastN f m = h at hs hl
  by_cases hp : p ∈ h
  · have hpa : p ∉ a := by
      intro hx
      rw [hs] at hn
      exact (List.nodup_append.1 hn).2.2 p hx p hp rfl
    rw [use_in hp]
    have e1 : m.erase p = a ++ h.erase p := by rw [hs, List.erase_append_right _ hpa]
    have e2 : (stackS m p).length = m.length := by
      rw [stackS, e1, hs]
      have := List.length_pos_of_mem hp
      simp only [List.length_append, List.length_erase_of_mem hp, List.length_cons, List.length_nil]; omega
    rw [lastN, e2, stackS, e1, List.append_assoc, ← hal, List.drop_append_of_le_length (Nat.le_refl _), List.drop_length, List.nil_append]
  · rw [use_out hp]
    by_cases hpa : p ∈ a
    · have hapos := List.length_pos_of_mem hpa
      have e1 : m.erase p = a.erase p ++ h := by rw [hs, List.erase_append_left _ hpa]
      have e2 : (stackS m p).length = m.length := by
        rw [stackS, e1, hs]
        simp only [List.length_append, List.length_erase_of_mem hpa, List.length_cons, List.length_nil]; omega
      have e3 : (a.erase p).length = a.length - 1 := List.length_erase_of_mem hpa
      rw [if_pos (by omega), lastN, e2, stackS, e1, List.append_assoc, List.drop_append, List.drop_of_length_le (l := a.erase p) (by omega), List.nil_append, show m.length - f - (a.erase p).length = 1 by omega, List.drop_append_of_le_length (by omega)]
    · have hpm : p ∉ m := by rw [hs, List.mem_append]; exact fun h => h.elim hpa hp
      have e1 : stackS m p = a ++ (h ++ [p]) := by rw [stackS, List.erase_of_not_mem hpm, hs, List.append_assoc]
      have e2 : (stackS m p).length = m.length + 1 := by rw [e1, hs]; simp only [List.length_append, List.length_cons, List.length_nil]; omega
      rw [lastN, e2, e1]
      split
      · rw [show m.length + 1 - f = a.length + 1 by omega, List.drop_append, List.drop_of_length_le (l := a) (by omega), List.nil_append, show a.length + 1 - a.length = 1 by omega, List.drop_append_of_le_length (by omega)]
      · have : a = [] := List.length_eq_zero_iff.1 (by omega)
        subst this
        rw [show m.length + 1 - f = 0 by omega]; rfl
theorem mem_lastN {f g : Nat} (h : f ≤ g) {m : List Int} {x : Int} (hx : x ∈ lastN f m) : x ∈ lastN g m := by
  have e : lastN f m = (lastN g m).drop (m.length - f - (m.length - g)) := by
    rw [lastN, lastN, List.drop_drop]; congr 1; omega
  rw [e] at hx
  exact List.mem_of_mem_drop hx
theorem use_fault (f : Nat) (h : List Int) (p : Int) : (useS f h p).2 = !decide (p ∈ h) := by
  by_cases hp : p ∈ h
  · rw [use_in hp]; simp [hp]
  · rw [use_out hp]; simp [hp]
/-- with more frames: at most as many faults, and all pages that are held with fewer -/
theorem frames_more {f g : Nat} (hf : 0 < f) (hfg : f ≤ g) : ∀ (t m : List Int) (a b : Nat), m.Nodup → b ≤ a →
    (runS g t (lastN g m) b).2 ≤ (runS f t (lastN f m) a).2 ∧ ∀ x, x ∈ (runS f t (lastN f m) a).1 → x ∈ (runS g t (lastN g m) b).1
  | [], m, a, b, _, hab => ⟨hab, fun x hx => mem_lastN hfg hx⟩
  | p :: t, m, a, b, hn, hab => by
    simp only [runS]
    rw [lastN_step hf hn, lastN_step (Nat.lt_of_lt_of_le hf hfg) hn]
    refine frames_more hf hfg t (stackS m p) _ _ (stack_nodup hn) ?_
    rw [use_fault, use_fault]
    by_cases h1 : p ∈ lastN f m
    · have h2 := mem_lastN hfg h1
      simp [h1, h2, hab]
    · by_cases h2 : p ∈ lastN g m
      · simp [h1, h2]; omega
      · simp [h1, h2, hab]

/-! rising -/
/-- where a number goes, looked for from the end -/
def risK (out : List Int) (x : Int) : Nat → Nat
  | 0 => 0
  | k + 1 => if out.getD k 0 > x then risK out x k else k + 1
def insR (out : List Int) (x : Int) : List Int := out.take (risK out x out.length) ++ x :: out.drop (risK out x out.length)
def risS (l out : List Int) : List Int := l.foldl insR out
theorem risK_le (out : List Int) (x : Int) : ∀ k, risK out x k ≤ k
  | 0 => Nat.le_refl _
  | k + 1 => by unfold risK; split <;> first | exact Nat.le_succ_of_le (risK_le out x k) | exact Nat.le_refl _
theorem risK_above (out : List Int) (x : Int) : ∀ k, k ≤ out.length → ∀ j, risK out x k ≤ j → j < k → x < out.getD j 0
  | 0, _, j, _, h => by omega
  | k + 1, hk, j, h, h' => by
    unfold risK at h
    split at h
    · rename_i hg
      rcases Nat.lt_or_ge j k with hj | hj
      · exact risK_above out x k (by omega) j h hj
      · obtain rfl : j = k := by omega
        exact hg
    · omega
theorem risK_below (out : List Int) (x : Int) : ∀ k, 0 < risK out x k → out.getD (risK out x k - 1) 0 ≤ x
  | 0, h => by simp [risK] at h
  | k + 1, h => by
    unfold risK at h ⊢
    split
    · rename_i hg
      rw [if_pos hg] at h
      exact risK_below out x k h
    · rename_i hg
      simp only [Nat.add_sub_cancel]; omega
theorem insR_perm (out : List Int) (x : Int) : (insR out x).Perm (x :: out) := by
  unfold insR
  refine List.perm_middle.trans ?_
  rw [List.take_append_drop]
theorem insR_sorted {out : List Int} (x : Int) (h : out.Pairwise (· ≤ ·)) : (insR out x).Pairwise (· ≤ ·) := by
  have hsp := List.take_append_drop (risK out x out.length) out
  have hle := risK_le out x out.length
  have hb := risK_below out x out.length
  have ha := risK_above out x out.length (Nat.le_refl _)
  unfold insR
  generalize risK out x out.length = k at *
  have h1 : ∀ y ∈ out.take k, y ≤ x := by
    intro y hy
    obtain ⟨i, hi, rfl⟩ := List.mem_iff_getElem.1 hy
    have hil : i < k := by rw [List.length_take] at hi; omega
    rw [List.getElem_take]
    have hk := hb (by omega)
    rw [List.getD_eq_getElem?_getD, List.getElem?_eq_getElem (by omega), Option.getD_some] at hk
    rcases Nat.lt_or_ge i (k - 1) with hlt | hge
    · exact Int.le_trans (List.pairwise_iff_getElem.1 h i (k - 1) (by omega) (by omega) hlt) hk
    · have : i = k - 1 := by omega
      subst this; exact hk
  have h2 : ∀ y ∈ out.drop k, x ≤ y := by
    intro y hy
    obtain ⟨i, hi, rfl⟩ := List.mem_iff_getElem.1 hy
    rw [List.length_drop] at hi
    rw [List.getElem_drop]
    have := ha (k + i) (by omega) (by omega)
    rw [List.getD_eq_getElem?_getD, List.getElem?_eq_getElem (by omega), Option.getD_some] at this
    omega
  rw [List.pairwise_append, List.pairwise_cons]
  refine ⟨h.sublist (List.take_sublist _ _), ⟨h2, h.sublist (List.drop_sublist _ _)⟩, ?_⟩
  intro a ha' b hb'
  rcases List.mem_cons.1 hb' with rfl | hb'
  · exact h1 a ha'
  · exact Int.le_trans (h1 a ha') (h2 b hb')
theorem risS_spec : ∀ (l out : List Int), out.Pairwise (· ≤ ·) → (risS l out).Pairwise (· ≤ ·) ∧ (risS l out).Perm (l ++ out)
  | [], out, h => ⟨h, List.Perm.refl _⟩
  | x :: l, out, h => by
    have ih := risS_spec l (insR out x) (insR_sorted x h)
    refine ⟨ih.1, ih.2.trans ?_⟩
    exact ((List.Perm.append_left l (insR_perm out x)).trans List.perm_middle)
theorem sorted_ext : ∀ {l m : List Int}, l.Pairwise (· ≤ ·) → m.Pairwise (· ≤ ·) → l.Perm m → l = m
  | [], m, _, _, h => by rw [List.nil_perm.1 h]
  | x :: l, [], _, _, h => by cases List.perm_nil.1 h
  | x :: l, y :: m, hl, hm, h => by
    rw [List.pairwise_cons] at hl hm
    have e : x = y := by
      rcases List.mem_cons.1 (h.subset (List.mem_cons_self ..)) with e | hx
      · exact e
      · rcases List.mem_cons.1 (h.symm.subset (List.mem_cons_self ..)) with e | hy
        · exact e.symm
        · exact Int.le_antisymm (hl.1 y hy) (hm.1 x hx)
    subst e
    rw [sorted_ext hl.2 hm.2 (List.perm_cons x |>.1 h)]
theorem merge_sorted (zs : List Int) : (zs.mergeSort fun x y => decide (x ≤ y)).Pairwise (· ≤ ·) := by
  have := List.pairwise_mergeSort (le := fun x y : Int => decide (x ≤ y)) (by intro a b c h1 h2; simp at *; omega) (by intro a b; simp; omega) zs
  exact this.imp fun h => by simpa using h
theorem rising_eq (zs : List Int) : risS zs [] = zs.mergeSort fun x y => decide (x ≤ y) := by
  obtain ⟨h1, h2⟩ := risS_spec zs [] List.Pairwise.nil
  rw [List.append_nil] at h2
  exact sorted_ext h1 (merge_sorted zs) (h2.trans (List.mergeSort_perm zs _).symm)
end Go.Dv

/- slices.Index, Clone, Delete of ints (printed by a program of mine, own work). -/
namespace Go.Dv
open Go.Proofs
set_option maxRecDepth 100000
set_option linter.unusedSimpArgs false
set_option linter.unusedVariables false
attribute [local congr] bind_congr_first


/-- where a number is first, or -1 -/
def idxI (xs : List Int) (p : Int) : Int := if p ∈ xs then (xs.idxOf p : Nat) else -1
theorem drop_at {xs : List Int} {j : Nat} {x : Int} (h : xs[j]? = some x) : xs.drop j = x :: xs.drop (j + 1) := by
  have hj := lt_of_get h
  rw [List.drop_eq_getElem_cons hj]
  rw [List.getElem?_eq_getElem hj] at h
  rw [Option.some.inj h]
theorem get_of {xs : List Int} {j : Nat} (h : j < xs.length) : ∃ x, xs[j]? = some x := ⟨_, List.getElem?_eq_getElem h⟩
theorem inc_i {j : Nat} (h : j < 2 ^ 60) : IntKind.i64.wrap ((j : Int) + 1) = ((j + 1 : Nat) : Int) := by rw [IntWalk.i64_in _ (by omega)]; omega

theorem idx_loop {H : AH} {v : AV} {xs : List Int} {p : Int} (hv : IntS H v xs) (hl : xs.length < 2 ^ 40) : ∀ (d j : Nat) (tm : List AV), xs.length - j = d → j ≤ xs.length →
    tm.length = 19 → tm.getD 0 undefA = v → tm.getD 1 undefA = I p → tm.getD 7 undefA = I xs.length → tm.getD 8 undefA = I j →
    ∃ e tm', EvC Try.prog C0 l68_0 (tm, H) = some (e, (tm', H)) ∧ tm'.length = 19 ∧ ((p ∉ xs.drop j ∧ e = .exit 0) ∨ (p ∈ xs.drop j ∧ e = .ret ∧ tm'.getD 4 undefA = I ((j + (xs.drop j).idxOf p : Nat) : Int))) := by
  intro d
  induction d with
  | zero =>
    intro j tm hd hj hlen h0 h1 h7 h8
    obtain rfl : j = xs.length := by omega
    have hlt : decide ((xs.length : Int) < (xs.length : Int)) = false := by simp
    rw [el68_0]
    simp -implicitDefEqProofs only [b68_0, atPath, Try.f68, Option.getD_some, hlen, h0, h1, h7, h8, hlt, ↓ld3, ↓st3, z3, boolOf_undef, nb, ↓aop_lookup, ↓aop_makeFunc, ↓aop_makeMap, ↓aop_mapUpdate, ↓aop_buildSlice, ↓aop_extract, ↓EvC_seq, ↓EvC_skip, ↓EvC_exit, ↓EvC_ret, ↓EvC_block, ↓EvC_cond, ↓ev_region, ↓runL_cons, ↓runL_nil, ↓stepO_none, ↓stepO_guard, ↓aop_move, ↓aop_assign, ↓aop_load, ↓aop_store, ↓aop_alloc, ↓aop_box, ↓aop_nilCheck, ↓aop_fieldAddr, ↓aop_field, ↓aop_indexAddr, ↓aop_binOp, ↓aop_pick, ↓aop_extract, ↓aop_buildSlice, ↓aop_slice, ↓aop_not, ↓aop_call, ↓callA_len, ↓callA_append, ev_tmp, ev_const, ofV_int, ofV_bool, ofV_str, ofV_nilSlice, ofV_nilPtr, putA_some, putA_none, gs_self, gs_ne, List.length_set, Option.bind_some, Option.map_some, intBinA, evL, evO, evP, ne_eq, not_false_eq_true, if_true, if_false, reduceCtorEq, ite_true, ite_false, reduceIte, put_app, AV.cells, and_true, true_and, and_self, decide_true, decide_false, ↓yielded_eq, yv_some, boolOf_bool, List.getElem?_toArray, List.getElem?_cons_zero, List.getElem?_cons_succ, Nat.reduceLT, Nat.reduceEqDiff, beq_self_eq_true, Option.some_beq_some, wr_app, wr_app0, rd_app, rd_app0, rdL_here, rdL_next, wrL_here, wrL_next, spl, List.all_cons, List.all_nil, AV.one, Bool.and_self, Bool.true_and, List.drop_zero, List.take_succ_cons, List.take_zero, List.drop_succ_cons, List.head?_cons, Nat.reduceAdd, Nat.reduceLeDiff, List.length_cons, List.length_nil, List.nil_append, List.cons_append, List.set_cons_zero, List.set_cons_succ, Int.toNat_natCast, Nat.add_zero, b_ft, b_tf, Bool.false_eq_true]
    refine ⟨_, _, rfl, by simp only [List.length_set, hlen], .inl ⟨?_, rfl⟩⟩
    rw [List.drop_length]; simp
  | succ d ih =>
    intro j tm hd hj hlen h0 h1 h7 h8
    obtain ⟨x, hx⟩ := get_of (xs := xs) (j := j) (by omega)
    obtain ⟨i1, k1, hi1, hr1⟩ := hv.ix j x hx
    have hlt : decide ((j : Int) < (xs.length : Int)) = true := by simp; omega
    have hw := inc_i (j := j) (by omega)
    have hdx := drop_at hx
    by_cases hne : p = x
    · have hd' : (p == x) = true := by simpa using hne
      rw [el68_0]
      simp -implicitDefEqProofs only [b68_0, atPath, Try.f68, Option.getD_some, hlen, h0, h1, h7, h8, hlt, hi1, hr1, hd', ↓ld3, ↓st3, z3, boolOf_undef, nb, ↓aop_lookup, ↓aop_makeFunc, ↓aop_makeMap, ↓aop_mapUpdate, ↓aop_buildSlice, ↓aop_extract, ↓EvC_seq, ↓EvC_skip, ↓EvC_exit, ↓EvC_ret, ↓EvC_block, ↓EvC_cond, ↓ev_region, ↓runL_cons, ↓runL_nil, ↓stepO_none, ↓stepO_guard, ↓aop_move, ↓aop_assign, ↓aop_load, ↓aop_store, ↓aop_alloc, ↓aop_box, ↓aop_nilCheck, ↓aop_fieldAddr, ↓aop_field, ↓aop_indexAddr, ↓aop_binOp, ↓aop_pick, ↓aop_extract, ↓aop_buildSlice, ↓aop_slice, ↓aop_not, ↓aop_call, ↓callA_len, ↓callA_append, ev_tmp, ev_const, ofV_int, ofV_bool, ofV_str, ofV_nilSlice, ofV_nilPtr, putA_some, putA_none, gs_self, gs_ne, List.length_set, Option.bind_some, Option.map_some, intBinA, evL, evO, evP, ne_eq, not_false_eq_true, if_true, if_false, reduceCtorEq, ite_true, ite_false, reduceIte, put_app, AV.cells, and_true, true_and, and_self, decide_true, decide_false, ↓yielded_eq, yv_some, boolOf_bool, List.getElem?_toArray, List.getElem?_cons_zero, List.getElem?_cons_succ, Nat.reduceLT, Nat.reduceEqDiff, beq_self_eq_true, Option.some_beq_some, wr_app, wr_app0, rd_app, rd_app0, rdL_here, rdL_next, wrL_here, wrL_next, spl, List.all_cons, List.all_nil, AV.one, Bool.and_self, Bool.true_and, List.drop_zero, List.take_succ_cons, List.take_zero, List.drop_succ_cons, List.head?_cons, Nat.reduceAdd, Nat.reduceLeDiff, List.length_cons, List.length_nil, List.nil_append, List.cons_append, List.set_cons_zero, List.set_cons_succ, Int.toNat_natCast, Nat.add_zero, b_ft, b_tf, Bool.false_eq_true]
      refine ⟨_, _, rfl, by simp only [List.length_set, hlen], .inr ⟨?_, rfl, ?_⟩⟩
      · rw [hdx, hne]; exact List.mem_cons_self ..
      · rw [hdx, hne, List.idxOf_cons_self, Nat.add_zero]
        simp only [hlen, gs_self, gs_ne, List.length_set, ne_eq, Nat.reduceEqDiff, Nat.reduceLT, not_false_eq_true]
    · have hd' : (p == x) = false := by simpa using hne
      have hd2 : (x == p) = false := by simpa using fun e : x = p => hne e.symm
      rw [el68_0]
      simp -implicitDefEqProofs only [b68_0, atPath, Try.f68, Option.getD_some, hlen, h0, h1, h7, h8, hlt, hw, hi1, hr1, hd', ↓ld3, ↓st3, z3, boolOf_undef, nb, ↓aop_lookup, ↓aop_makeFunc, ↓aop_makeMap, ↓aop_mapUpdate, ↓aop_buildSlice, ↓aop_extract, ↓EvC_seq, ↓EvC_skip, ↓EvC_exit, ↓EvC_ret, ↓EvC_block, ↓EvC_cond, ↓ev_region, ↓runL_cons, ↓runL_nil, ↓stepO_none, ↓stepO_guard, ↓aop_move, ↓aop_assign, ↓aop_load, ↓aop_store, ↓aop_alloc, ↓aop_box, ↓aop_nilCheck, ↓aop_fieldAddr, ↓aop_field, ↓aop_indexAddr, ↓aop_binOp, ↓aop_pick, ↓aop_extract, ↓aop_buildSlice, ↓aop_slice, ↓aop_not, ↓aop_call, ↓callA_len, ↓callA_append, ev_tmp, ev_const, ofV_int, ofV_bool, ofV_str, ofV_nilSlice, ofV_nilPtr, putA_some, putA_none, gs_self, gs_ne, List.length_set, Option.bind_some, Option.map_some, intBinA, evL, evO, evP, ne_eq, not_false_eq_true, if_true, if_false, reduceCtorEq, ite_true, ite_false, reduceIte, put_app, AV.cells, and_true, true_and, and_self, decide_true, decide_false, ↓yielded_eq, yv_some, boolOf_bool, List.getElem?_toArray, List.getElem?_cons_zero, List.getElem?_cons_succ, Nat.reduceLT, Nat.reduceEqDiff, beq_self_eq_true, Option.some_beq_some, wr_app, wr_app0, rd_app, rd_app0, rdL_here, rdL_next, wrL_here, wrL_next, spl, List.all_cons, List.all_nil, AV.one, Bool.and_self, Bool.true_and, List.drop_zero, List.take_succ_cons, List.take_zero, List.drop_succ_cons, List.head?_cons, Nat.reduceAdd, Nat.reduceLeDiff, List.length_cons, List.length_nil, List.nil_append, List.cons_append, List.set_cons_zero, List.set_cons_succ, Int.toNat_natCast, Nat.add_zero, b_ft, b_tf, Bool.false_eq_true]
      generalize hX : EvC Try.prog C0 _ _ = X
      have key : ∀ (tm1 : List AV), EvC Try.prog C0 l68_0 (tm1, H) = X → tm1.length = 19 → tm1.getD 0 undefA = v → tm1.getD 1 undefA = I p → tm1.getD 7 undefA = I xs.length → tm1.getD 8 undefA = I ((j + 1 : Nat) : Int) →
          ∃ e tm', X = some (e, (tm', H)) ∧ tm'.length = 19 ∧ ((p ∉ xs.drop j ∧ e = .exit 0) ∨ (p ∈ xs.drop j ∧ e = .ret ∧ tm'.getD 4 undefA = I ((j + (xs.drop j).idxOf p : Nat) : Int))) := by
        intro tm1 e1 q1 q2 q3 q4 q5
        obtain ⟨e, tm', he, hl', hc⟩ := ih (j + 1) tm1 (by omega) (by omega) q1 q2 q3 q4 q5
        refine ⟨e, tm', e1.symm.trans he, hl', ?_⟩
        rw [hdx, List.idxOf_cons, hd2, cond_false]
        rcases hc with ⟨c1, c2⟩ | ⟨c1, c2, c3⟩
        · exact .inl ⟨fun h => (List.mem_cons.1 h).elim hne c1, c2⟩
        · exact .inr ⟨List.mem_cons_of_mem _ c1, c2, by rw [c3]; congr 2; omega⟩
      exact key _ hX (by simp only [List.length_set, hlen]) (by simp only [hlen, h0, gs_self, gs_ne, List.length_set, ne_eq, Nat.reduceEqDiff, Nat.reduceLT, not_false_eq_true]) (by simp only [hlen, h1, gs_self, gs_ne, List.length_set, ne_eq, Nat.reduceEqDiff, Nat.reduceLT, not_false_eq_true]) (by simp only [hlen, h7, gs_self, gs_ne, List.length_set, ne_eq, Nat.reduceEqDiff, Nat.reduceLT, not_false_eq_true]) (by simp only [hlen, gs_self, gs_ne, List.length_set, ne_eq, Nat.reduceEqDiff, Nat.reduceLT, not_false_eq_true])
theorem idx_loop' {H : AH} {v : AV} {xs : List Int} {p : Int} {tm : List AV} {X : Option (AExit × St)} (hX : EvC Try.prog C0 l68_0 (tm, H) = X) (hv : IntS H v xs) (hl : xs.length < 2 ^ 40)
    (hlen : tm.length = 19) (h0 : tm.getD 0 undefA = v) (h1 : tm.getD 1 undefA = I p) (h7 : tm.getD 7 undefA = I xs.length) (h8 : tm.getD 8 undefA = I ((0 : Nat) : Int)) :
    ∃ e tm', X = some (e, (tm', H)) ∧ tm'.length = 19 ∧ ((p ∉ xs ∧ e = .exit 0) ∨ (p ∈ xs ∧ e = .ret ∧ tm'.getD 4 undefA = I (xs.idxOf p : Nat))) := by
  subst hX
  have := idx_loop hv hl xs.length 0 tm (by omega) (by omega) hlen h0 h1 h7 h8
  simpa using this
theorem idx_ev {H : AH} {v : AV} {xs : List Int} {p : Int} (hv : IntS H v xs) (hl : xs.length < 2 ^ 40) : Ev Try.prog C0 68 [v, I p] H = some (I (idxI xs p), H) := by
  have g0 : ([v, I p] ++ List.replicate (19 - [v, I p].length) undefA).length = 19 := by simp
  have g1 : ([v, I p] ++ List.replicate (19 - [v, I p].length) undefA).getD 0 undefA = v := rfl
  have g2 : ([v, I p] ++ List.replicate (19 - [v, I p].length) undefA).getD 1 undefA = I p := rfl
  rw [fe68]
  generalize [v, I p] ++ List.replicate (19 - [v, I p].length) undefA = tm at *
  have hla := hv.len
  simp -implicitDefEqProofs only [c68, Try.f68, Option.getD_some, g0, g1, g2, hla, ↓ld3, ↓st3, z3, boolOf_undef, nb, ↓aop_lookup, ↓aop_makeFunc, ↓aop_makeMap, ↓aop_mapUpdate, ↓aop_buildSlice, ↓aop_extract, ↓EvC_seq, ↓EvC_skip, ↓EvC_exit, ↓EvC_ret, ↓EvC_block, ↓EvC_cond, ↓ev_region, ↓runL_cons, ↓runL_nil, ↓stepO_none, ↓stepO_guard, ↓aop_move, ↓aop_assign, ↓aop_load, ↓aop_store, ↓aop_alloc, ↓aop_box, ↓aop_nilCheck, ↓aop_fieldAddr, ↓aop_field, ↓aop_indexAddr, ↓aop_binOp, ↓aop_pick, ↓aop_extract, ↓aop_buildSlice, ↓aop_slice, ↓aop_not, ↓aop_call, ↓callA_len, ↓callA_append, ev_tmp, ev_const, ofV_int, ofV_bool, ofV_str, ofV_nilSlice, ofV_nilPtr, putA_some, putA_none, gs_self, gs_ne, List.length_set, Option.bind_some, Option.map_some, intBinA, evL, evO, evP, ne_eq, not_false_eq_true, if_true, if_false, reduceCtorEq, ite_true, ite_false, reduceIte, put_app, AV.cells, and_true, true_and, and_self, decide_true, decide_false, ↓yielded_eq, yv_some, boolOf_bool, List.getElem?_toArray, List.getElem?_cons_zero, List.getElem?_cons_succ, Nat.reduceLT, Nat.reduceEqDiff, beq_self_eq_true, Option.some_beq_some, wr_app, wr_app0, rd_app, rd_app0, rdL_here, rdL_next, wrL_here, wrL_next, spl, List.all_cons, List.all_nil, AV.one, Bool.and_self, Bool.true_and, List.drop_zero, List.take_succ_cons, List.take_zero, List.drop_succ_cons, List.head?_cons, Nat.reduceAdd, Nat.reduceLeDiff, List.length_cons, List.length_nil, List.nil_append, List.cons_append, List.set_cons_zero, List.set_cons_succ, Int.toNat_natCast, Nat.add_zero, b_ft, b_tf, Bool.false_eq_true]
  generalize hX : EvC Try.prog C0 (Code.loop _) _ = X
  obtain ⟨e, tm', he, hl', hc⟩ := idx_loop' (p := p) hX hv hl (by simp only [List.length_set, g0]) (by simp only [g0, g1, gs_self, gs_ne, List.length_set, ne_eq, Nat.reduceEqDiff, Nat.reduceLT, not_false_eq_true]) (by simp only [g0, g2, gs_self, gs_ne, List.length_set, ne_eq, Nat.reduceEqDiff, Nat.reduceLT, not_false_eq_true]) (by simp only [g0, gs_self, gs_ne, List.length_set, ne_eq, Nat.reduceEqDiff, Nat.reduceLT, not_false_eq_true]) (by simp only [g0, gs_self, gs_ne, List.length_set, ne_eq, Nat.reduceEqDiff, Nat.reduceLT, not_false_eq_true]; rfl)
  subst he
  rcases hc with ⟨h, rfl⟩ | ⟨h, rfl, h4⟩
  · rw [show idxI xs p = -1 from if_neg h]
    simp -implicitDefEqProofs only [hl', ↓ld3, ↓st3, z3, boolOf_undef, nb, ↓aop_lookup, ↓aop_makeFunc, ↓aop_makeMap, ↓aop_mapUpdate, ↓aop_buildSlice, ↓aop_extract, ↓EvC_seq, ↓EvC_skip, ↓EvC_exit, ↓EvC_ret, ↓EvC_block, ↓EvC_cond, ↓ev_region, ↓runL_cons, ↓runL_nil, ↓stepO_none, ↓stepO_guard, ↓aop_move, ↓aop_assign, ↓aop_load, ↓aop_store, ↓aop_alloc, ↓aop_box, ↓aop_nilCheck, ↓aop_fieldAddr, ↓aop_field, ↓aop_indexAddr, ↓aop_binOp, ↓aop_pick, ↓aop_extract, ↓aop_buildSlice, ↓aop_slice, ↓aop_not, ↓aop_call, ↓callA_len, ↓callA_append, ev_tmp, ev_const, ofV_int, ofV_bool, ofV_str, ofV_nilSlice, ofV_nilPtr, putA_some, putA_none, gs_self, gs_ne, List.length_set, Option.bind_some, Option.map_some, intBinA, evL, evO, evP, ne_eq, not_false_eq_true, if_true, if_false, reduceCtorEq, ite_true, ite_false, reduceIte, put_app, AV.cells, and_true, true_and, and_self, decide_true, decide_false, ↓yielded_eq, yv_some, boolOf_bool, List.getElem?_toArray, List.getElem?_cons_zero, List.getElem?_cons_succ, Nat.reduceLT, Nat.reduceEqDiff, beq_self_eq_true, Option.some_beq_some, wr_app, wr_app0, rd_app, rd_app0, rdL_here, rdL_next, wrL_here, wrL_next, spl, List.all_cons, List.all_nil, AV.one, Bool.and_self, Bool.true_and, List.drop_zero, List.take_succ_cons, List.take_zero, List.drop_succ_cons, List.head?_cons, Nat.reduceAdd, Nat.reduceLeDiff, List.length_cons, List.length_nil, List.nil_append, List.cons_append, List.set_cons_zero, List.set_cons_succ, Int.toNat_natCast, Nat.add_zero, b_ft, b_tf, Bool.false_eq_true]
  · rw [show idxI xs p = (xs.idxOf p : Nat) from if_pos h]
    simp -implicitDefEqProofs only [hl', h4, ↓ld3, ↓st3, z3, boolOf_undef, nb, ↓aop_lookup, ↓aop_makeFunc, ↓aop_makeMap, ↓aop_mapUpdate, ↓aop_buildSlice, ↓aop_extract, ↓EvC_seq, ↓EvC_skip, ↓EvC_exit, ↓EvC_ret, ↓EvC_block, ↓EvC_cond, ↓ev_region, ↓runL_cons, ↓runL_nil, ↓stepO_none, ↓stepO_guard, ↓aop_move, ↓aop_assign, ↓aop_load, ↓aop_store, ↓aop_alloc, ↓aop_box, ↓aop_nilCheck, ↓aop_fieldAddr, ↓aop_field, ↓aop_indexAddr, ↓aop_binOp, ↓aop_pick, ↓aop_extract, ↓aop_buildSlice, ↓aop_slice, ↓aop_not, ↓aop_call, ↓callA_len, ↓callA_append, ev_tmp, ev_const, ofV_int, ofV_bool, ofV_str, ofV_nilSlice, ofV_nilPtr, putA_some, putA_none, gs_self, gs_ne, List.length_set, Option.bind_some, Option.map_some, intBinA, evL, evO, evP, ne_eq, not_false_eq_true, if_true, if_false, reduceCtorEq, ite_true, ite_false, reduceIte, put_app, AV.cells, and_true, true_and, and_self, decide_true, decide_false, ↓yielded_eq, yv_some, boolOf_bool, List.getElem?_toArray, List.getElem?_cons_zero, List.getElem?_cons_succ, Nat.reduceLT, Nat.reduceEqDiff, beq_self_eq_true, Option.some_beq_some, wr_app, wr_app0, rd_app, rd_app0, rdL_here, rdL_next, wrL_here, wrL_next, spl, List.all_cons, List.all_nil, AV.one, Bool.and_self, Bool.true_and, List.drop_zero, List.take_succ_cons, List.take_zero, List.drop_succ_cons, List.head?_cons, Nat.reduceAdd, Nat.reduceLeDiff, List.length_cons, List.length_nil, List.nil_append, List.cons_append, List.set_cons_zero, List.set_cons_succ, Int.toNat_natCast, Nat.add_zero, b_ft, b_tf, Bool.false_eq_true]

theorem clone_nil (H : AH) : Ev Try.prog C0 67 [.nilSlice] H = some (.nilSlice, H) := by
  have g0 : ([AV.nilSlice] ++ List.replicate (8 - [AV.nilSlice].length) undefA).length = 8 := by simp
  have g1 : ([AV.nilSlice] ++ List.replicate (8 - [AV.nilSlice].length) undefA).getD 0 undefA = AV.nilSlice := rfl
  rw [fe67]
  generalize [AV.nilSlice] ++ List.replicate (8 - [AV.nilSlice].length) undefA = tm at *
  have e1 := eqn46 H
  simp -implicitDefEqProofs only [c67, Try.f67, Option.getD_some, g0, g1, e1, ↓ld3, ↓st3, z3, boolOf_undef, nb, ↓aop_lookup, ↓aop_makeFunc, ↓aop_makeMap, ↓aop_mapUpdate, ↓aop_buildSlice, ↓aop_extract, ↓EvC_seq, ↓EvC_skip, ↓EvC_exit, ↓EvC_ret, ↓EvC_block, ↓EvC_cond, ↓ev_region, ↓runL_cons, ↓runL_nil, ↓stepO_none, ↓stepO_guard, ↓aop_move, ↓aop_assign, ↓aop_load, ↓aop_store, ↓aop_alloc, ↓aop_box, ↓aop_nilCheck, ↓aop_fieldAddr, ↓aop_field, ↓aop_indexAddr, ↓aop_binOp, ↓aop_pick, ↓aop_extract, ↓aop_buildSlice, ↓aop_slice, ↓aop_not, ↓aop_call, ↓callA_len, ↓callA_append, ev_tmp, ev_const, ofV_int, ofV_bool, ofV_str, ofV_nilSlice, ofV_nilPtr, putA_some, putA_none, gs_self, gs_ne, List.length_set, Option.bind_some, Option.map_some, intBinA, evL, evO, evP, ne_eq, not_false_eq_true, if_true, if_false, reduceCtorEq, ite_true, ite_false, reduceIte, put_app, AV.cells, and_true, true_and, and_self, decide_true, decide_false, ↓yielded_eq, yv_some, boolOf_bool, List.getElem?_toArray, List.getElem?_cons_zero, List.getElem?_cons_succ, Nat.reduceLT, Nat.reduceEqDiff, beq_self_eq_true, Option.some_beq_some, wr_app, wr_app0, rd_app, rd_app0, rdL_here, rdL_next, wrL_here, wrL_next, spl, List.all_cons, List.all_nil, AV.one, Bool.and_self, Bool.true_and, List.drop_zero, List.take_succ_cons, List.take_zero, List.drop_succ_cons, List.head?_cons, Nat.reduceAdd, Nat.reduceLeDiff, List.length_cons, List.length_nil, List.nil_append, List.cons_append, List.set_cons_zero, List.set_cons_succ, Int.toNat_natCast, Nat.add_zero, b_ft, b_tf, Bool.false_eq_true]
theorem clone_ev {G : AH} {b : Nat} {h : List Int} (hh : h ≠ []) (hb : G[b]? = some (.cells (ii h) 3)) (hl : h.length < 2 ^ 39) :
    Ev Try.prog C0 67 [ov b h.length] G = some (ov (G.length + 1) h.length, G ++ [.cells (ii []) 3] ++ [.cells (ii h) 3]) := by
  have g0 : ([ov b h.length] ++ List.replicate (8 - [ov b h.length].length) undefA).length = 8 := by simp
  have g1 : ([ov b h.length] ++ List.replicate (8 - [ov b h.length].length) undefA).getD 0 undefA = ov b h.length := rfl
  rw [fe67]
  generalize [ov b h.length] ++ List.replicate (8 - [ov b h.length].length) undefA = tm at *
  have e1 : eqA Try.prog 46 G (ov b h.length) .nilSlice = some false := eqs46 ..
  have e2 := bs46n G
  have hpos := List.length_pos_iff.2 hh
  have hb' : (G ++ [AObj.cells (ii []) 3])[b]? = some (.cells (ii h) 3) := by rw [List.getElem?_append_left (lt_of_get hb)]; exact hb
  have hr : rdCells (G ++ [AObj.cells (ii []) 3]) b 0 h.length = some (ii h) := by rw [rd_ints hb' (by omega), List.drop_zero, List.take_length]
  have e3 : appendA Try.prog none 46 (some 46) (.slice G.length 0 1 0 0 true) (ov b h.length) (G ++ [AObj.cells (ii []) 3]) = some (.slice (G ++ [AObj.cells (ii []) 3]).length 0 1 h.length h.length false, (G ++ [AObj.cells (ii []) 3]) ++ [.cells (ii h) 3]) := app_new hr hpos (by simp [rdCells, ii]) (by omega)
  have e4 : (G ++ [AObj.cells (ii []) 3]).length = G.length + 1 := by simp
  rw [e4] at e3
  simp -implicitDefEqProofs only [c67, Try.f67, Option.getD_some, g0, g1, e1, e2, e3, ↓ld3, ↓st3, z3, boolOf_undef, nb, ↓aop_lookup, ↓aop_makeFunc, ↓aop_makeMap, ↓aop_mapUpdate, ↓aop_buildSlice, ↓aop_extract, ↓EvC_seq, ↓EvC_skip, ↓EvC_exit, ↓EvC_ret, ↓EvC_block, ↓EvC_cond, ↓ev_region, ↓runL_cons, ↓runL_nil, ↓stepO_none, ↓stepO_guard, ↓aop_move, ↓aop_assign, ↓aop_load, ↓aop_store, ↓aop_alloc, ↓aop_box, ↓aop_nilCheck, ↓aop_fieldAddr, ↓aop_field, ↓aop_indexAddr, ↓aop_binOp, ↓aop_pick, ↓aop_extract, ↓aop_buildSlice, ↓aop_slice, ↓aop_not, ↓aop_call, ↓callA_len, ↓callA_append, ev_tmp, ev_const, ofV_int, ofV_bool, ofV_str, ofV_nilSlice, ofV_nilPtr, putA_some, putA_none, gs_self, gs_ne, List.length_set, Option.bind_some, Option.map_some, intBinA, evL, evO, evP, ne_eq, not_false_eq_true, if_true, if_false, reduceCtorEq, ite_true, ite_false, reduceIte, put_app, AV.cells, and_true, true_and, and_self, decide_true, decide_false, ↓yielded_eq, yv_some, boolOf_bool, List.getElem?_toArray, List.getElem?_cons_zero, List.getElem?_cons_succ, Nat.reduceLT, Nat.reduceEqDiff, beq_self_eq_true, Option.some_beq_some, wr_app, wr_app0, rd_app, rd_app0, rdL_here, rdL_next, wrL_here, wrL_next, spl, List.all_cons, List.all_nil, AV.one, Bool.and_self, Bool.true_and, List.drop_zero, List.take_succ_cons, List.take_zero, List.drop_succ_cons, List.head?_cons, Nat.reduceAdd, Nat.reduceLeDiff, List.length_cons, List.length_nil, List.nil_append, List.cons_append, List.set_cons_zero, List.set_cons_succ, Int.toNat_natCast, Nat.add_zero, b_ft, b_tf, Bool.false_eq_true]
end Go.Dv

/- slices.Delete of one int, in place (printed by a program of mine, own work). -/
namespace Go.Dv
open Go.Proofs
set_option maxRecDepth 100000
set_option linter.unusedSimpArgs false
set_option linter.unusedVariables false
attribute [local congr] bind_congr_first


theorem erase_split {h : List Int} {i : Nat} (hi : i < h.length) : h.eraseIdx i = h.take i ++ h.drop (i + 1) := List.eraseIdx_eq_take_drop_succ ..
theorem erase_len {h : List Int} {i : Nat} (hi : i < h.length) : (h.eraseIdx i).length = h.length - 1 := by rw [List.length_eraseIdx, if_pos hi]
/-- the numbers behind one go one place down -/
theorem down {h : List Int} {i : Nat} (hi : i + 1 < h.length) : h.take (0 + i) ++ h.drop (i + 1) ++ h.drop (0 + i + (h.length - (i + 1))) = h.eraseIdx i ++ h.drop (h.length - 1) := by
  rw [erase_split (by omega), Nat.zero_add, show i + (h.length - (i + 1)) = h.length - 1 by omega]
theorem down_end {h : List Int} {i : Nat} (hi : i < h.length) (he : i + 1 = h.length) : h = h.eraseIdx i ++ h.drop (h.length - 1) := by
  rw [erase_split hi, List.drop_of_length_le (l := h) (i := i + 1) (by omega), List.append_nil, show h.length - 1 = i by omega, List.take_append_drop]
theorem set_sameG {G : AH} {bo : Nat} {c : AObj} (h : G[bo]? = some c) : G.set bo c = G := by
  apply List.ext_getElem?
  intro j
  rw [List.getElem?_set]
  split
  · rename_i e; subst e
    rw [if_pos (lt_of_get h), h]
  · rfl
theorem del_app {G : AH} {b i : Nat} {h : List Int} (hb : G[b]? = some (.cells (ii h) 3)) (hi : i < h.length) (slot : Option Nat) (L : AH) :
    appendA Try.prog slot 46 (some 46) (.slice b 0 1 i h.length false) (.slice b (i + 1) 1 (h.length - (i + 1)) (h.length - (i + 1)) false) (G ++ L) = some (.slice b 0 1 (h.length - 1) h.length false, G.set b (.cells (ii (h.eraseIdx i ++ h.drop (h.length - 1))) 3) ++ L) := by
  have hbl := lt_of_get hb
  have hb' : (G ++ L)[b]? = some (.cells (ii h) 3) := by rw [List.getElem?_append_left hbl]; exact hb
  rcases Nat.lt_or_ge (i + 1) h.length with hlt | hge
  · have hr : rdCells (G ++ L) b (i + 1) (h.length - (i + 1)) = some (ii (h.drop (i + 1))) := by
      rw [rd_ints hb' (by omega), List.take_of_length_le (by simp)]
    rw [app_in hr (by omega) hb' (by omega) (by omega), down hlt, List.set_append_left _ _ hbl, show i + (h.length - (i + 1)) = h.length - 1 by omega]
  · have hr : rdCells (G ++ L) b (i + 1) 0 = some (ii ((h.drop (i + 1)).take 0)) := rd_ints hb' (by omega)
    rw [show h.length - (i + 1) = 0 by omega, app_none hr, ← down_end hi (by omega), set_sameG hb, show h.length - 1 = i by omega]
set_option maxHeartbeats 4000000 in
theorem reg69_5 {G : AH} {tm : List AV} {b i : Nat} {h : List Int} (hlen : tm.length = 33) (h0 : tm.getD 0 undefA = ov b h.length) (h1 : tm.getD 1 undefA = I i) (h2 : tm.getD 2 undefA = I ((i + 1 : Nat) : Int)) (hb : G[b]? = some (.cells (ii h) 3)) (hi : i < h.length) :
    ∃ tm' L, EvC Try.prog C0 d69_5 (tm, G) = some (.normal, (tm', G.set b (.cells (ii (h.eraseIdx i ++ h.drop (h.length - 1))) 3) ++ L)) ∧ tm'.length = 33 ∧ tm'.getD 0 undefA = .slice b 0 1 (h.length - 1) h.length false ∧ tm'.getD 7 undefA = tm.getD 7 undefA := by
  have e1 := del_app hb hi
  have e2 : ∀ H, sliceA Try.prog 46 H (ov b h.length) none (some (I i)) none = some (.slice b 0 1 i h.length false) := fun H => sl46h H b 0 h.length h.length false i (by omega)
  have e3 : ∀ H, sliceA Try.prog 46 H (ov b h.length) (some (I ((i + 1 : Nat) : Int))) none none = some (.slice b (i + 1) 1 (h.length - (i + 1)) (h.length - (i + 1)) false) := fun H => by
    have := sl46l H b 0 h.length h.length false (i + 1) (by omega) (by omega)
    rwa [Nat.zero_add] at this
  have dd := ed69_5
  simp only [d69_5, opsAt, atPath, Try.f69, Option.getD_some] at dd
  simp only [d69_5, opsAt, atPath, Try.f69, Option.getD_some]
  rw [dd]
  simp -implicitDefEqProofs only [hlen, h0, h1, h2, e1, e2, e3, Bool.not_true, Bool.not_false, Bool.true_and, Bool.and_true, Bool.false_and, Bool.and_false, Bool.true_or, Bool.or_true, Bool.false_or, Bool.or_false, cond_true, cond_false, boolOf_undef, nb, beq_self_eq_true, Bool.and_self, ↓ld3, ↓st3, z3, boolOf_undef, nb, ↓aop_lookup, ↓aop_makeFunc, ↓aop_makeMap, ↓aop_mapUpdate, ↓aop_buildSlice, ↓aop_extract, ↓EvC_seq, ↓EvC_skip, ↓EvC_exit, ↓EvC_ret, ↓EvC_block, ↓EvC_cond, ↓ev_region, ↓runL_cons, ↓runL_nil, ↓stepO_none, ↓stepO_guard, ↓aop_move, ↓aop_assign, ↓aop_load, ↓aop_store, ↓aop_alloc, ↓aop_box, ↓aop_nilCheck, ↓aop_fieldAddr, ↓aop_field, ↓aop_indexAddr, ↓aop_binOp, ↓aop_pick, ↓aop_extract, ↓aop_buildSlice, ↓aop_slice, ↓aop_not, ↓aop_call, ↓callA_len, ↓callA_append, ev_tmp, ev_const, ofV_int, ofV_bool, ofV_str, ofV_nilSlice, ofV_nilPtr, putA_some, putA_none, gs_self, gs_ne, List.length_set, Option.bind_some, Option.map_some, intBinA, evL, evO, evP, ne_eq, not_false_eq_true, if_true, if_false, reduceCtorEq, ite_true, ite_false, reduceIte, put_app, AV.cells, and_true, true_and, and_self, decide_true, decide_false, ↓yielded_eq, yv_some, boolOf_bool, List.getElem?_toArray, List.getElem?_cons_zero, List.getElem?_cons_succ, Nat.reduceLT, Nat.reduceEqDiff, beq_self_eq_true, Option.some_beq_some, wr_app, wr_app0, rd_app, rd_app0, rdL_here, rdL_next, wrL_here, wrL_next, spl, List.all_cons, List.all_nil, AV.one, Bool.and_self, Bool.true_and, List.drop_zero, List.take_succ_cons, List.take_zero, List.drop_succ_cons, List.head?_cons, Nat.reduceAdd, Nat.reduceLeDiff, List.length_cons, List.length_nil, List.nil_append, List.cons_append, List.set_cons_zero, List.set_cons_succ, Int.toNat_natCast, Nat.add_zero, b_ft, b_tf, Bool.false_eq_true, ↓rp_done, ↓rp_take, ↓rp_all, ↓ra_nil, ↓ra_first, ↓ra_next, ↓quietO_none, ↓quietO_guard, ↓q_move, ↓q_assign, ↓q_pick, ↓q_binOp, ↓q_field, ↓q_fieldAddr, ↓q_indexAddr, ↓q_nilCheck, set_order, keepV_eq, stBeq_self, ↓rp_graft, put_slot, put_slot_app, List.length_append, List.append_assoc, Nat.add_assoc, ↓aop_build, evP, Bool.true_and, Bool.and_true, Bool.false_and, Bool.and_false, Bool.true_or, Bool.or_true, Bool.false_or, Bool.or_false, Bool.not_true, Bool.not_false]
  refine ⟨_, _, rfl, by simp only [List.length_set, hlen], by simp only [hlen, gs_self, gs_ne, List.length_set, ne_eq, Nat.reduceEqDiff, Nat.reduceLT, not_false_eq_true], by simp only [hlen, gs_self, gs_ne, List.length_set, ne_eq, Nat.reduceEqDiff, Nat.reduceLT, not_false_eq_true]⟩
theorem reg69_5' {G : AH} {tm : List AV} {b i : Nat} {h : List Int} {X : Option (AExit × St)} (hX : EvC Try.prog C0 d69_5 (tm, G) = X) (hlen : tm.length = 33) (h0 : tm.getD 0 undefA = ov b h.length) (h1 : tm.getD 1 undefA = I i) (h2 : tm.getD 2 undefA = I ((i + 1 : Nat) : Int)) (hb : G[b]? = some (.cells (ii h) 3)) (hi : i < h.length) :
    ∃ tm' L, X = some (.normal, (tm', G.set b (.cells (ii (h.eraseIdx i ++ h.drop (h.length - 1))) 3) ++ L)) ∧ tm'.length = 33 ∧ tm'.getD 0 undefA = .slice b 0 1 (h.length - 1) h.length false ∧ tm'.getD 7 undefA = tm.getD 7 undefA := by
  subst hX; exact reg69_5 hlen h0 h1 h2 hb hi
theorem clr_last {h : List Int} {i : Nat} (hi : i < h.length) : (h.eraseIdx i ++ h.drop (h.length - 1)).set (h.length - 1) 0 = h.eraseIdx i ++ [0] := by
  have hl := erase_len hi
  rw [List.set_append_right _ _ (by omega), hl, Nat.sub_self]
  have : (h.drop (h.length - 1)).length = 1 := by rw [List.length_drop]; omega
  match hd : h.drop (h.length - 1), this with
  | [x], _ => rfl
theorem callA_clear {P : Program} {C : Cfg P} (slot : Option Nat) (ev : Operand → Option AV) (H : AH) (o : Oper) (x : Operand) (t : TypeId) : callA P C slot ev o ⟨.builtin .clear, #[x], #[t]⟩ H = (ev x).bind fun v => (clearA P t v H).map fun H' => (.val (.tuple []), H') := by
  unfold callA; simp only [evL]; cases ev x <;> rfl
/-- one number is deleted in place -/
theorem del_ev {G : AH} {b i : Nat} {h : List Int} (hb : G[b]? = some (.cells (ii h) 3)) (hi : i < h.length) (hl : h.length < 2 ^ 39) :
    ∃ L, Ev Try.prog C0 69 [ov b h.length, I i, I ((i + 1 : Nat) : Int)] G = some (.slice b 0 1 (h.length - 1) h.length false, G.set b (.cells (ii (h.eraseIdx i ++ [0])) 3) ++ L) := by
  have g0 : ([ov b h.length, I i, I ((i + 1 : Nat) : Int)] ++ List.replicate (33 - [ov b h.length, I i, I ((i + 1 : Nat) : Int)].length) undefA).length = 33 := by simp
  have g1 : ([ov b h.length, I i, I ((i + 1 : Nat) : Int)] ++ List.replicate (33 - [ov b h.length, I i, I ((i + 1 : Nat) : Int)].length) undefA).getD 0 undefA = ov b h.length := rfl
  have g2 : ([ov b h.length, I i, I ((i + 1 : Nat) : Int)] ++ List.replicate (33 - [ov b h.length, I i, I ((i + 1 : Nat) : Int)].length) undefA).getD 1 undefA = I i := rfl
  have g3 : ([ov b h.length, I i, I ((i + 1 : Nat) : Int)] ++ List.replicate (33 - [ov b h.length, I i, I ((i + 1 : Nat) : Int)].length) undefA).getD 2 undefA = I ((i + 1 : Nat) : Int) := rfl
  rw [fe69]
  generalize [ov b h.length, I i, I ((i + 1 : Nat) : Int)] ++ List.replicate (33 - [ov b h.length, I i, I ((i + 1 : Nat) : Int)].length) undefA = tm at *
  have e1 : ∀ H, lenA Try.prog 46 H (ov b h.length) = some (I h.length) := fun H => ln46 ..
  have e2 : ∀ H, sliceA Try.prog 46 H (ov b h.length) (some (I i)) (some (I ((i + 1 : Nat) : Int))) (some (I h.length)) = some (.slice b (0 + i) 1 (i + 1 - i) (h.length - i) true) := fun H => sl46m H b 0 h.length h.length false i (i + 1) h.length (by omega) (by omega) (by omega)
  have e3 : ((i : Int) == ((i + 1 : Nat) : Int)) = false := by simp; omega
  simp -implicitDefEqProofs only [c69, Try.f69, Option.getD_some, g0, g1, g2, g3, e1, e2, e3, ↓ld3, ↓st3, z3, boolOf_undef, nb, ↓aop_lookup, ↓aop_makeFunc, ↓aop_makeMap, ↓aop_mapUpdate, ↓aop_buildSlice, ↓aop_extract, ↓EvC_seq, ↓EvC_skip, ↓EvC_exit, ↓EvC_ret, ↓EvC_block, ↓EvC_cond, ↓ev_region, ↓runL_cons, ↓runL_nil, ↓stepO_none, ↓stepO_guard, ↓aop_move, ↓aop_assign, ↓aop_load, ↓aop_store, ↓aop_alloc, ↓aop_box, ↓aop_nilCheck, ↓aop_fieldAddr, ↓aop_field, ↓aop_indexAddr, ↓aop_binOp, ↓aop_pick, ↓aop_extract, ↓aop_buildSlice, ↓aop_slice, ↓aop_not, ↓aop_call, ↓callA_len, ↓callA_append, ev_tmp, ev_const, ofV_int, ofV_bool, ofV_str, ofV_nilSlice, ofV_nilPtr, putA_some, putA_none, gs_self, gs_ne, List.length_set, Option.bind_some, Option.map_some, intBinA, evL, evO, evP, ne_eq, not_false_eq_true, if_true, if_false, reduceCtorEq, ite_true, ite_false, reduceIte, put_app, AV.cells, and_true, true_and, and_self, decide_true, decide_false, ↓yielded_eq, yv_some, boolOf_bool, List.getElem?_toArray, List.getElem?_cons_zero, List.getElem?_cons_succ, Nat.reduceLT, Nat.reduceEqDiff, beq_self_eq_true, Option.some_beq_some, wr_app, wr_app0, rd_app, rd_app0, rdL_here, rdL_next, wrL_here, wrL_next, spl, List.all_cons, List.all_nil, AV.one, Bool.and_self, Bool.true_and, List.drop_zero, List.take_succ_cons, List.take_zero, List.drop_succ_cons, List.head?_cons, Nat.reduceAdd, Nat.reduceLeDiff, List.length_cons, List.length_nil, List.nil_append, List.cons_append, List.set_cons_zero, List.set_cons_succ, Int.toNat_natCast, Nat.add_zero, b_ft, b_tf, Bool.false_eq_true]
  generalize hX : EvC Try.prog C0 (Code.region 5 _ true) _ = X
  obtain ⟨tm', L, he, hl', t0, t7⟩ := reg69_5' hX (by simp only [List.length_set, g0]) (by simp only [g0, g1, gs_self, gs_ne, List.length_set, ne_eq, Nat.reduceEqDiff, Nat.reduceLT, not_false_eq_true]) (by simp only [g0, g2, gs_self, gs_ne, List.length_set, ne_eq, Nat.reduceEqDiff, Nat.reduceLT, not_false_eq_true]) (by simp only [g0, g3, gs_self, gs_ne, List.length_set, ne_eq, Nat.reduceEqDiff, Nat.reduceLT, not_false_eq_true]) hb hi
  subst he
  have t7' : tm'.getD 7 undefA = I h.length := by rw [t7]; simp only [g0, gs_self, gs_ne, List.length_set, ne_eq, Nat.reduceEqDiff, Nat.reduceLT, not_false_eq_true]
  have hbl := lt_of_get hb
  have f1 : ∀ H, lenA Try.prog 46 H (.slice b 0 1 (h.length - 1) h.length false) = some (I (h.length - 1 : Nat)) := fun H => ln46 ..
  have f2 : ∀ H, sliceA Try.prog 46 H (.slice b 0 1 (h.length - 1) h.length false) (some (I (h.length - 1 : Nat))) (some (I h.length)) none = some (.slice b (h.length - 1) 1 1 1 false) := fun H => by
    have := sl46 H b 0 (h.length - 1) h.length false (h.length - 1) h.length (by omega) (by omega)
    rwa [Nat.zero_add, show h.length - (h.length - 1) = 1 by omega] at this
  have f3 : clearA Try.prog 46 (.slice b (h.length - 1) 1 1 1 false) (G.set b (.cells (ii (h.eraseIdx i ++ h.drop (h.length - 1))) 3) ++ L) = some (G.set b (.cells (ii (h.eraseIdx i ++ [0])) 3) ++ L) := by
    have hg : (G.set b (.cells (ii (h.eraseIdx i ++ h.drop (h.length - 1))) 3) ++ L)[b]? = some (.cells (ii (h.eraseIdx i ++ h.drop (h.length - 1))) 3) := by
      rw [List.getElem?_append_left (by simpa using hbl), List.getElem?_set_self hbl]
    rw [clr46 hg (by rw [List.length_append, erase_len hi, List.length_drop]; omega), clr_last hi, List.set_append_left _ _ (by simpa using hbl), List.set_set]
  simp -implicitDefEqProofs only [hl', t0, t7', f1, f2, f3, ↓callA_clear, ↓ld3, ↓st3, z3, boolOf_undef, nb, ↓aop_lookup, ↓aop_makeFunc, ↓aop_makeMap, ↓aop_mapUpdate, ↓aop_buildSlice, ↓aop_extract, ↓EvC_seq, ↓EvC_skip, ↓EvC_exit, ↓EvC_ret, ↓EvC_block, ↓EvC_cond, ↓ev_region, ↓runL_cons, ↓runL_nil, ↓stepO_none, ↓stepO_guard, ↓aop_move, ↓aop_assign, ↓aop_load, ↓aop_store, ↓aop_alloc, ↓aop_box, ↓aop_nilCheck, ↓aop_fieldAddr, ↓aop_field, ↓aop_indexAddr, ↓aop_binOp, ↓aop_pick, ↓aop_extract, ↓aop_buildSlice, ↓aop_slice, ↓aop_not, ↓aop_call, ↓callA_len, ↓callA_append, ev_tmp, ev_const, ofV_int, ofV_bool, ofV_str, ofV_nilSlice, ofV_nilPtr, putA_some, putA_none, gs_self, gs_ne, List.length_set, Option.bind_some, Option.map_some, intBinA, evL, evO, evP, ne_eq, not_false_eq_true, if_true, if_false, reduceCtorEq, ite_true, ite_false, reduceIte, put_app, AV.cells, and_true, true_and, and_self, decide_true, decide_false, ↓yielded_eq, yv_some, boolOf_bool, List.getElem?_toArray, List.getElem?_cons_zero, List.getElem?_cons_succ, Nat.reduceLT, Nat.reduceEqDiff, beq_self_eq_true, Option.some_beq_some, wr_app, wr_app0, rd_app, rd_app0, rdL_here, rdL_next, wrL_here, wrL_next, spl, List.all_cons, List.all_nil, AV.one, Bool.and_self, Bool.true_and, List.drop_zero, List.take_succ_cons, List.take_zero, List.drop_succ_cons, List.head?_cons, Nat.reduceAdd, Nat.reduceLeDiff, List.length_cons, List.length_nil, List.nil_append, List.cons_append, List.set_cons_zero, List.set_cons_succ, Int.toNat_natCast, Nat.add_zero, b_ft, b_tf, Bool.false_eq_true]
  exact ⟨_, rfl⟩
end Go.Dv

/- image.use (imports P90's law by T93's import list) (printed by a program of mine, own work). -/
namespace Go.Dv
open Go.Proofs
set_option maxRecDepth 100000
set_option linter.unusedSimpArgs false
set_option linter.unusedVariables false
attribute [local congr] bind_congr_first


theorem erase_at {h : List Int} {p : Int} : h.eraseIdx (h.idxOf p) = h.erase p := (List.erase_eq_eraseIdx_of_idxOf rfl).symm
theorem keep_app {G : AH} (L : AH) : ∀ j, j < G.length → (G ++ L)[j]? = G[j]? := fun j hj => List.getElem?_append_left hj
theorem keep_set {G : AH} {b0 b : Nat} (hb : b0 ≤ b) (c : AObj) : ∀ j, j < b0 → (G.set b c)[j]? = G[j]? := fun j hj => List.getElem?_set_ne (by omega)

/-- What a call of use leaves. -/
def UseTo (b0 : Nat) (G : AH) (h' : List Int) (G' : AH) (b' : Nat) : Prop := HS b0 G' h' b' ∧ (∀ j, j < b0 → G'[j]? = G[j]?) ∧ G.length ≤ G'.length

theorem use_hit {b0 : Nat} {G : AH} {b f : Nat} {h : List Int} {p : Int} (hb0 : b0 ≤ G.length) (hs : HS b0 G h b) (hp : p ∈ h) (hl : h.length < 2 ^ 39) :
    ∃ G' b', Ev Try.prog C0 66 [hV h b, I p, I f] G = some (.tuple [hV (h.erase p ++ [p]) b', .bool false], G') ∧ UseTo b0 G (h.erase p ++ [p]) G' b' := by
  have hne : h ≠ [] := List.ne_nil_of_mem hp
  have hb := hs.at' hne
  have hi := List.idxOf_lt_length_of_mem hp
  have hbl := lt_of_get hb
  obtain ⟨L, hd⟩ := del_ev (i := h.idxOf p) hb hi (by omega)
  have hx := idx_ev (p := p) hs.ints (by omega)
  have hpe := List.length_erase_of_mem hp
  have hpos := List.length_pos_of_mem hp
  rw [hV_cons hne] at hx ⊢
  rw [show idxI h p = (h.idxOf p : Nat) from if_pos hp] at hx
  rw [erase_at] at hd
  generalize hG1 : G.set b (.cells (ii (h.erase p ++ [0])) 3) ++ L = G1 at hd
  have hl1 : G.length ≤ G1.length := by rw [← hG1]; simp
  have hb1 : G1[b]? = some (.cells (ii (h.erase p ++ [0])) 3) := by
    rw [← hG1, List.getElem?_append_left (by simpa using hbl), List.getElem?_set_self hbl]
  have hb2 : (G1 ++ [AObj.cells (ii [p]) 3])[b]? = some (.cells (ii (h.erase p ++ [0])) 3) := by rw [List.getElem?_append_left (by omega)]; exact hb1
  have hr : rdCells (G1 ++ [AObj.cells (ii [p]) 3]) G1.length 0 1 = some (ii [p]) := by
    have : (G1 ++ [AObj.cells (ii [p]) 3])[G1.length]? = some (.cells (ii [p]) 3) := by simp
    exact rd_at this rfl
  have e3 : appendA Try.prog none 46 (some 46) (.slice b 0 1 (h.length - 1) h.length false) (.slice G1.length 0 1 1 1 true) (G1 ++ [AObj.cells (ii [p]) 3]) = some (ov b h.length, (G1 ++ [AObj.cells (ii [p]) 3]).set b (.cells (ii (h.erase p ++ [p])) 3)) := by
    rw [app_in hr (by omega) hb2 (by simp only [List.length_append, List.length_cons, List.length_nil]; omega) (by omega)]
    rw [show h.length - 1 + 1 = h.length by omega, show 0 + (h.length - 1) = (h.erase p).length by omega, List.take_append_of_le_length (Nat.le_refl _), List.take_length, List.drop_of_length_le (l := h.erase p ++ [0]) (by simp), List.append_nil]
  have e1 := bs46 G1 p
  have e4 : decide (((h.idxOf p : Nat) : Int) ≥ 0) = true := by simp
  have e5 := inc_i (j := h.idxOf p) (by omega)
  have g0 : ([ov b h.length, I p, I f] ++ List.replicate (32 - [ov b h.length, I p, I f].length) undefA).length = 32 := by simp
  have g1 : ([ov b h.length, I p, I f] ++ List.replicate (32 - [ov b h.length, I p, I f].length) undefA).getD 0 undefA = ov b h.length := rfl
  have g2 : ([ov b h.length, I p, I f] ++ List.replicate (32 - [ov b h.length, I p, I f].length) undefA).getD 1 undefA = I p := rfl
  have g3 : ([ov b h.length, I p, I f] ++ List.replicate (32 - [ov b h.length, I p, I f].length) undefA).getD 2 undefA = I f := rfl
  rw [fe66]
  generalize [ov b h.length, I p, I f] ++ List.replicate (32 - [ov b h.length, I p, I f].length) undefA = tm at *
  refine ⟨(G1 ++ [AObj.cells (ii [p]) 3]).set b (.cells (ii (h.erase p ++ [p])) 3), b, ?_, ⟨fun _ => hs.ge hne, fun _ => ?_⟩, fun j hj => ?_, ?_⟩
  · rw [hV_cons (by simp), show (h.erase p ++ [p]).length = h.length by simp only [List.length_append, List.length_cons, List.length_nil]; omega]
    simp -implicitDefEqProofs only [c66, Try.f66, Option.getD_some, g0, g1, g2, g3, hx, hd, e1, e3, e4, e5, ↓fc68, ↓fc69, ↓ld3, ↓st3, z3, boolOf_undef, nb, ↓aop_lookup, ↓aop_makeFunc, ↓aop_makeMap, ↓aop_mapUpdate, ↓aop_buildSlice, ↓aop_extract, ↓EvC_seq, ↓EvC_skip, ↓EvC_exit, ↓EvC_ret, ↓EvC_block, ↓EvC_cond, ↓ev_region, ↓runL_cons, ↓runL_nil, ↓stepO_none, ↓stepO_guard, ↓aop_move, ↓aop_assign, ↓aop_load, ↓aop_store, ↓aop_alloc, ↓aop_box, ↓aop_nilCheck, ↓aop_fieldAddr, ↓aop_field, ↓aop_indexAddr, ↓aop_binOp, ↓aop_pick, ↓aop_extract, ↓aop_buildSlice, ↓aop_slice, ↓aop_not, ↓aop_call, ↓callA_len, ↓callA_append, ev_tmp, ev_const, ofV_int, ofV_bool, ofV_str, ofV_nilSlice, ofV_nilPtr, putA_some, putA_none, gs_self, gs_ne, List.length_set, Option.bind_some, Option.map_some, intBinA, evL, evO, evP, ne_eq, not_false_eq_true, if_true, if_false, reduceCtorEq, ite_true, ite_false, reduceIte, put_app, AV.cells, and_true, true_and, and_self, decide_true, decide_false, ↓yielded_eq, yv_some, boolOf_bool, List.getElem?_toArray, List.getElem?_cons_zero, List.getElem?_cons_succ, Nat.reduceLT, Nat.reduceEqDiff, beq_self_eq_true, Option.some_beq_some, wr_app, wr_app0, rd_app, rd_app0, rdL_here, rdL_next, wrL_here, wrL_next, spl, List.all_cons, List.all_nil, AV.one, Bool.and_self, Bool.true_and, List.drop_zero, List.take_succ_cons, List.take_zero, List.drop_succ_cons, List.head?_cons, Nat.reduceAdd, Nat.reduceLeDiff, List.length_cons, List.length_nil, List.nil_append, List.cons_append, List.set_cons_zero, List.set_cons_succ, Int.toNat_natCast, Nat.add_zero, b_ft, b_tf, Bool.false_eq_true]
  · rw [List.getElem?_set_self (by simp; omega)]
  · rw [List.getElem?_set_ne (by have := hs.ge hne; omega), List.getElem?_append_left (by omega), ← hG1, List.getElem?_append_left (by simp; omega), List.getElem?_set_ne (by have := hs.ge hne; omega)]
  · simp; omega

theorem use_full {b0 : Nat} {G : AH} {b f : Nat} {h : List Int} {p : Int} (hb0 : b0 ≤ G.length) (hs : HS b0 G h b) (hp : p ∉ h) (hf : h.length = f) (hf0 : 0 < f) (hl : h.length < 2 ^ 39) :
    ∃ G' b', Ev Try.prog C0 66 [hV h b, I p, I f] G = some (.tuple [hV (h.drop 1 ++ [p]) b', .bool true], G') ∧ UseTo b0 G (h.drop 1 ++ [p]) G' b' := by
  have hne : h ≠ [] := by intro e; subst e; simp at hf; omega
  have hb := hs.at' hne
  have hbl := lt_of_get hb
  have hx := idx_ev (p := p) hs.ints (by omega)
  rw [hV_cons hne] at hx ⊢
  rw [show idxI h p = -1 from if_neg hp] at hx
  have hb2 : (G ++ [AObj.cells (ii [p]) 3])[b]? = some (.cells (ii h) 3) := by rw [List.getElem?_append_left hbl]; exact hb
  have hr : rdCells (G ++ [AObj.cells (ii [p]) 3]) G.length 0 1 = some (ii [p]) := by
    have : (G ++ [AObj.cells (ii [p]) 3])[G.length]? = some (.cells (ii [p]) 3) := by simp
    exact rd_at this rfl
  have ho : rdCells (G ++ [AObj.cells (ii [p]) 3]) b 1 (h.length - 1) = some (ii (h.drop 1)) := by
    rw [rd_ints hb2 (by omega), List.take_of_length_le (by simp)]
  have hlen1 : (h.drop 1 ++ [p]).length = h.length := by simp only [List.length_append, List.length_drop, List.length_cons, List.length_nil]; omega
  have e3 : appendA Try.prog none 46 (some 46) (.slice b 1 1 (h.length - 1) (h.length - 1) false) (.slice G.length 0 1 1 1 true) (G ++ [AObj.cells (ii [p]) 3]) = some (ov (G.length + 1) h.length, (G ++ [AObj.cells (ii [p]) 3]).set b .dead ++ [.cells (ii (h.drop 1 ++ [p])) 3]) := by
    rw [app_grow hr (by omega) hb2 ho (by omega), show h.length - 1 + 1 = h.length by omega]
    simp
  have e1 := bs46 G p
  have e4 : decide ((-1 : Int) ≥ 0) = false := by simp
  have e5 : ((h.length : Int) == (f : Int)) = true := by simp; omega
  have e6 : sliceA Try.prog 46 G (ov b h.length) (some (I 1)) none none = some (.slice b 1 1 (h.length - 1) (h.length - 1) false) := by
    have := sl46l G b 0 h.length h.length false 1 (by omega) (by omega)
    rwa [Nat.zero_add] at this
  have e7 := ln46 G b 0 1 h.length h.length false
  have g0 : ([ov b h.length, I p, I f] ++ List.replicate (32 - [ov b h.length, I p, I f].length) undefA).length = 32 := by simp
  have g1 : ([ov b h.length, I p, I f] ++ List.replicate (32 - [ov b h.length, I p, I f].length) undefA).getD 0 undefA = ov b h.length := rfl
  have g2 : ([ov b h.length, I p, I f] ++ List.replicate (32 - [ov b h.length, I p, I f].length) undefA).getD 1 undefA = I p := rfl
  have g3 : ([ov b h.length, I p, I f] ++ List.replicate (32 - [ov b h.length, I p, I f].length) undefA).getD 2 undefA = I f := rfl
  rw [fe66]
  generalize [ov b h.length, I p, I f] ++ List.replicate (32 - [ov b h.length, I p, I f].length) undefA = tm at *
  refine ⟨(G ++ [AObj.cells (ii [p]) 3]).set b .dead ++ [.cells (ii (h.drop 1 ++ [p])) 3], G.length + 1, ?_, ⟨fun _ => by omega, fun _ => ?_⟩, fun j hj => ?_, ?_⟩
  · rw [hV_cons (by simp), hlen1]
    simp -implicitDefEqProofs only [c66, Try.f66, Option.getD_some, g0, g1, g2, g3, hx, e1, e3, e4, e5, e6, e7, ↓fc68, ↓fc69, ↓ld3, ↓st3, z3, boolOf_undef, nb, ↓aop_lookup, ↓aop_makeFunc, ↓aop_makeMap, ↓aop_mapUpdate, ↓aop_buildSlice, ↓aop_extract, ↓EvC_seq, ↓EvC_skip, ↓EvC_exit, ↓EvC_ret, ↓EvC_block, ↓EvC_cond, ↓ev_region, ↓runL_cons, ↓runL_nil, ↓stepO_none, ↓stepO_guard, ↓aop_move, ↓aop_assign, ↓aop_load, ↓aop_store, ↓aop_alloc, ↓aop_box, ↓aop_nilCheck, ↓aop_fieldAddr, ↓aop_field, ↓aop_indexAddr, ↓aop_binOp, ↓aop_pick, ↓aop_extract, ↓aop_buildSlice, ↓aop_slice, ↓aop_not, ↓aop_call, ↓callA_len, ↓callA_append, ev_tmp, ev_const, ofV_int, ofV_bool, ofV_str, ofV_nilSlice, ofV_nilPtr, putA_some, putA_none, gs_self, gs_ne, List.length_set, Option.bind_some, Option.map_some, intBinA, evL, evO, evP, ne_eq, not_false_eq_true, if_true, if_false, reduceCtorEq, ite_true, ite_false, reduceIte, put_app, AV.cells, and_true, true_and, and_self, decide_true, decide_false, ↓yielded_eq, yv_some, boolOf_bool, List.getElem?_toArray, List.getElem?_cons_zero, List.getElem?_cons_succ, Nat.reduceLT, Nat.reduceEqDiff, beq_self_eq_true, Option.some_beq_some, wr_app, wr_app0, rd_app, rd_app0, rdL_here, rdL_next, wrL_here, wrL_next, spl, List.all_cons, List.all_nil, AV.one, Bool.and_self, Bool.true_and, List.drop_zero, List.take_succ_cons, List.take_zero, List.drop_succ_cons, List.head?_cons, Nat.reduceAdd, Nat.reduceLeDiff, List.length_cons, List.length_nil, List.nil_append, List.cons_append, List.set_cons_zero, List.set_cons_succ, Int.toNat_natCast, Nat.add_zero, b_ft, b_tf, Bool.false_eq_true]
  · rw [List.getElem?_append_right (by simp)]; simp
  · rw [List.getElem?_append_left (by simp; omega), List.getElem?_set_ne (by have := hs.ge hne; omega), List.getElem?_append_left (by omega)]
  · simp; omega

theorem use_more {b0 : Nat} {G : AH} {b f : Nat} {h : List Int} {p : Int} (hb0 : b0 ≤ G.length) (hs : HS b0 G h b) (hp : p ∉ h) (hf : h.length ≠ f) (hl : h.length < 2 ^ 39) :
    ∃ G' b', Ev Try.prog C0 66 [hV h b, I p, I f] G = some (.tuple [hV (h ++ [p]) b', .bool true], G') ∧ UseTo b0 G (h ++ [p]) G' b' := by
  have hx := idx_ev (p := p) hs.ints (by omega)
  rw [show idxI h p = -1 from if_neg hp] at hx
  have hr : rdCells (G ++ [AObj.cells (ii [p]) 3]) G.length 0 1 = some (ii [p]) := by
    have : (G ++ [AObj.cells (ii [p]) 3])[G.length]? = some (.cells (ii [p]) 3) := by simp
    exact rd_at this rfl
  have e1 := bs46 G p
  have e4 : decide ((-1 : Int) ≥ 0) = false := by simp
  have e5 : ((h.length : Int) == (f : Int)) = false := by simp; omega
  have e7 := hs.ints.len G
  have hlen1 : (h ++ [p]).length = h.length + 1 := by simp
  have e3 : ∃ G', appendA Try.prog none 46 (some 46) (hV h b) (.slice G.length 0 1 1 1 true) (G ++ [AObj.cells (ii [p]) 3]) = some (ov (G.length + 1) (h.length + 1), G' ++ [.cells (ii (h ++ [p])) 3]) ∧ G'.length = G.length + 1 ∧ (∀ j, j < b0 → G'[j]? = G[j]?) := by
    by_cases hne : h = []
    · subst hne
      refine ⟨G ++ [AObj.cells (ii [p]) 3], ?_, by simp, fun j hj => List.getElem?_append_left (by omega)⟩
      rw [hV_nil, app_nil hr (by omega) (by omega)]
      simp
    · have hb := hs.at' hne
      have hbl := lt_of_get hb
      have hb2 : (G ++ [AObj.cells (ii [p]) 3])[b]? = some (.cells (ii h) 3) := by rw [List.getElem?_append_left hbl]; exact hb
      have ho : rdCells (G ++ [AObj.cells (ii [p]) 3]) b 0 h.length = some (ii h) := by
        rw [rd_ints hb2 (by omega), List.drop_zero, List.take_length]
      refine ⟨(G ++ [AObj.cells (ii [p]) 3]).set b .dead, ?_, by simp, fun j hj => ?_⟩
      · rw [hV_cons hne, app_grow hr (by omega) hb2 ho (by omega)]
        simp
      · rw [List.getElem?_set_ne (by have := hs.ge hne; omega), List.getElem?_append_left (by omega)]
  obtain ⟨G', e3, hl', hk⟩ := e3
  generalize hv : hV h b = v at *
  have g0 : ([v, I p, I f] ++ List.replicate (32 - [v, I p, I f].length) undefA).length = 32 := by simp
  have g1 : ([v, I p, I f] ++ List.replicate (32 - [v, I p, I f].length) undefA).getD 0 undefA = v := rfl
  have g2 : ([v, I p, I f] ++ List.replicate (32 - [v, I p, I f].length) undefA).getD 1 undefA = I p := rfl
  have g3 : ([v, I p, I f] ++ List.replicate (32 - [v, I p, I f].length) undefA).getD 2 undefA = I f := rfl
  rw [fe66]
  generalize [v, I p, I f] ++ List.replicate (32 - [v, I p, I f].length) undefA = tm at *
  refine ⟨G' ++ [.cells (ii (h ++ [p])) 3], G.length + 1, ?_, ⟨fun _ => by omega, fun _ => ?_⟩, fun j hj => ?_, ?_⟩
  · rw [hV_cons (by simp), hlen1]
    simp -implicitDefEqProofs only [c66, Try.f66, Option.getD_some, g0, g1, g2, g3, hx, e1, e3, e4, e5, e7, ↓fc68, ↓fc69, ↓ld3, ↓st3, z3, boolOf_undef, nb, ↓aop_lookup, ↓aop_makeFunc, ↓aop_makeMap, ↓aop_mapUpdate, ↓aop_buildSlice, ↓aop_extract, ↓EvC_seq, ↓EvC_skip, ↓EvC_exit, ↓EvC_ret, ↓EvC_block, ↓EvC_cond, ↓ev_region, ↓runL_cons, ↓runL_nil, ↓stepO_none, ↓stepO_guard, ↓aop_move, ↓aop_assign, ↓aop_load, ↓aop_store, ↓aop_alloc, ↓aop_box, ↓aop_nilCheck, ↓aop_fieldAddr, ↓aop_field, ↓aop_indexAddr, ↓aop_binOp, ↓aop_pick, ↓aop_extract, ↓aop_buildSlice, ↓aop_slice, ↓aop_not, ↓aop_call, ↓callA_len, ↓callA_append, ev_tmp, ev_const, ofV_int, ofV_bool, ofV_str, ofV_nilSlice, ofV_nilPtr, putA_some, putA_none, gs_self, gs_ne, List.length_set, Option.bind_some, Option.map_some, intBinA, evL, evO, evP, ne_eq, not_false_eq_true, if_true, if_false, reduceCtorEq, ite_true, ite_false, reduceIte, put_app, AV.cells, and_true, true_and, and_self, decide_true, decide_false, ↓yielded_eq, yv_some, boolOf_bool, List.getElem?_toArray, List.getElem?_cons_zero, List.getElem?_cons_succ, Nat.reduceLT, Nat.reduceEqDiff, beq_self_eq_true, Option.some_beq_some, wr_app, wr_app0, rd_app, rd_app0, rdL_here, rdL_next, wrL_here, wrL_next, spl, List.all_cons, List.all_nil, AV.one, Bool.and_self, Bool.true_and, List.drop_zero, List.take_succ_cons, List.take_zero, List.drop_succ_cons, List.head?_cons, Nat.reduceAdd, Nat.reduceLeDiff, List.length_cons, List.length_nil, List.nil_append, List.cons_append, List.set_cons_zero, List.set_cons_succ, Int.toNat_natCast, Nat.add_zero, b_ft, b_tf, Bool.false_eq_true]
  · rw [List.getElem?_append_right (by omega), hl']; simp
  · rw [List.getElem?_append_left (by omega)]; exact hk j hj
  · simp; omega
/-- image.use is its own law -/
theorem use_ev {b0 : Nat} {G : AH} {b f : Nat} {h : List Int} (p : Int) (hb0 : b0 ≤ G.length) (hs : HS b0 G h b) (hf0 : 0 < f) (hl : h.length < 2 ^ 39) :
    ∃ G' b', Ev Try.prog C0 66 [hV h b, I p, I f] G = some (.tuple [hV (useS f h p).1 b', .bool (useS f h p).2], G') ∧ UseTo b0 G (useS f h p).1 G' b' := by
  by_cases hp : p ∈ h
  · rw [use_in hp]; exact use_hit hb0 hs hp hl
  · rw [use_out hp]
    by_cases hf : h.length = f
    · rw [if_pos hf]; exact use_full hb0 hs hp hf hf0 hl
    · rw [if_neg hf]; exact use_more hb0 hs hp hf hl
theorem clone_any {b0 : Nat} {G : AH} {b : Nat} {h : List Int} (hb0 : b0 ≤ G.length) (hs : HS b0 G h b) (hl : h.length < 2 ^ 39) :
    ∃ G' b', Ev Try.prog C0 67 [hV h b] G = some (hV h b', G') ∧ UseTo b0 G h G' b' := by
  by_cases hne : h = []
  · subst hne
    exact ⟨G, b, clone_nil G, hs, fun _ _ => rfl, Nat.le_refl _⟩
  · refine ⟨G ++ [.cells (ii []) 3] ++ [.cells (ii h) 3], G.length + 1, ?_, ⟨fun _ => by omega, fun _ => ?_⟩, ?_, ?_⟩
    · rw [hV_cons hne, hV_cons hne]; exact clone_ev hne (hs.at' hne) hl
    · rw [List.getElem?_append_right (by simp)]; simp
    · intro j hj; rw [List.append_assoc, List.getElem?_append_left (by omega)]
    · simp
end Go.Dv

/- image.run, Faults, Held, and bad (printed by a program of mine, own work). -/
namespace Go.Dv
open Go.Proofs
set_option maxRecDepth 100000
set_option linter.unusedSimpArgs false
set_option linter.unusedVariables false
attribute [local congr] bind_congr_first


theorem fc62 (C : Cfg Try.prog) (slot : Option Nat) (tm : List AV) (H : AH) (o : Oper) (xs : Array Operand) (ats : Array TypeId) : callA Try.prog C slot (evalA tm) o ⟨.value (.func 62), xs, ats⟩ H = (evL (evalA tm) xs.toList).map fun vs => (.enter 62 vs, H) := callF (by rw [Try.func62]; rfl) slot _ H o xs ats rfl
theorem fc26 (C : Cfg Try.prog) (slot : Option Nat) (tm : List AV) (H : AH) (o : Oper) (xs : Array Operand) (ats : Array TypeId) : callA Try.prog C slot (evalA tm) o ⟨.value (.func 26), xs, ats⟩ H = (evL (evalA tm) xs.toList).map fun vs => (.enter 26 vs, H) := callF (by rw [Try.func26]; rfl) slot _ H o xs ats rfl
theorem UseTo.trans {b0 : Nat} {G G1 G2 : AH} {h1 h2 : List Int} {b1 b2 : Nat} (h : UseTo b0 G h1 G1 b1) (k : UseTo b0 G1 h2 G2 b2) : UseTo b0 G h2 G2 b2 :=
  ⟨k.1, fun j hj => (k.2.1 j hj).trans (h.2.1 j hj), Nat.le_trans h.2.2 k.2.2⟩
/-- what stands while the pages are needed -/
structure RunInv (G0 : AH) (v : AV) (n f : Nat) (tm : List AV) (G : AH) (h : List Int) (c j b : Nat) : Prop where
  len : tm.length = 43
  t1 : tm.getD 1 undefA = I f
  t7 : tm.getD 7 undefA = hV h b
  t8 : tm.getD 8 undefA = I c
  t22 : tm.getD 22 undefA = v
  t23 : tm.getD 23 undefA = I n
  t24 : tm.getD 24 undefA = I j
  hs : HS G0.length G h b
  keep : ∀ j, j < G0.length → G[j]? = G0[j]?
  big : G0.length ≤ G.length
  hl : h.length ≤ f
  hc : c ≤ j
theorem run_round {G0 : AH} {v : AV} {t : List Int} {f : Nat} {tm : List AV} {G : AH} {h : List Int} {c j b : Nat} {p : Int} (hv : IntS G0 v t) (ht : t.length < 2 ^ 38) (hf0 : 0 < f) (hf : f ≤ 64) (hp : t[j]? = some p) (hI : RunInv G0 v t.length f tm G h c j b) :
    ∀ X, EvC Try.prog C0 l53_0 (tm, G) = X → ∃ tm' G' b', EvC Try.prog C0 l53_0 (tm', G') = X ∧ RunInv G0 v t.length f tm' G' (useS f h p).1 (if (useS f h p).2 then c + 1 else c) (j + 1) b' := by
  intro X hX
  have hjl := lt_of_get hp
  have hl := hI.hl
  obtain ⟨G1, b1, e1, u1⟩ := clone_any hI.big hI.hs (by omega)
  obtain ⟨G2, b2, e2, u2⟩ := use_ev (f := f) p (Nat.le_trans hI.big u1.2.2) u1.1 hf0 (by omega)
  have u := u1.trans u2
  obtain ⟨i1, k1, hi1, hr1⟩ := (hv.same hI.keep).ix j p hp
  have hlt : decide ((j : Int) < (t.length : Int)) = true := by simp; omega
  have hw := inc_i (j := j) (by omega)
  have hcj := hI.hc
  have hw2 := inc_i (j := c) (by omega)
  have hlen := hI.len
  have h1 := hI.t1
  have h7 := hI.t7
  have h8 := hI.t8
  have h22 := hI.t22
  have h23 := hI.t23
  have h24 := hI.t24
  have hul := use_len hf0 hl p
  have mk : ∀ (tm' : List AV) (c' : Nat), tm'.length = 43 → tm'.getD 1 undefA = I f → tm'.getD 7 undefA = hV (useS f h p).1 b2 → tm'.getD 8 undefA = I c' → tm'.getD 22 undefA = v → tm'.getD 23 undefA = I t.length → tm'.getD 24 undefA = I ((j + 1 : Nat) : Int) → c' ≤ j + 1 → RunInv G0 v t.length f tm' G2 (useS f h p).1 c' (j + 1) b2 := by
    intro tm' c' a1 a2 a3 a4 a5 a6 a7 a8
    exact ⟨a1, a2, a3, a4, a5, a6, a7, u.1, fun i hi => (u.2.1 i hi).trans (hI.keep i hi), Nat.le_trans hI.big u.2.2, hul, a8⟩
  generalize hu : useS f h p = r at *
  obtain ⟨h', fl⟩ := r
  dsimp only at *
  cases fl
  · simp only [Bool.false_eq_true, if_false]
    rw [el53_0] at hX
    simp -implicitDefEqProofs only [b53_0, atPath, Try.f53, Option.getD_some, hlen, h1, h7, h8, h22, h23, h24, hlt, hw, hi1, hr1, e1, e2, ↓fc66, ↓fc67, ↓ld3, ↓st3, z3, boolOf_undef, nb, ↓aop_lookup, ↓aop_makeFunc, ↓aop_makeMap, ↓aop_mapUpdate, ↓aop_buildSlice, ↓aop_extract, ↓EvC_seq, ↓EvC_skip, ↓EvC_exit, ↓EvC_ret, ↓EvC_block, ↓EvC_cond, ↓ev_region, ↓runL_cons, ↓runL_nil, ↓stepO_none, ↓stepO_guard, ↓aop_move, ↓aop_assign, ↓aop_load, ↓aop_store, ↓aop_alloc, ↓aop_box, ↓aop_nilCheck, ↓aop_fieldAddr, ↓aop_field, ↓aop_indexAddr, ↓aop_binOp, ↓aop_pick, ↓aop_extract, ↓aop_buildSlice, ↓aop_slice, ↓aop_not, ↓aop_call, ↓callA_len, ↓callA_append, ev_tmp, ev_const, ofV_int, ofV_bool, ofV_str, ofV_nilSlice, ofV_nilPtr, putA_some, putA_none, gs_self, gs_ne, List.length_set, Option.bind_some, Option.map_some, intBinA, evL, evO, evP, ne_eq, not_false_eq_true, if_true, if_false, reduceCtorEq, ite_true, ite_false, reduceIte, put_app, AV.cells, and_true, true_and, and_self, decide_true, decide_false, ↓yielded_eq, yv_some, boolOf_bool, List.getElem?_toArray, List.getElem?_cons_zero, List.getElem?_cons_succ, Nat.reduceLT, Nat.reduceEqDiff, beq_self_eq_true, Option.some_beq_some, wr_app, wr_app0, rd_app, rd_app0, rdL_here, rdL_next, wrL_here, wrL_next, spl, List.all_cons, List.all_nil, AV.one, Bool.and_self, Bool.true_and, List.drop_zero, List.take_succ_cons, List.take_zero, List.drop_succ_cons, List.head?_cons, Nat.reduceAdd, Nat.reduceLeDiff, List.length_cons, List.length_nil, List.nil_append, List.cons_append, List.set_cons_zero, List.set_cons_succ, Int.toNat_natCast, Nat.add_zero, b_ft, b_tf, Bool.false_eq_true] at hX
    refine ⟨_, G2, b2, hX, mk _ _ ?_ ?_ ?_ ?_ ?_ ?_ ?_ (by omega)⟩
    all_goals simp only [hlen, h1, h7, h8, h22, h23, h24, gs_self, gs_ne, List.length_set, ne_eq, Nat.reduceEqDiff, Nat.reduceLT, not_false_eq_true]
  · simp only [if_true]
    rw [el53_0] at hX
    simp -implicitDefEqProofs only [b53_0, atPath, Try.f53, Option.getD_some, hlen, h1, h7, h8, h22, h23, h24, hlt, hw, hw2, hi1, hr1, e1, e2, ↓fc66, ↓fc67, ↓ld3, ↓st3, z3, boolOf_undef, nb, ↓aop_lookup, ↓aop_makeFunc, ↓aop_makeMap, ↓aop_mapUpdate, ↓aop_buildSlice, ↓aop_extract, ↓EvC_seq, ↓EvC_skip, ↓EvC_exit, ↓EvC_ret, ↓EvC_block, ↓EvC_cond, ↓ev_region, ↓runL_cons, ↓runL_nil, ↓stepO_none, ↓stepO_guard, ↓aop_move, ↓aop_assign, ↓aop_load, ↓aop_store, ↓aop_alloc, ↓aop_box, ↓aop_nilCheck, ↓aop_fieldAddr, ↓aop_field, ↓aop_indexAddr, ↓aop_binOp, ↓aop_pick, ↓aop_extract, ↓aop_buildSlice, ↓aop_slice, ↓aop_not, ↓aop_call, ↓callA_len, ↓callA_append, ev_tmp, ev_const, ofV_int, ofV_bool, ofV_str, ofV_nilSlice, ofV_nilPtr, putA_some, putA_none, gs_self, gs_ne, List.length_set, Option.bind_some, Option.map_some, intBinA, evL, evO, evP, ne_eq, not_false_eq_true, if_true, if_false, reduceCtorEq, ite_true, ite_false, reduceIte, put_app, AV.cells, and_true, true_and, and_self, decide_true, decide_false, ↓yielded_eq, yv_some, boolOf_bool, List.getElem?_toArray, List.getElem?_cons_zero, List.getElem?_cons_succ, Nat.reduceLT, Nat.reduceEqDiff, beq_self_eq_true, Option.some_beq_some, wr_app, wr_app0, rd_app, rd_app0, rdL_here, rdL_next, wrL_here, wrL_next, spl, List.all_cons, List.all_nil, AV.one, Bool.and_self, Bool.true_and, List.drop_zero, List.take_succ_cons, List.take_zero, List.drop_succ_cons, List.head?_cons, Nat.reduceAdd, Nat.reduceLeDiff, List.length_cons, List.length_nil, List.nil_append, List.cons_append, List.set_cons_zero, List.set_cons_succ, Int.toNat_natCast, Nat.add_zero, b_ft, b_tf, Bool.false_eq_true] at hX
    refine ⟨_, G2, b2, hX, mk _ _ ?_ ?_ ?_ ?_ ?_ ?_ ?_ (by omega)⟩
    all_goals simp only [hlen, h1, h7, h8, h22, h23, h24, gs_self, gs_ne, List.length_set, ne_eq, Nat.reduceEqDiff, Nat.reduceLT, not_false_eq_true]
theorem run_end {G : AH} {tm : List AV} {n : Nat} (hlen : tm.length = 43) (h23 : tm.getD 23 undefA = I n) (h24 : tm.getD 24 undefA = I n) : ∃ tm', EvC Try.prog C0 l53_0 (tm, G) = some (.exit 0, (tm', G)) ∧ tm'.length = 43 ∧ tm'.getD 7 undefA = tm.getD 7 undefA ∧ tm'.getD 8 undefA = tm.getD 8 undefA := by
  have hlt : decide ((n : Int) < (n : Int)) = false := by simp
  rw [el53_0]
  simp -implicitDefEqProofs only [b53_0, atPath, Try.f53, Option.getD_some, hlen, h23, h24, hlt, ↓ld3, ↓st3, z3, boolOf_undef, nb, ↓aop_lookup, ↓aop_makeFunc, ↓aop_makeMap, ↓aop_mapUpdate, ↓aop_buildSlice, ↓aop_extract, ↓EvC_seq, ↓EvC_skip, ↓EvC_exit, ↓EvC_ret, ↓EvC_block, ↓EvC_cond, ↓ev_region, ↓runL_cons, ↓runL_nil, ↓stepO_none, ↓stepO_guard, ↓aop_move, ↓aop_assign, ↓aop_load, ↓aop_store, ↓aop_alloc, ↓aop_box, ↓aop_nilCheck, ↓aop_fieldAddr, ↓aop_field, ↓aop_indexAddr, ↓aop_binOp, ↓aop_pick, ↓aop_extract, ↓aop_buildSlice, ↓aop_slice, ↓aop_not, ↓aop_call, ↓callA_len, ↓callA_append, ev_tmp, ev_const, ofV_int, ofV_bool, ofV_str, ofV_nilSlice, ofV_nilPtr, putA_some, putA_none, gs_self, gs_ne, List.length_set, Option.bind_some, Option.map_some, intBinA, evL, evO, evP, ne_eq, not_false_eq_true, if_true, if_false, reduceCtorEq, ite_true, ite_false, reduceIte, put_app, AV.cells, and_true, true_and, and_self, decide_true, decide_false, ↓yielded_eq, yv_some, boolOf_bool, List.getElem?_toArray, List.getElem?_cons_zero, List.getElem?_cons_succ, Nat.reduceLT, Nat.reduceEqDiff, beq_self_eq_true, Option.some_beq_some, wr_app, wr_app0, rd_app, rd_app0, rdL_here, rdL_next, wrL_here, wrL_next, spl, List.all_cons, List.all_nil, AV.one, Bool.and_self, Bool.true_and, List.drop_zero, List.take_succ_cons, List.take_zero, List.drop_succ_cons, List.head?_cons, Nat.reduceAdd, Nat.reduceLeDiff, List.length_cons, List.length_nil, List.nil_append, List.cons_append, List.set_cons_zero, List.set_cons_succ, Int.toNat_natCast, Nat.add_zero, b_ft, b_tf, Bool.false_eq_true]
  exact ⟨_, rfl, by simp only [List.length_set, hlen], by simp only [hlen, gs_self, gs_ne, List.length_set, ne_eq, Nat.reduceEqDiff, Nat.reduceLT, not_false_eq_true], by simp only [hlen, gs_self, gs_ne, List.length_set, ne_eq, Nat.reduceEqDiff, Nat.reduceLT, not_false_eq_true]⟩
theorem run_loop {G0 : AH} {v : AV} {t : List Int} {f : Nat} (hv : IntS G0 v t) (ht : t.length < 2 ^ 38) (hf0 : 0 < f) (hf : f ≤ 64) : ∀ (d j : Nat) (tm : List AV) (G : AH) (h : List Int) (c b : Nat), t.length - j = d → j ≤ t.length → RunInv G0 v t.length f tm G h c j b →
    ∃ tm' G' b', EvC Try.prog C0 l53_0 (tm, G) = some (.exit 0, (tm', G')) ∧ tm'.length = 43 ∧ tm'.getD 7 undefA = hV (runS f (t.drop j) h c).1 b' ∧ tm'.getD 8 undefA = I (runS f (t.drop j) h c).2 ∧ HS G0.length G' (runS f (t.drop j) h c).1 b' ∧ (∀ j, j < G0.length → G'[j]? = G0[j]?) ∧ G0.length ≤ G'.length := by
  intro d
  induction d with
  | zero =>
    intro j tm G h c b hd hj hI
    obtain rfl : j = t.length := by omega
    obtain ⟨tm', he, hl', h7, h8⟩ := run_end (G := G) hI.len hI.t23 hI.t24
    rw [List.drop_length]
    exact ⟨tm', G, b, he, hl', by rw [h7, hI.t7]; rfl, by rw [h8, hI.t8]; rfl, hI.hs, hI.keep, hI.big⟩
  | succ d ih =>
    intro j tm G h c b hd hj hI
    obtain ⟨p, hp⟩ := get_of (xs := t) (j := j) (by omega)
    obtain ⟨tm1, G1, b1, he, hI1⟩ := run_round hv ht hf0 hf hp hI _ rfl
    obtain ⟨tm', G', b', he2, r⟩ := ih (j + 1) tm1 G1 _ _ b1 (by omega) (by omega) hI1
    rw [drop_at hp]
    exact ⟨tm', G', b', he.symm.trans he2, r⟩
theorem run_loop' {G0 G : AH} {v : AV} {t : List Int} {f : Nat} {tm : List AV} {X : Option (AExit × St)} (hX : EvC Try.prog C0 l53_0 (tm, G) = X) (hv : IntS G0 v t) (ht : t.length < 2 ^ 38) (hf0 : 0 < f) (hf : f ≤ 64) (hI : RunInv G0 v t.length f tm G [] 0 0 0) :
    ∃ tm' G' b', X = some (.exit 0, (tm', G')) ∧ tm'.length = 43 ∧ tm'.getD 7 undefA = hV (runS f t [] 0).1 b' ∧ tm'.getD 8 undefA = I (runS f t [] 0).2 ∧ HS G0.length G' (runS f t [] 0).1 b' ∧ (∀ j, j < G0.length → G'[j]? = G0[j]?) ∧ G0.length ≤ G'.length := by
  subst hX
  exact run_loop hv ht hf0 hf t.length 0 tm G [] 0 0 (by omega) (by omega) hI
/-- too few or too many frames -/
def badF (fr : Int) : Bool := decide (fr < 1) || decide (fr > 64)
theorem run_bad {G : AH} {v : AV} {fr : Int} (h : badF fr = true) : Ev Try.prog C0 53 [v, I fr] G = some (.tuple [.nilSlice, I 0, I 6], G) := by
  have g0 : ([v, I fr] ++ List.replicate (43 - [v, I fr].length) undefA).length = 43 := by simp
  have g1 : ([v, I fr] ++ List.replicate (43 - [v, I fr].length) undefA).getD 0 undefA = v := rfl
  have g2 : ([v, I fr] ++ List.replicate (43 - [v, I fr].length) undefA).getD 1 undefA = I fr := rfl
  rw [fe53]
  generalize [v, I fr] ++ List.replicate (43 - [v, I fr].length) undefA = tm at *
  unfold badF at h
  cases q0 : decide (fr < 1)
  · rw [q0, Bool.false_or] at h
    simp -implicitDefEqProofs only [c53, Try.f53, Option.getD_some, g0, g1, g2, q0, h, ↓ld3, ↓st3, z3, boolOf_undef, nb, ↓aop_lookup, ↓aop_makeFunc, ↓aop_makeMap, ↓aop_mapUpdate, ↓aop_buildSlice, ↓aop_extract, ↓EvC_seq, ↓EvC_skip, ↓EvC_exit, ↓EvC_ret, ↓EvC_block, ↓EvC_cond, ↓ev_region, ↓runL_cons, ↓runL_nil, ↓stepO_none, ↓stepO_guard, ↓aop_move, ↓aop_assign, ↓aop_load, ↓aop_store, ↓aop_alloc, ↓aop_box, ↓aop_nilCheck, ↓aop_fieldAddr, ↓aop_field, ↓aop_indexAddr, ↓aop_binOp, ↓aop_pick, ↓aop_extract, ↓aop_buildSlice, ↓aop_slice, ↓aop_not, ↓aop_call, ↓callA_len, ↓callA_append, ev_tmp, ev_const, ofV_int, ofV_bool, ofV_str, ofV_nilSlice, ofV_nilPtr, putA_some, putA_none, gs_self, gs_ne, List.length_set, Option.bind_some, Option.map_some, intBinA, evL, evO, evP, ne_eq, not_false_eq_true, if_true, if_false, reduceCtorEq, ite_true, ite_false, reduceIte, put_app, AV.cells, and_true, true_and, and_self, decide_true, decide_false, ↓yielded_eq, yv_some, boolOf_bool, List.getElem?_toArray, List.getElem?_cons_zero, List.getElem?_cons_succ, Nat.reduceLT, Nat.reduceEqDiff, beq_self_eq_true, Option.some_beq_some, wr_app, wr_app0, rd_app, rd_app0, rdL_here, rdL_next, wrL_here, wrL_next, spl, List.all_cons, List.all_nil, AV.one, Bool.and_self, Bool.true_and, List.drop_zero, List.take_succ_cons, List.take_zero, List.drop_succ_cons, List.head?_cons, Nat.reduceAdd, Nat.reduceLeDiff, List.length_cons, List.length_nil, List.nil_append, List.cons_append, List.set_cons_zero, List.set_cons_succ, Int.toNat_natCast, Nat.add_zero, b_ft, b_tf, Bool.false_eq_true]
  · simp -implicitDefEqProofs only [c53, Try.f53, Option.getD_some, g0, g1, g2, q0, ↓ld3, ↓st3, z3, boolOf_undef, nb, ↓aop_lookup, ↓aop_makeFunc, ↓aop_makeMap, ↓aop_mapUpdate, ↓aop_buildSlice, ↓aop_extract, ↓EvC_seq, ↓EvC_skip, ↓EvC_exit, ↓EvC_ret, ↓EvC_block, ↓EvC_cond, ↓ev_region, ↓runL_cons, ↓runL_nil, ↓stepO_none, ↓stepO_guard, ↓aop_move, ↓aop_assign, ↓aop_load, ↓aop_store, ↓aop_alloc, ↓aop_box, ↓aop_nilCheck, ↓aop_fieldAddr, ↓aop_field, ↓aop_indexAddr, ↓aop_binOp, ↓aop_pick, ↓aop_extract, ↓aop_buildSlice, ↓aop_slice, ↓aop_not, ↓aop_call, ↓callA_len, ↓callA_append, ev_tmp, ev_const, ofV_int, ofV_bool, ofV_str, ofV_nilSlice, ofV_nilPtr, putA_some, putA_none, gs_self, gs_ne, List.length_set, Option.bind_some, Option.map_some, intBinA, evL, evO, evP, ne_eq, not_false_eq_true, if_true, if_false, reduceCtorEq, ite_true, ite_false, reduceIte, put_app, AV.cells, and_true, true_and, and_self, decide_true, decide_false, ↓yielded_eq, yv_some, boolOf_bool, List.getElem?_toArray, List.getElem?_cons_zero, List.getElem?_cons_succ, Nat.reduceLT, Nat.reduceEqDiff, beq_self_eq_true, Option.some_beq_some, wr_app, wr_app0, rd_app, rd_app0, rdL_here, rdL_next, wrL_here, wrL_next, spl, List.all_cons, List.all_nil, AV.one, Bool.and_self, Bool.true_and, List.drop_zero, List.take_succ_cons, List.take_zero, List.drop_succ_cons, List.head?_cons, Nat.reduceAdd, Nat.reduceLeDiff, List.length_cons, List.length_nil, List.nil_append, List.cons_append, List.set_cons_zero, List.set_cons_succ, Int.toNat_natCast, Nat.add_zero, b_ft, b_tf, Bool.false_eq_true]
theorem run_long {G : AH} {v : AV} {fr : Int} {t : List Int} (h : badF fr = false) (hv : IntS G v t) (hl : decide ((t.length : Int) > 4000) = true) : Ev Try.prog C0 53 [v, I fr] G = some (.tuple [.nilSlice, I 0, I 5], G) := by
  have hla := hv.len
  have g0 : ([v, I fr] ++ List.replicate (43 - [v, I fr].length) undefA).length = 43 := by simp
  have g1 : ([v, I fr] ++ List.replicate (43 - [v, I fr].length) undefA).getD 0 undefA = v := rfl
  have g2 : ([v, I fr] ++ List.replicate (43 - [v, I fr].length) undefA).getD 1 undefA = I fr := rfl
  rw [fe53]
  generalize [v, I fr] ++ List.replicate (43 - [v, I fr].length) undefA = tm at *
  unfold badF at h
  rw [Bool.or_eq_false_iff] at h
  simp -implicitDefEqProofs only [c53, Try.f53, Option.getD_some, g0, g1, g2, h.1, h.2, hla, hl, ↓ld3, ↓st3, z3, boolOf_undef, nb, ↓aop_lookup, ↓aop_makeFunc, ↓aop_makeMap, ↓aop_mapUpdate, ↓aop_buildSlice, ↓aop_extract, ↓EvC_seq, ↓EvC_skip, ↓EvC_exit, ↓EvC_ret, ↓EvC_block, ↓EvC_cond, ↓ev_region, ↓runL_cons, ↓runL_nil, ↓stepO_none, ↓stepO_guard, ↓aop_move, ↓aop_assign, ↓aop_load, ↓aop_store, ↓aop_alloc, ↓aop_box, ↓aop_nilCheck, ↓aop_fieldAddr, ↓aop_field, ↓aop_indexAddr, ↓aop_binOp, ↓aop_pick, ↓aop_extract, ↓aop_buildSlice, ↓aop_slice, ↓aop_not, ↓aop_call, ↓callA_len, ↓callA_append, ev_tmp, ev_const, ofV_int, ofV_bool, ofV_str, ofV_nilSlice, ofV_nilPtr, putA_some, putA_none, gs_self, gs_ne, List.length_set, Option.bind_some, Option.map_some, intBinA, evL, evO, evP, ne_eq, not_false_eq_true, if_true, if_false, reduceCtorEq, ite_true, ite_false, reduceIte, put_app, AV.cells, and_true, true_and, and_self, decide_true, decide_false, ↓yielded_eq, yv_some, boolOf_bool, List.getElem?_toArray, List.getElem?_cons_zero, List.getElem?_cons_succ, Nat.reduceLT, Nat.reduceEqDiff, beq_self_eq_true, Option.some_beq_some, wr_app, wr_app0, rd_app, rd_app0, rdL_here, rdL_next, wrL_here, wrL_next, spl, List.all_cons, List.all_nil, AV.one, Bool.and_self, Bool.true_and, List.drop_zero, List.take_succ_cons, List.take_zero, List.drop_succ_cons, List.head?_cons, Nat.reduceAdd, Nat.reduceLeDiff, List.length_cons, List.length_nil, List.nil_append, List.cons_append, List.set_cons_zero, List.set_cons_succ, Int.toNat_natCast, Nat.add_zero, b_ft, b_tf, Bool.false_eq_true]
/-- image.run is its own law -/
theorem run_ev {G : AH} {v : AV} {f : Nat} {t : List Int} (hf0 : 0 < f) (hf : f ≤ 64) (hv : IntS G v t) (hl : t.length ≤ 4000) :
    ∃ G' b', Ev Try.prog C0 53 [v, I f] G = some (.tuple [hV (runS f t [] 0).1 b', I (runS f t [] 0).2, I 0], G') ∧ HS G.length G' (runS f t [] 0).1 b' ∧ (∀ j, j < G.length → G'[j]? = G[j]?) ∧ G.length ≤ G'.length := by
  have hla := hv.len
  have q0 : decide ((f : Int) < 1) = false := by simp; omega
  have q1 : decide ((f : Int) > 64) = false := by simp; omega
  have q2 : decide ((t.length : Int) > 4000) = false := by simp; omega
  have g0 : ([v, I f] ++ List.replicate (43 - [v, I f].length) undefA).length = 43 := by simp
  have g1 : ([v, I f] ++ List.replicate (43 - [v, I f].length) undefA).getD 0 undefA = v := rfl
  have g2 : ([v, I f] ++ List.replicate (43 - [v, I f].length) undefA).getD 1 undefA = I f := rfl
  rw [fe53]
  generalize [v, I f] ++ List.replicate (43 - [v, I f].length) undefA = tm at *
  simp -implicitDefEqProofs only [c53, Try.f53, Option.getD_some, g0, g1, g2, q0, q1, q2, hla, ↓ld3, ↓st3, z3, boolOf_undef, nb, ↓aop_lookup, ↓aop_makeFunc, ↓aop_makeMap, ↓aop_mapUpdate, ↓aop_buildSlice, ↓aop_extract, ↓EvC_seq, ↓EvC_skip, ↓EvC_exit, ↓EvC_ret, ↓EvC_block, ↓EvC_cond, ↓ev_region, ↓runL_cons, ↓runL_nil, ↓stepO_none, ↓stepO_guard, ↓aop_move, ↓aop_assign, ↓aop_load, ↓aop_store, ↓aop_alloc, ↓aop_box, ↓aop_nilCheck, ↓aop_fieldAddr, ↓aop_field, ↓aop_indexAddr, ↓aop_binOp, ↓aop_pick, ↓aop_extract, ↓aop_buildSlice, ↓aop_slice, ↓aop_not, ↓aop_call, ↓callA_len, ↓callA_append, ev_tmp, ev_const, ofV_int, ofV_bool, ofV_str, ofV_nilSlice, ofV_nilPtr, putA_some, putA_none, gs_self, gs_ne, List.length_set, Option.bind_some, Option.map_some, intBinA, evL, evO, evP, ne_eq, not_false_eq_true, if_true, if_false, reduceCtorEq, ite_true, ite_false, reduceIte, put_app, AV.cells, and_true, true_and, and_self, decide_true, decide_false, ↓yielded_eq, yv_some, boolOf_bool, List.getElem?_toArray, List.getElem?_cons_zero, List.getElem?_cons_succ, Nat.reduceLT, Nat.reduceEqDiff, beq_self_eq_true, Option.some_beq_some, wr_app, wr_app0, rd_app, rd_app0, rdL_here, rdL_next, wrL_here, wrL_next, spl, List.all_cons, List.all_nil, AV.one, Bool.and_self, Bool.true_and, List.drop_zero, List.take_succ_cons, List.take_zero, List.drop_succ_cons, List.head?_cons, Nat.reduceAdd, Nat.reduceLeDiff, List.length_cons, List.length_nil, List.nil_append, List.cons_append, List.set_cons_zero, List.set_cons_succ, Int.toNat_natCast, Nat.add_zero, b_ft, b_tf, Bool.false_eq_true]
  generalize hX : EvC Try.prog C0 (Code.loop _) _ = X
  obtain ⟨tm', G', b', he, hl', h7, h8, hs, hk, hb⟩ := run_loop' hX hv (by omega) hf0 hf ⟨by simp only [List.length_set, g0], by simp only [g0, g2, gs_self, gs_ne, List.length_set, ne_eq, Nat.reduceEqDiff, Nat.reduceLT, not_false_eq_true], by simp only [g0, gs_self, gs_ne, List.length_set, ne_eq, Nat.reduceEqDiff, Nat.reduceLT, not_false_eq_true, hV_nil], by simp only [g0, gs_self, gs_ne, List.length_set, ne_eq, Nat.reduceEqDiff, Nat.reduceLT, not_false_eq_true]; rfl, by simp only [g0, g1, gs_self, gs_ne, List.length_set, ne_eq, Nat.reduceEqDiff, Nat.reduceLT, not_false_eq_true], by simp only [g0, gs_self, gs_ne, List.length_set, ne_eq, Nat.reduceEqDiff, Nat.reduceLT, not_false_eq_true], by simp only [g0, gs_self, gs_ne, List.length_set, ne_eq, Nat.reduceEqDiff, Nat.reduceLT, not_false_eq_true]; rfl, HS.nil _ _ _, fun _ _ => rfl, Nat.le_refl _, by simp, Nat.le_refl _⟩
  subst he
  refine ⟨G', b', ?_, hs, hk, hb⟩
  simp -implicitDefEqProofs only [hl', h7, h8, ↓ld3, ↓st3, z3, boolOf_undef, nb, ↓aop_lookup, ↓aop_makeFunc, ↓aop_makeMap, ↓aop_mapUpdate, ↓aop_buildSlice, ↓aop_extract, ↓EvC_seq, ↓EvC_skip, ↓EvC_exit, ↓EvC_ret, ↓EvC_block, ↓EvC_cond, ↓ev_region, ↓runL_cons, ↓runL_nil, ↓stepO_none, ↓stepO_guard, ↓aop_move, ↓aop_assign, ↓aop_load, ↓aop_store, ↓aop_alloc, ↓aop_box, ↓aop_nilCheck, ↓aop_fieldAddr, ↓aop_field, ↓aop_indexAddr, ↓aop_binOp, ↓aop_pick, ↓aop_extract, ↓aop_buildSlice, ↓aop_slice, ↓aop_not, ↓aop_call, ↓callA_len, ↓callA_append, ev_tmp, ev_const, ofV_int, ofV_bool, ofV_str, ofV_nilSlice, ofV_nilPtr, putA_some, putA_none, gs_self, gs_ne, List.length_set, Option.bind_some, Option.map_some, intBinA, evL, evO, evP, ne_eq, not_false_eq_true, if_true, if_false, reduceCtorEq, ite_true, ite_false, reduceIte, put_app, AV.cells, and_true, true_and, and_self, decide_true, decide_false, ↓yielded_eq, yv_some, boolOf_bool, List.getElem?_toArray, List.getElem?_cons_zero, List.getElem?_cons_succ, Nat.reduceLT, Nat.reduceEqDiff, beq_self_eq_true, Option.some_beq_some, wr_app, wr_app0, rd_app, rd_app0, rdL_here, rdL_next, wrL_here, wrL_next, spl, List.all_cons, List.all_nil, AV.one, Bool.and_self, Bool.true_and, List.drop_zero, List.take_succ_cons, List.take_zero, List.drop_succ_cons, List.head?_cons, Nat.reduceAdd, Nat.reduceLeDiff, List.length_cons, List.length_nil, List.nil_append, List.cons_append, List.set_cons_zero, List.set_cons_succ, Int.toNat_natCast, Nat.add_zero, b_ft, b_tf, Bool.false_eq_true]

/-! Faults -/
theorem faults_of {G G' : AH} {v hv : AV} {fr n e : Int} (h : Ev Try.prog C0 53 [v, I fr] G = some (.tuple [hv, I n, I e], G')) : Ev Try.prog C0 30 [v, I fr] G = some (.tuple [I n, I e], G') := by
  have g0 : ([v, I fr] ++ List.replicate (18 - [v, I fr].length) undefA).length = 18 := by simp
  have g1 : ([v, I fr] ++ List.replicate (18 - [v, I fr].length) undefA).getD 0 undefA = v := rfl
  have g2 : ([v, I fr] ++ List.replicate (18 - [v, I fr].length) undefA).getD 1 undefA = I fr := rfl
  rw [fe30]
  generalize [v, I fr] ++ List.replicate (18 - [v, I fr].length) undefA = tm at *
  simp -implicitDefEqProofs only [c30, Try.f30, Option.getD_some, g0, g1, g2, h, ↓fc53, ↓ld3, ↓st3, z3, boolOf_undef, nb, ↓aop_lookup, ↓aop_makeFunc, ↓aop_makeMap, ↓aop_mapUpdate, ↓aop_buildSlice, ↓aop_extract, ↓EvC_seq, ↓EvC_skip, ↓EvC_exit, ↓EvC_ret, ↓EvC_block, ↓EvC_cond, ↓ev_region, ↓runL_cons, ↓runL_nil, ↓stepO_none, ↓stepO_guard, ↓aop_move, ↓aop_assign, ↓aop_load, ↓aop_store, ↓aop_alloc, ↓aop_box, ↓aop_nilCheck, ↓aop_fieldAddr, ↓aop_field, ↓aop_indexAddr, ↓aop_binOp, ↓aop_pick, ↓aop_extract, ↓aop_buildSlice, ↓aop_slice, ↓aop_not, ↓aop_call, ↓callA_len, ↓callA_append, ev_tmp, ev_const, ofV_int, ofV_bool, ofV_str, ofV_nilSlice, ofV_nilPtr, putA_some, putA_none, gs_self, gs_ne, List.length_set, Option.bind_some, Option.map_some, intBinA, evL, evO, evP, ne_eq, not_false_eq_true, if_true, if_false, reduceCtorEq, ite_true, ite_false, reduceIte, put_app, AV.cells, and_true, true_and, and_self, decide_true, decide_false, ↓yielded_eq, yv_some, boolOf_bool, List.getElem?_toArray, List.getElem?_cons_zero, List.getElem?_cons_succ, Nat.reduceLT, Nat.reduceEqDiff, beq_self_eq_true, Option.some_beq_some, wr_app, wr_app0, rd_app, rd_app0, rdL_here, rdL_next, wrL_here, wrL_next, spl, List.all_cons, List.all_nil, AV.one, Bool.and_self, Bool.true_and, List.drop_zero, List.take_succ_cons, List.take_zero, List.drop_succ_cons, List.head?_cons, Nat.reduceAdd, Nat.reduceLeDiff, List.length_cons, List.length_nil, List.nil_append, List.cons_append, List.set_cons_zero, List.set_cons_succ, Int.toNat_natCast, Nat.add_zero, b_ft, b_tf, Bool.false_eq_true]
theorem held_of {G G' G'' : AH} {v hv : AV} {fr n e : Int} (h : Ev Try.prog C0 53 [v, I fr] G = some (.tuple [hv, I n, I e], G')) (hs : Ev Try.prog C0 62 [hv] G' = some (.tuple [], G'')) : Ev Try.prog C0 40 [v, I fr] G = some (.tuple [hv, I e], G'') := by
  have g0 : ([v, I fr] ++ List.replicate (20 - [v, I fr].length) undefA).length = 20 := by simp
  have g1 : ([v, I fr] ++ List.replicate (20 - [v, I fr].length) undefA).getD 0 undefA = v := rfl
  have g2 : ([v, I fr] ++ List.replicate (20 - [v, I fr].length) undefA).getD 1 undefA = I fr := rfl
  rw [fe40]
  generalize [v, I fr] ++ List.replicate (20 - [v, I fr].length) undefA = tm at *
  simp -implicitDefEqProofs only [c40, Try.f40, Option.getD_some, g0, g1, g2, h, hs, ↓fc53, ↓fc62, ↓ld3, ↓st3, z3, boolOf_undef, nb, ↓aop_lookup, ↓aop_makeFunc, ↓aop_makeMap, ↓aop_mapUpdate, ↓aop_buildSlice, ↓aop_extract, ↓EvC_seq, ↓EvC_skip, ↓EvC_exit, ↓EvC_ret, ↓EvC_block, ↓EvC_cond, ↓ev_region, ↓runL_cons, ↓runL_nil, ↓stepO_none, ↓stepO_guard, ↓aop_move, ↓aop_assign, ↓aop_load, ↓aop_store, ↓aop_alloc, ↓aop_box, ↓aop_nilCheck, ↓aop_fieldAddr, ↓aop_field, ↓aop_indexAddr, ↓aop_binOp, ↓aop_pick, ↓aop_extract, ↓aop_buildSlice, ↓aop_slice, ↓aop_not, ↓aop_call, ↓callA_len, ↓callA_append, ev_tmp, ev_const, ofV_int, ofV_bool, ofV_str, ofV_nilSlice, ofV_nilPtr, putA_some, putA_none, gs_self, gs_ne, List.length_set, Option.bind_some, Option.map_some, intBinA, evL, evO, evP, ne_eq, not_false_eq_true, if_true, if_false, reduceCtorEq, ite_true, ite_false, reduceIte, put_app, AV.cells, and_true, true_and, and_self, decide_true, decide_false, ↓yielded_eq, yv_some, boolOf_bool, List.getElem?_toArray, List.getElem?_cons_zero, List.getElem?_cons_succ, Nat.reduceLT, Nat.reduceEqDiff, beq_self_eq_true, Option.some_beq_some, wr_app, wr_app0, rd_app, rd_app0, rdL_here, rdL_next, wrL_here, wrL_next, spl, List.all_cons, List.all_nil, AV.one, Bool.and_self, Bool.true_and, List.drop_zero, List.take_succ_cons, List.take_zero, List.drop_succ_cons, List.head?_cons, Nat.reduceAdd, Nat.reduceLeDiff, List.length_cons, List.length_nil, List.nil_append, List.cons_append, List.set_cons_zero, List.set_cons_succ, Int.toNat_natCast, Nat.add_zero, b_ft, b_tf, Bool.false_eq_true]
/-- what bad says -/
def badS (fr : Int) (n : Nat) : Int := if badF fr = true then 6 else if n > 4000 then 5 else 0
theorem bad_ev {G : AH} {v : AV} {fr : Int} {t : List Int} (hv : IntS G v t) : Ev Try.prog C0 28 [v, I fr] G = some (I (badS fr t.length), G) := by
  have hla := hv.len
  unfold badS badF
  have g0 : ([v, I fr] ++ List.replicate (16 - [v, I fr].length) undefA).length = 16 := by simp
  have g1 : ([v, I fr] ++ List.replicate (16 - [v, I fr].length) undefA).getD 0 undefA = v := rfl
  have g2 : ([v, I fr] ++ List.replicate (16 - [v, I fr].length) undefA).getD 1 undefA = I fr := rfl
  rw [fe28]
  generalize [v, I fr] ++ List.replicate (16 - [v, I fr].length) undefA = tm at *
  cases q0 : decide (fr < 1)
  · cases q1 : decide (fr > 64)
    · cases q2 : decide ((t.length : Int) > 4000)
      · have q3 : ¬ t.length > 4000 := by simp at q2; omega
        simp -implicitDefEqProofs only [c28, Try.f28, Option.getD_some, g0, g1, g2, q0, q1, q2, q3, hla, Bool.or_self, ↓ld3, ↓st3, z3, boolOf_undef, nb, ↓aop_lookup, ↓aop_makeFunc, ↓aop_makeMap, ↓aop_mapUpdate, ↓aop_buildSlice, ↓aop_extract, ↓EvC_seq, ↓EvC_skip, ↓EvC_exit, ↓EvC_ret, ↓EvC_block, ↓EvC_cond, ↓ev_region, ↓runL_cons, ↓runL_nil, ↓stepO_none, ↓stepO_guard, ↓aop_move, ↓aop_assign, ↓aop_load, ↓aop_store, ↓aop_alloc, ↓aop_box, ↓aop_nilCheck, ↓aop_fieldAddr, ↓aop_field, ↓aop_indexAddr, ↓aop_binOp, ↓aop_pick, ↓aop_extract, ↓aop_buildSlice, ↓aop_slice, ↓aop_not, ↓aop_call, ↓callA_len, ↓callA_append, ev_tmp, ev_const, ofV_int, ofV_bool, ofV_str, ofV_nilSlice, ofV_nilPtr, putA_some, putA_none, gs_self, gs_ne, List.length_set, Option.bind_some, Option.map_some, intBinA, evL, evO, evP, ne_eq, not_false_eq_true, if_true, if_false, reduceCtorEq, ite_true, ite_false, reduceIte, put_app, AV.cells, and_true, true_and, and_self, decide_true, decide_false, ↓yielded_eq, yv_some, boolOf_bool, List.getElem?_toArray, List.getElem?_cons_zero, List.getElem?_cons_succ, Nat.reduceLT, Nat.reduceEqDiff, beq_self_eq_true, Option.some_beq_some, wr_app, wr_app0, rd_app, rd_app0, rdL_here, rdL_next, wrL_here, wrL_next, spl, List.all_cons, List.all_nil, AV.one, Bool.and_self, Bool.true_and, List.drop_zero, List.take_succ_cons, List.take_zero, List.drop_succ_cons, List.head?_cons, Nat.reduceAdd, Nat.reduceLeDiff, List.length_cons, List.length_nil, List.nil_append, List.cons_append, List.set_cons_zero, List.set_cons_succ, Int.toNat_natCast, Nat.add_zero, b_ft, b_tf, Bool.false_eq_true]
      · have q3 : t.length > 4000 := by simp at q2; omega
        simp -implicitDefEqProofs only [c28, Try.f28, Option.getD_some, g0, g1, g2, q0, q1, q2, q3, hla, Bool.or_self, ↓ld3, ↓st3, z3, boolOf_undef, nb, ↓aop_lookup, ↓aop_makeFunc, ↓aop_makeMap, ↓aop_mapUpdate, ↓aop_buildSlice, ↓aop_extract, ↓EvC_seq, ↓EvC_skip, ↓EvC_exit, ↓EvC_ret, ↓EvC_block, ↓EvC_cond, ↓ev_region, ↓runL_cons, ↓runL_nil, ↓stepO_none, ↓stepO_guard, ↓aop_move, ↓aop_assign, ↓aop_load, ↓aop_store, ↓aop_alloc, ↓aop_box, ↓aop_nilCheck, ↓aop_fieldAddr, ↓aop_field, ↓aop_indexAddr, ↓aop_binOp, ↓aop_pick, ↓aop_extract, ↓aop_buildSlice, ↓aop_slice, ↓aop_not, ↓aop_call, ↓callA_len, ↓callA_append, ev_tmp, ev_const, ofV_int, ofV_bool, ofV_str, ofV_nilSlice, ofV_nilPtr, putA_some, putA_none, gs_self, gs_ne, List.length_set, Option.bind_some, Option.map_some, intBinA, evL, evO, evP, ne_eq, not_false_eq_true, if_true, if_false, reduceCtorEq, ite_true, ite_false, reduceIte, put_app, AV.cells, and_true, true_and, and_self, decide_true, decide_false, ↓yielded_eq, yv_some, boolOf_bool, List.getElem?_toArray, List.getElem?_cons_zero, List.getElem?_cons_succ, Nat.reduceLT, Nat.reduceEqDiff, beq_self_eq_true, Option.some_beq_some, wr_app, wr_app0, rd_app, rd_app0, rdL_here, rdL_next, wrL_here, wrL_next, spl, List.all_cons, List.all_nil, AV.one, Bool.and_self, Bool.true_and, List.drop_zero, List.take_succ_cons, List.take_zero, List.drop_succ_cons, List.head?_cons, Nat.reduceAdd, Nat.reduceLeDiff, List.length_cons, List.length_nil, List.nil_append, List.cons_append, List.set_cons_zero, List.set_cons_succ, Int.toNat_natCast, Nat.add_zero, b_ft, b_tf, Bool.false_eq_true]
    · simp -implicitDefEqProofs only [c28, Try.f28, Option.getD_some, g0, g1, g2, q0, q1, hla, Bool.or_true, ↓ld3, ↓st3, z3, boolOf_undef, nb, ↓aop_lookup, ↓aop_makeFunc, ↓aop_makeMap, ↓aop_mapUpdate, ↓aop_buildSlice, ↓aop_extract, ↓EvC_seq, ↓EvC_skip, ↓EvC_exit, ↓EvC_ret, ↓EvC_block, ↓EvC_cond, ↓ev_region, ↓runL_cons, ↓runL_nil, ↓stepO_none, ↓stepO_guard, ↓aop_move, ↓aop_assign, ↓aop_load, ↓aop_store, ↓aop_alloc, ↓aop_box, ↓aop_nilCheck, ↓aop_fieldAddr, ↓aop_field, ↓aop_indexAddr, ↓aop_binOp, ↓aop_pick, ↓aop_extract, ↓aop_buildSlice, ↓aop_slice, ↓aop_not, ↓aop_call, ↓callA_len, ↓callA_append, ev_tmp, ev_const, ofV_int, ofV_bool, ofV_str, ofV_nilSlice, ofV_nilPtr, putA_some, putA_none, gs_self, gs_ne, List.length_set, Option.bind_some, Option.map_some, intBinA, evL, evO, evP, ne_eq, not_false_eq_true, if_true, if_false, reduceCtorEq, ite_true, ite_false, reduceIte, put_app, AV.cells, and_true, true_and, and_self, decide_true, decide_false, ↓yielded_eq, yv_some, boolOf_bool, List.getElem?_toArray, List.getElem?_cons_zero, List.getElem?_cons_succ, Nat.reduceLT, Nat.reduceEqDiff, beq_self_eq_true, Option.some_beq_some, wr_app, wr_app0, rd_app, rd_app0, rdL_here, rdL_next, wrL_here, wrL_next, spl, List.all_cons, List.all_nil, AV.one, Bool.and_self, Bool.true_and, List.drop_zero, List.take_succ_cons, List.take_zero, List.drop_succ_cons, List.head?_cons, Nat.reduceAdd, Nat.reduceLeDiff, List.length_cons, List.length_nil, List.nil_append, List.cons_append, List.set_cons_zero, List.set_cons_succ, Int.toNat_natCast, Nat.add_zero, b_ft, b_tf, Bool.false_eq_true]
  · simp -implicitDefEqProofs only [c28, Try.f28, Option.getD_some, g0, g1, g2, q0, hla, Bool.true_or, ↓ld3, ↓st3, z3, boolOf_undef, nb, ↓aop_lookup, ↓aop_makeFunc, ↓aop_makeMap, ↓aop_mapUpdate, ↓aop_buildSlice, ↓aop_extract, ↓EvC_seq, ↓EvC_skip, ↓EvC_exit, ↓EvC_ret, ↓EvC_block, ↓EvC_cond, ↓ev_region, ↓runL_cons, ↓runL_nil, ↓stepO_none, ↓stepO_guard, ↓aop_move, ↓aop_assign, ↓aop_load, ↓aop_store, ↓aop_alloc, ↓aop_box, ↓aop_nilCheck, ↓aop_fieldAddr, ↓aop_field, ↓aop_indexAddr, ↓aop_binOp, ↓aop_pick, ↓aop_extract, ↓aop_buildSlice, ↓aop_slice, ↓aop_not, ↓aop_call, ↓callA_len, ↓callA_append, ev_tmp, ev_const, ofV_int, ofV_bool, ofV_str, ofV_nilSlice, ofV_nilPtr, putA_some, putA_none, gs_self, gs_ne, List.length_set, Option.bind_some, Option.map_some, intBinA, evL, evO, evP, ne_eq, not_false_eq_true, if_true, if_false, reduceCtorEq, ite_true, ite_false, reduceIte, put_app, AV.cells, and_true, true_and, and_self, decide_true, decide_false, ↓yielded_eq, yv_some, boolOf_bool, List.getElem?_toArray, List.getElem?_cons_zero, List.getElem?_cons_succ, Nat.reduceLT, Nat.reduceEqDiff, beq_self_eq_true, Option.some_beq_some, wr_app, wr_app0, rd_app, rd_app0, rdL_here, rdL_next, wrL_here, wrL_next, spl, List.all_cons, List.all_nil, AV.one, Bool.and_self, Bool.true_and, List.drop_zero, List.take_succ_cons, List.take_zero, List.drop_succ_cons, List.head?_cons, Nat.reduceAdd, Nat.reduceLeDiff, List.length_cons, List.length_nil, List.nil_append, List.cons_append, List.set_cons_zero, List.set_cons_succ, Int.toNat_natCast, Nat.add_zero, b_ft, b_tf, Bool.false_eq_true]
end Go.Dv
