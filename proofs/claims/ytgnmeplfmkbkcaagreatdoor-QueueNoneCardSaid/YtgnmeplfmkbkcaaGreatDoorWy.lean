/- The ways of the regions of any order that the law's run comes to (printed by wayst.py, own work). -/
import Derived.Test.YtgnmeplfmkbkcaaGreatDoorRk0
import Derived.Test.YtgnmeplfmkbkcaaGreatDoorRk1
import Derived.Test.YtgnmeplfmkbkcaaGreatDoorRk2
import Derived.Test.YtgnmeplfmkbkcaaGreatDoorRk3
import Derived.Test.YtgnmeplfmkbkcaaGreatDoorRk4
import Derived.Test.YtgnmeplfmkbkcaaGreatDoorRk5
import Derived.Test.YtgnmeplfmkbkcaaGreatDoorRk6
import Derived.Test.YtgnmeplfmkbkcaaGreatDoorRk7
namespace Go.Dv
open Go.Proofs
set_option maxRecDepth 1000000
def kl10 : List (St × St) := [k0, k1, k4, k5]
theorem klok10 : waySure Tryz.prog ops30_10 (.known p30_10 kl10) := by
  intro e he C call
  simp only [kl10, List.mem_cons, List.not_mem_nil, or_false] at he
  rcases he with rfl | rfl | rfl | rfl
  · exact rk0 C call
  · exact rk1 C call
  · exact rk4 C call
  · exact rk5 C call
def kl12 : List (St × St) := [k2, k6]
theorem klok12 : waySure Tryz.prog ops30_12 (.known p30_12 kl12) := by
  intro e he C call
  simp only [kl12, List.mem_cons, List.not_mem_nil, or_false] at he
  rcases he with rfl | rfl
  · exact rk2 C call
  · exact rk6 C call
def kl14 : List (St × St) := [k3]
theorem klok14 : waySure Tryz.prog ops30_14 (.known p30_14 kl14) := by
  intro e he C call
  simp only [kl14, List.mem_cons, List.not_mem_nil, or_false] at he
  rcases he with rfl
  · exact rk3 C call
def kl22 : List (St × St) := [k7]
theorem klok22 : waySure Tryz.prog ops30_22 (.known p30_22 kl22) := by
  intro e he C call
  simp only [kl22, List.mem_cons, List.not_mem_nil, or_false] at he
  rcases he with rfl
  · exact rk7 C call

def pl4 (r : Nat) : Option Way := if r = 8 then some (.plan p4_8) else if r = 15 then some (.tail 16) else if r = 17 then some (.reads) else if r = 20 then some (.tail 12) else if r = 23 then some (.tail 6) else none
theorem wok4 : waysOk pl4 (Tryz.f4.body.getD .skip) = true := by kernel_rfl
def pl8 (r : Nat) : Option Way := if r = 8 then some (.reads) else none
theorem wok8 : waysOk pl8 (Tryz.f8.body.getD .skip) = true := by kernel_rfl
def pl22 (r : Nat) : Option Way := if r = 6 then some (.reads) else if r = 11 then some (.reads) else none
theorem wok22 : waysOk pl22 (Tryz.f22.body.getD .skip) = true := by kernel_rfl
def pl27 (r : Nat) : Option Way := if r = 4 then some (.plan p27_4) else none
theorem wok27 : waysOk pl27 (Tryz.f27.body.getD .skip) = true := by kernel_rfl
def pl30 (r : Nat) : Option Way := if r = 10 then some (.known p30_10 kl10) else if r = 12 then some (.known p30_12 kl12) else if r = 14 then some (.known p30_14 kl14) else if r = 22 then some (.known p30_22 kl22) else none
theorem wok30 : waysOk pl30 (Tryz.f30.body.getD .skip) = true := by kernel_rfl
def pl53 (r : Nat) : Option Way := if r = 9 then some (.plan p53_9) else if r = 10 then some (.mix p53_10 11) else if r = 12 then some (.plan p53_12) else none
theorem wok53 : waysOk pl53 (Tryz.f53.body.getD .skip) = true := by kernel_rfl
def pl57 (r : Nat) : Option Way := if r = 11 then some (.plan p57_11) else if r = 13 then some (.plan p57_13) else none
theorem wok57 : waysOk pl57 (Tryz.f57.body.getD .skip) = true := by kernel_rfl
def drawsOf : Code → List (Nat × Array Oper)
  | .region id ops true => [(id, ops)]
  | .seq a b => drawsOf a ++ drawsOf b
  | .cond _ a b => drawsOf a ++ drawsOf b
  | .block _ b => drawsOf b
  | .loop b => drawsOf b
  | _ => []
def sureL (P : Program) (pl : Nat → Option Way) : List (Nat × Array Oper) → Prop
  | [] => True
  | (id, ops) :: l => (match pl id with
    | some w => waySure P ops w
    | none => True) ∧ sureL P pl l
theorem sureL_app (P : Program) (pl : Nat → Option Way) : ∀ (l m : List (Nat × Array Oper)), sureL P pl (l ++ m) → sureL P pl l ∧ sureL P pl m
  | [], _, h => ⟨trivial, h⟩
  | (id, ops) :: l, m, h => by
    have := sureL_app P pl l m h.2
    exact ⟨⟨h.1, this.1⟩, this.2⟩
theorem sure_of (P : Program) (pl : Nat → Option Way) : ∀ c : Code, sureL P pl (drawsOf c) → waysSure P pl c
  | .region _ _ true, h => h.1
  | .region _ _ false, _ => trivial
  | .seq a b, h => by have := sureL_app P pl _ _ h; exact ⟨sure_of P pl a this.1, sure_of P pl b this.2⟩
  | .cond _ x y, h => by have := sureL_app P pl _ _ h; exact ⟨sure_of P pl x this.1, sure_of P pl y this.2⟩
  | .block _ b, h => sure_of P pl b h
  | .loop b, h => sure_of P pl b h
  | .skip, _ => trivial
  | .exit _, _ => trivial
  | .ret, _ => trivial
  | .rangeFunc .., _ => trivial
  | .scope _, _ => trivial
  | .label _, _ => trivial
  | .goto _, _ => trivial
  | .refuse _, _ => trivial
/-- no known region is among the ways -/
def plain (pl : Nat → Option Way) : Prop := ∀ id p l, pl id ≠ some (.known p l)
theorem sure_plain {P : Program} {pl : Nat → Option Way} (h : plain pl) : ∀ l : List (Nat × Array Oper), sureL P pl l
  | [] => trivial
  | (id, ops) :: l => by
    refine ⟨?_, sure_plain h l⟩
    split
    · rename_i w hw
      cases w <;> first | trivial | exact absurd hw (h _ _ _)
    · trivial
theorem waysOk_none : ∀ c : Code, waysOk (fun _ => none) c = true
  | .region _ _ true => rfl
  | .region _ _ false => rfl
  | .seq a b => by simp only [waysOk, waysOk_none a, waysOk_none b]; rfl
  | .cond _ x y => by simp only [waysOk, waysOk_none x, waysOk_none y]; rfl
  | .block _ b => by simp only [waysOk, waysOk_none b]
  | .loop b => by simp only [waysOk, waysOk_none b]
  | .skip => rfl
  | .exit _ => rfl
  | .ret => rfl
  | .rangeFunc .. => rfl
  | .scope _ => rfl
  | .label _ => rfl
  | .goto _ => rfl
  | .refuse _ => rfl
theorem plain4 : plain pl4 := by
  intro id p l h
  unfold pl4 at h
  repeat' (split at h; (cases h))
  cases h
theorem plain8 : plain pl8 := by
  intro id p l h
  unfold pl8 at h
  repeat' (split at h; (cases h))
  cases h
theorem plain22 : plain pl22 := by
  intro id p l h
  unfold pl22 at h
  repeat' (split at h; (cases h))
  cases h
theorem plain27 : plain pl27 := by
  intro id p l h
  unfold pl27 at h
  repeat' (split at h; (cases h))
  cases h
theorem plain53 : plain pl53 := by
  intro id p l h
  unfold pl53 at h
  repeat' (split at h; (cases h))
  cases h
theorem plain57 : plain pl57 := by
  intro id p l h
  unfold pl57 at h
  repeat' (split at h; (cases h))
  cases h
theorem sure30 : sureL Tryz.prog pl30 (drawsOf (Tryz.f30.body.getD .skip)) := ⟨klok10, klok12, klok14, klok22, trivial⟩
def plQ (f : FuncId) : Nat → Option Way := if f = 4 then pl4 else if f = 8 then pl8 else if f = 22 then pl22 else if f = 27 then pl27 else if f = 30 then pl30 else if f = 53 then pl53 else if f = 57 then pl57 else fun _ => none
theorem plQ_ok (f : FuncId) (fn : Func) (c : Code) (hf : Tryz.prog.funcs[f]? = some fn) (hc : fn.body = some c) : waysOk (plQ f) c = true ∧ waysSure Tryz.prog (plQ f) c := by
  unfold plQ
  split
  · rename_i h; subst h
    obtain rfl := Option.some.inj (Tryz.func4.symm.trans hf)
    have := wok4
    rw [hc] at this; exact ⟨this, sure_of _ _ _ (sure_plain plain4 _)⟩
  split
  · rename_i h; subst h
    obtain rfl := Option.some.inj (Tryz.func8.symm.trans hf)
    have := wok8
    rw [hc] at this; exact ⟨this, sure_of _ _ _ (sure_plain plain8 _)⟩
  split
  · rename_i h; subst h
    obtain rfl := Option.some.inj (Tryz.func22.symm.trans hf)
    have := wok22
    rw [hc] at this; exact ⟨this, sure_of _ _ _ (sure_plain plain22 _)⟩
  split
  · rename_i h; subst h
    obtain rfl := Option.some.inj (Tryz.func27.symm.trans hf)
    have := wok27
    rw [hc] at this; exact ⟨this, sure_of _ _ _ (sure_plain plain27 _)⟩
  split
  · rename_i h; subst h
    obtain rfl := Option.some.inj (Tryz.func30.symm.trans hf)
    have := wok30
    rw [hc] at this; exact ⟨this, by have := sure_of _ _ _ sure30; rw [hc] at this; exact this⟩
  split
  · rename_i h; subst h
    obtain rfl := Option.some.inj (Tryz.func53.symm.trans hf)
    have := wok53
    rw [hc] at this; exact ⟨this, sure_of _ _ _ (sure_plain plain53 _)⟩
  split
  · rename_i h; subst h
    obtain rfl := Option.some.inj (Tryz.func57.symm.trans hf)
    have := wok57
    rw [hc] at this; exact ⟨this, sure_of _ _ _ (sure_plain plain57 _)⟩
  exact ⟨waysOk_none c, sure_of _ _ _ (sure_plain (by intro _ _ _ h; cases h) _)⟩
noncomputable def WQ : Ways Tryz.prog := ⟨plQ, plQ_ok⟩
end Go.Dv
