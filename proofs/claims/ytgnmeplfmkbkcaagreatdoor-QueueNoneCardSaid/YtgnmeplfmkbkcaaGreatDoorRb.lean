/- The second level's configuration and runs (printed by ents.py, own work). -/
import Derived.Test.YtgnmeplfmkbkcaaGreatDoorRa0
import Derived.Test.YtgnmeplfmkbkcaaGreatDoorRa1
import Derived.Test.YtgnmeplfmkbkcaaGreatDoorRa2
import Derived.Test.YtgnmeplfmkbkcaaGreatDoorRa3
namespace Go.Dv
open Go.Proofs
set_option maxRecDepth 1000000
def es1 : List Ent := [e2, e3, e4, e6, e7, e8, e9, e11, e12, e13, e14, e16, e17, e18, e19, e21, e22, e23, e24, e26, e27, e28, e29, e30, e31, e32, e33, e34, e35, e36]
theorem es1_ok : ∀ e ∈ es1, ∃ n G, Forgot e.H G ∧ evCall Tryz.prog K0 WQ n e.f e.args G = some (e.v, e.H') := by
  intro e he
  simp only [es1, List.mem_cons, List.not_mem_nil, or_false] at he
  rcases he with rfl | rfl | rfl | rfl | rfl | rfl | rfl | rfl | rfl | rfl | rfl | rfl | rfl | rfl | rfl | rfl | rfl | rfl | rfl | rfl | rfl | rfl | rfl | rfl | rfl | rfl | rfl | rfl | rfl | rfl
  · exact ⟨60, _, Forgot.refl _, run2⟩
  · exact ⟨60, _, Forgot.refl _, run3⟩
  · exact ⟨60, _, Forgot.refl _, run4⟩
  · exact ⟨60, _, Forgot.refl _, run6⟩
  · exact ⟨60, _, Forgot.refl _, run7⟩
  · exact ⟨60, _, Forgot.refl _, run8⟩
  · exact ⟨60, _, Forgot.refl _, run9⟩
  · exact ⟨60, _, Forgot.refl _, run11⟩
  · exact ⟨60, _, Forgot.refl _, run12⟩
  · exact ⟨60, _, Forgot.refl _, run13⟩
  · exact ⟨60, _, Forgot.refl _, run14⟩
  · exact ⟨60, _, Forgot.refl _, run16⟩
  · exact ⟨60, _, Forgot.refl _, run17⟩
  · exact ⟨60, _, Forgot.refl _, run18⟩
  · exact ⟨60, _, Forgot.refl _, run19⟩
  · exact ⟨60, _, Forgot.refl _, run21⟩
  · exact ⟨60, _, Forgot.refl _, run22⟩
  · exact ⟨60, _, Forgot.refl _, run23⟩
  · exact ⟨60, _, Forgot.refl _, run24⟩
  · exact ⟨60, _, Forgot.refl _, run26⟩
  · exact ⟨60, _, keepOnly_forgot _ _, run27⟩
  · exact ⟨60, _, Forgot.refl _, run28⟩
  · exact ⟨60, _, Forgot.refl _, run29⟩
  · exact ⟨60, _, Forgot.refl _, run30⟩
  · exact ⟨60, _, Forgot.refl _, run31⟩
  · exact ⟨60, _, Forgot.refl _, run32⟩
  · exact ⟨60, _, Forgot.refl _, run33⟩
  · exact ⟨60, _, Forgot.refl _, run34⟩
  · exact ⟨60, _, Forgot.refl _, run35⟩
  · exact ⟨60, _, Forgot.refl _, run36⟩
noncomputable def K1 : Cfg Tryz.prog := KT (tabOrc es1) (tabOrc_ok (C := K0) rfl rfl es1_ok)
theorem run1 : evCall Tryz.prog K1 WQ 60 e1.f e1.args e1.H = some (e1.v, e1.H') := by kernel_rfl
theorem run5 : evCall Tryz.prog K1 WQ 60 e5.f e5.args e5.H = some (e5.v, e5.H') := by kernel_rfl
theorem run10 : evCall Tryz.prog K1 WQ 60 e10.f e10.args e10.H = some (e10.v, e10.H') := by kernel_rfl
theorem run15 : evCall Tryz.prog K1 WQ 60 e15.f e15.args e15.H = some (e15.v, e15.H') := by kernel_rfl
theorem run20 : evCall Tryz.prog K1 WQ 60 e20.f e20.args e20.H = some (e20.v, e20.H') := by kernel_rfl
def es2 : List Ent := [e1, e5, e10, e15, e20]
theorem es2_ok : ∀ e ∈ es2, ∃ n G, Forgot e.H G ∧ evCall Tryz.prog K1 WQ n e.f e.args G = some (e.v, e.H') := by
  intro e he
  simp only [es2, List.mem_cons, List.not_mem_nil, or_false] at he
  rcases he with rfl | rfl | rfl | rfl | rfl
  · exact ⟨60, _, Forgot.refl _, run1⟩
  · exact ⟨60, _, Forgot.refl _, run5⟩
  · exact ⟨60, _, Forgot.refl _, run10⟩
  · exact ⟨60, _, Forgot.refl _, run15⟩
  · exact ⟨60, _, Forgot.refl _, run20⟩
noncomputable def K2 : Cfg Tryz.prog := KT (orElse (tabOrc es2) (tabOrc es1)) (fun w0 Pr => orElse_ok (tabOrc_ok (C := K1) rfl rfl es2_ok w0 Pr) (tabOrc_ok (C := K0) rfl rfl es1_ok w0 Pr))
theorem run0 : evCall Tryz.prog K2 WQ 60 e0.f e0.args e0.H = some (e0.v, e0.H') := by kernel_rfl
theorem run25 : evCall Tryz.prog K2 WQ 60 e25.f e25.args e25.H = some (e25.v, e25.H') := by kernel_rfl
def es3 : List Ent := [e0, e25]
theorem es3_ok : ∀ e ∈ es3, ∃ n G, Forgot e.H G ∧ evCall Tryz.prog K2 WQ n e.f e.args G = some (e.v, e.H') := by
  intro e he
  simp only [es3, List.mem_cons, List.not_mem_nil, or_false] at he
  rcases he with rfl | rfl
  · exact ⟨60, _, Forgot.refl _, run0⟩
  · exact ⟨60, _, Forgot.refl _, run25⟩
noncomputable def K3 : Cfg Tryz.prog := KT (orElse (tabOrc es3) (tabOrc es1)) (fun w0 Pr => orElse_ok (tabOrc_ok (C := K2) rfl rfl es3_ok w0 Pr) (tabOrc_ok (C := K0) rfl rfl es1_ok w0 Pr))
theorem awake_run : saysTrue Tryz.prog K3 WQ [] 60 12 [] = true := by kernel_rfl
theorem starts3 : Starts K3 [] := fun w0 Pr φ H w _ hW => ⟨_, WR.start w, (by intro g i h; cases h), trivial⟩
noncomputable def K4 : Cfg Tryz.prog := KT (trueOrc [12]) (fun w0 Pr => trueOrc_ok (n := 60) (Wy := WQ) starts3 (by simp only [List.all_cons, List.all_nil, Bool.and_true]; exact awake_run) _ w0 Pr trivial)
theorem law_run : saysTrue Tryz.prog K4 WQ [] 60 3 [.junk] = true := by kernel_rfl
end Go.Dv
