/- Runs of the first level, part 1 (printed by ents.py, own work). -/
import Derived.Test.YtgnmeplfmkbkcaaGreatDoorEn
namespace Go.Dv
open Go.Proofs
set_option maxRecDepth 1000000
theorem run2 : evCall Tryz.prog K0 WQ 60 e2.f e2.args e2.H = some (e2.v, e2.H') := by kernel_rfl
theorem run26 : evCall Tryz.prog K0 WQ 60 e26.f e26.args e26.H = some (e26.v, e26.H') := by kernel_rfl
theorem run32 : evCall Tryz.prog K0 WQ 60 e32.f e32.args e32.H = some (e32.v, e32.H') := by kernel_rfl
theorem run33 : evCall Tryz.prog K0 WQ 60 e33.f e33.args e33.H = some (e33.v, e33.H') := by kernel_rfl
theorem run36 : evCall Tryz.prog K0 WQ 60 e36.f e36.args e36.H = some (e36.v, e36.H') := by kernel_rfl
end Go.Dv
