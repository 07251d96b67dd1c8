/- Runs of the first level, part 2 (printed by ents.py, own work). -/
import Derived.Test.YtgnmeplfmkbkcaaGreatDoorEn
namespace Go.Dv
open Go.Proofs
set_option maxRecDepth 1000000
theorem run28 : evCall Tryz.prog K0 WQ 60 e28.f e28.args e28.H = some (e28.v, e28.H') := by kernel_rfl
theorem run29 : evCall Tryz.prog K0 WQ 60 e29.f e29.args e29.H = some (e29.v, e29.H') := by kernel_rfl
theorem run30 : evCall Tryz.prog K0 WQ 60 e30.f e30.args e30.H = some (e30.v, e30.H') := by kernel_rfl
theorem run31 : evCall Tryz.prog K0 WQ 60 e31.f e31.args e31.H = some (e31.v, e31.H') := by kernel_rfl
theorem run34 : evCall Tryz.prog K0 WQ 60 e34.f e34.args e34.H = some (e34.v, e34.H') := by kernel_rfl
theorem run35 : evCall Tryz.prog K0 WQ 60 e35.f e35.args e35.H = some (e35.v, e35.H') := by kernel_rfl
end Go.Dv
