/- Runs of the first level, part 0 (printed by ents.py, own work). -/
import Derived.Test.YtgnmeplfmkbkcaaGreatDoorEn
namespace Go.Dv
open Go.Proofs
set_option maxRecDepth 1000000
theorem run3 : evCall Tryz.prog K0 WQ 60 e3.f e3.args e3.H = some (e3.v, e3.H') := by kernel_rfl
theorem run4 : evCall Tryz.prog K0 WQ 60 e4.f e4.args e4.H = some (e4.v, e4.H') := by kernel_rfl
theorem run6 : evCall Tryz.prog K0 WQ 60 e6.f e6.args e6.H = some (e6.v, e6.H') := by kernel_rfl
theorem run7 : evCall Tryz.prog K0 WQ 60 e7.f e7.args e7.H = some (e7.v, e7.H') := by kernel_rfl
theorem run8 : evCall Tryz.prog K0 WQ 60 e8.f e8.args e8.H = some (e8.v, e8.H') := by kernel_rfl
theorem run9 : evCall Tryz.prog K0 WQ 60 e9.f e9.args e9.H = some (e9.v, e9.H') := by kernel_rfl
theorem run11 : evCall Tryz.prog K0 WQ 60 e11.f e11.args e11.H = some (e11.v, e11.H') := by kernel_rfl
theorem run12 : evCall Tryz.prog K0 WQ 60 e12.f e12.args e12.H = some (e12.v, e12.H') := by kernel_rfl
theorem run13 : evCall Tryz.prog K0 WQ 60 e13.f e13.args e13.H = some (e13.v, e13.H') := by kernel_rfl
theorem run14 : evCall Tryz.prog K0 WQ 60 e14.f e14.args e14.H = some (e14.v, e14.H') := by kernel_rfl
theorem run16 : evCall Tryz.prog K0 WQ 60 e16.f e16.args e16.H = some (e16.v, e16.H') := by kernel_rfl
theorem run17 : evCall Tryz.prog K0 WQ 60 e17.f e17.args e17.H = some (e17.v, e17.H') := by kernel_rfl
theorem run18 : evCall Tryz.prog K0 WQ 60 e18.f e18.args e18.H = some (e18.v, e18.H') := by kernel_rfl
theorem run19 : evCall Tryz.prog K0 WQ 60 e19.f e19.args e19.H = some (e19.v, e19.H') := by kernel_rfl
theorem run21 : evCall Tryz.prog K0 WQ 60 e21.f e21.args e21.H = some (e21.v, e21.H') := by kernel_rfl
theorem run22 : evCall Tryz.prog K0 WQ 60 e22.f e22.args e22.H = some (e22.v, e22.H') := by kernel_rfl
theorem run23 : evCall Tryz.prog K0 WQ 60 e23.f e23.args e23.H = some (e23.v, e23.H') := by kernel_rfl
theorem run24 : evCall Tryz.prog K0 WQ 60 e24.f e24.args e24.H = some (e24.v, e24.H') := by kernel_rfl
end Go.Dv
