/- Runs of the first level, part 3 (printed by ents.py, own work). -/
import Derived.Test.YtgnmeplfmkbkcaaGreatDoorEn
namespace Go.Dv
open Go.Proofs
set_option maxRecDepth 1000000
theorem run27 : evCall Tryz.prog K0 WQ 60 e27.f e27.args (keepOnly [0,1,2,3,4,5,207,209,211] e27.H) = some (e27.v, e27.H') := by kernel_rfl
end Go.Dv
