/- A region's run from a known state (printed by ents.py, own work). -/
import Derived.Test.YtgnmeplfmkbkcaaGreatDoorHp
namespace Go.Dv
open Go.Proofs
set_option maxRecDepth 1000000
theorem rk7 (C : Cfg Tryz.prog) (call : CallF) : runPlan Tryz.prog C call k7.1.2.length ops30_22 p30_22 (k7.1.1, if ops30_22.any (allocates ·.op) then k7.1.2 ++ List.replicate ops30_22.size .fresh else k7.1.2) = some k7.2 := by kernel_rfl
end Go.Dv
