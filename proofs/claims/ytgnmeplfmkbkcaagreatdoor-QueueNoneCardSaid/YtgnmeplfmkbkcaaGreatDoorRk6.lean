/- A region's run from a known state (printed by ents.py, own work). -/
import Derived.Test.YtgnmeplfmkbkcaaGreatDoorHp
namespace Go.Dv
open Go.Proofs
set_option maxRecDepth 1000000
theorem rk6 (C : Cfg Tryz.prog) (call : CallF) : runPlan Tryz.prog C call k6.1.2.length ops30_12 p30_12 (k6.1.1, if ops30_12.any (allocates ·.op) then k6.1.2 ++ List.replicate ops30_12.size .fresh else k6.1.2) = some k6.2 := by kernel_rfl
end Go.Dv
