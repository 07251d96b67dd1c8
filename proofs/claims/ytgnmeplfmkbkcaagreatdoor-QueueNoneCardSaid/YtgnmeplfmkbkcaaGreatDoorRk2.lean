/- A region's run from a known state (printed by ents.py, own work). -/
import Derived.Test.YtgnmeplfmkbkcaaGreatDoorHp
namespace Go.Dv
open Go.Proofs
set_option maxRecDepth 1000000
theorem rk2 (C : Cfg Tryz.prog) (call : CallF) : runPlan Tryz.prog C call k2.1.2.length ops30_12 p30_12 (k2.1.1, if ops30_12.any (allocates ·.op) then k2.1.2 ++ List.replicate ops30_12.size .fresh else k2.1.2) = some k2.2 := by kernel_rfl
end Go.Dv
