/- A region's run from a known state (printed by ents.py, own work). -/
import Derived.Test.YtgnmeplfmkbkcaaGreatDoorHp
namespace Go.Dv
open Go.Proofs
set_option maxRecDepth 1000000
theorem rk1 (C : Cfg Tryz.prog) (call : CallF) : runPlan Tryz.prog C call k1.1.2.length ops30_10 p30_10 (k1.1.1, if ops30_10.any (allocates ·.op) then k1.1.2 ++ List.replicate ops30_10.size .fresh else k1.1.2) = some k1.2 := by kernel_rfl
end Go.Dv
