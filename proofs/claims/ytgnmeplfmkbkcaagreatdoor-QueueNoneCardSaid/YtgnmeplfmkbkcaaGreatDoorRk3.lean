/- A region's run from a known state (printed by ents.py, own work). -/
import Derived.Test.YtgnmeplfmkbkcaaGreatDoorHp
namespace Go.Dv
open Go.Proofs
set_option maxRecDepth 1000000
theorem rk3 (C : Cfg Tryz.prog) (call : CallF) : runPlan Tryz.prog C call k3.1.2.length ops30_14 p30_14 (k3.1.1, if ops30_14.any (allocates ·.op) then k3.1.2 ++ List.replicate ops30_14.size .fresh else k3.1.2) = some k3.2 := by kernel_rfl
end Go.Dv
