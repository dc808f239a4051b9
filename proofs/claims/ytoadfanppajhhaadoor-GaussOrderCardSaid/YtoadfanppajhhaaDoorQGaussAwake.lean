import Derived.Test.YtoadfanppajhhaaDoorQGaussText
import Derived.Test.YtoadfanppajhhaaDoorP2
/- The probes of layer 14. -/
namespace Go.Proofs.YtoadfanppajhhaaDoor.Pure
open Go.RowKit Go.Proofs.YtoadfanppajhhaaDoor.P Go.Proofs.YtoadfanppajhhaaDoorW.PrintWords Go.Proofs.YtoadfanppajhhaaDoorW.PrintLast
set_option maxRecDepth 100000
theorem awake14_ev : Ev (fun k => toponymlaw14_awake.f k) true := by
 refine Ev.of toponymlaw14_awake.mono (k := 60) ?_
 decide +kernel
theorem fin14 : Ev (fun k => (toponymlaw14_awake.f k).bind fun t => some t) true := Ev.bind awake14_ev (Ev.now _)
end Go.Proofs.YtoadfanppajhhaaDoor.Pure
