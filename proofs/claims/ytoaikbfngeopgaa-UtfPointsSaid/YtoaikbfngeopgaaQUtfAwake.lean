import Derived.Test.YtoaikbfngeopgaaQUtfEnc
import Derived.Test.YtoaikbfngeopgaaQSame
import Derived.Test.YtoaikbfngeopgaaP2
/- Layer 1 (utf): the probes. -/
namespace Go.Proofs.Ytoaikbfngeopgaa.Pure
open Go.RowKit Go.Proofs.Ytoaikbfngeopgaa.P Go.Proofs.YtoaikbfngeopgaaW.PrintWords Go.Proofs.YtoaikbfngeopgaaW.PrintLast
theorem awake01_ev : Ev (fun k => toponymlaw01_awake.f k) true := by
  refine Ev.of toponymlaw01_awake.mono (k := 30) ?_
  decide +kernel
end Go.Proofs.Ytoaikbfngeopgaa.Pure
