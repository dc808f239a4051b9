import Derived.Test.YtoaikbfngeopgaaQUtfRef2
import Derived.Test.YtoaikbfngeopgaaQUtfAwake
import Derived.Test.YtoaikbfngeopgaaP3
/- UtfEncodes: any list of numbers of 32 bits (of at most 20000, as the statement has it) is laid by the program as by the reference, or refused; no condition. -/
namespace Go.Proofs.Ytoaikbfngeopgaa.Pure
open Go.RowKit Go.Proofs.Ytoaikbfngeopgaa.P Go.Proofs.YtoaikbfngeopgaaW.PrintWords Go.Proofs.YtoaikbfngeopgaaW.PrintLast
open Utf
theorem UtfEncodes : toponymlaw01_UtfEncodes.Pure := by
  intro l h1 h2 h3
  refine Ev.rounds ?_
  unfold toponymlaw01_UtfEncodes.f
  refine ev_ite (fun h => Ev.bind awake01_ev (Ev.now _)) (fun h => ?_)
  refine Ev.bind (encode_ev l (by omega)) (Ev.bind (rencode_ev l (by omega) (fun r hr => by have := wf32 (h3 r hr); omega)) ?_)
  exact ev_pos rfl (ev_pos rfl (Ev.bind awake01_ev (Ev.now _)))
end Go.Proofs.Ytoaikbfngeopgaa.Pure
