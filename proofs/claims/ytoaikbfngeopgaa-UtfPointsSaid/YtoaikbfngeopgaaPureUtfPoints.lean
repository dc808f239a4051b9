import Derived.Test.YtoaikbfngeopgaaQUtfRef2
import Derived.Test.YtoaikbfngeopgaaQUtfAwake
import Derived.Test.YtoaikbfngeopgaaP3
/- UtfPoints: any number of 32 bits is a code point for the program just if it is for the reference, with as many bytes, and is laid so; no condition. -/
namespace Go.Proofs.Ytoaikbfngeopgaa.Pure
open Go.RowKit Go.Proofs.Ytoaikbfngeopgaa.P Go.Proofs.YtoaikbfngeopgaaW.PrintWords Go.Proofs.YtoaikbfngeopgaaW.PrintLast
open Utf
theorem UtfPoints : toponymlaw01_UtfPoints.Pure := by
  intro r hr
  refine Ev.rounds ?_
  have hw := wf32 hr
  unfold toponymlaw01_UtfPoints.f
  refine Ev.bind (encode_ev [r] (by simp)) (Ev.bind (rencode_ev [r] (by simp) (by intro x hx; simp at hx; omega)) ?_)
  refine ev_bind0 (point_ev r) (ev_bind0 (rpoint_ev r (by omega)) (ev_pos (by simp) ?_))
  refine ev_bind0 (length_ev r) (ev_bind0 (rlength_ev r (by omega)) (ev_pos rfl (ev_pos rfl (ev_pos rfl ?_))))
  exact Ev.bind awake01_ev (Ev.now _)
end Go.Proofs.Ytoaikbfngeopgaa.Pure
