import Derived.Test.YtkmimbchapcccaaQPairRef
import Derived.Test.YtkmimbchapcccaaP7
/- ComposePairs: any two numbers make the document's letter, or none; no condition. -/
namespace Go.Proofs.Ytkmimbchapcccaa.Pure
open Go.RowKit Go.Proofs.Ytkmimbchapcccaa.P Go.Proofs.YtkmimbchapcccaaW.PrintWords Go.Proofs.YtkmimbchapcccaaW.PrintLast
set_option maxRecDepth 100000
theorem ComposePairs : toponymlaw07_ComposePairs.Pure := by
  intro a b h1 h2
  refine Ev.rounds ?_
  unfold toponymlaw07_ComposePairs.f
  have aw : Ev (fun k => (toponymlaw07_awake.f k).bind fun t => some t) true := Ev.bind (Ev.of toponymlaw07_awake.mono (k := 100) (by decide +kernel)) (Ev.now _)
  refine Ev.bind (pair_ev a b) (Ev.bind (rpair_ev a b) ?_)
  exact ev_pos rfl (ev_pos (by simp) aw)
end Go.Proofs.Ytkmimbchapcccaa.Pure
