import Derived.Test.YtkmimbchapcccaaQCompRef
import Derived.Test.YtkmimbchapcccaaQSame
import Derived.Test.YtkmimbchapcccaaP7
import Derived.Test.YtkmimbchapcccaaP9
/- ComposeAll: any numbers are put together as the document says; no condition. -/
namespace Go.Proofs.Ytkmimbchapcccaa.Pure
open Go.RowKit Go.Proofs.Ytkmimbchapcccaa.P Go.Proofs.YtkmimbchapcccaaW.PrintWords Go.Proofs.YtkmimbchapcccaaW.PrintLast
set_option maxRecDepth 100000
theorem ComposeAll : toponymlaw07_ComposeAll.Pure := by
  intro l h1 h2 h3
  refine Ev.rounds ?_
  unfold toponymlaw07_ComposeAll.f
  have aw : Ev (fun k => (toponymlaw07_awake.f k).bind fun t => some t) true := Ev.bind (Ev.of toponymlaw07_awake.mono (k := 100) (by decide +kernel)) (Ev.now _)
  refine ev_ite (fun _ => aw) (fun h => ?_)
  have hl : (dCAll l).length ≤ l.length := cAll_length (c := dCls) (pr := cPair) l
  refine Ev.bind (rcomp_ev l (by omega)) (Ev.bind (comp_ev l (by omega)) ?_)
  refine Ev.bind (same_ev _ _ (by omega)) (ev_pos (by simp) ?_)
  refine Ev.bind (whole_c_ev l (by omega)) (Ev.bind (same_ev _ _ (by omega)) ?_)
  refine ev_pos ?_ aw
  rw [beq_iff_eq]
  by_cases e : dCAll l = l
  · simp [e]
  · rw [decide_eq_false e, decide_eq_false (fun x => e x.symm)]
end Go.Proofs.Ytkmimbchapcccaa.Pure
