import Derived.Test.YthlejpbdmgcgbaaQGuardRef
import Derived.Test.YthlejpbdmgcgbaaP8
import Derived.Test.YthlejpbdmgcgbaaP11
/- GuardChecks: any numbers are fit, or not, from the document's place on; no condition. -/
namespace Go.Proofs.Ythlejpbdmgcgbaa.Pure
open Go.RowKit Go.Proofs.Ythlejpbdmgcgbaa.P Go.Proofs.YthlejpbdmgcgbaaW.PrintWords Go.Proofs.YthlejpbdmgcgbaaW.PrintLast
set_option maxRecDepth 100000
theorem GuardChecks : toponymlaw10_GuardChecks.Pure := by
  intro l h1 h2 h3
  refine Ev.rounds ?_
  unfold toponymlaw10_GuardChecks.f
  have aw : Ev (fun k => (toponymlaw10_awake.f k).bind fun t => some t) true := Ev.bind (Ev.of toponymlaw10_awake.mono (k := 60) (by decide +kernel)) (Ev.now _)
  refine ev_ite (fun _ => aw) (fun h => ?_)
  refine Ev.bind (check_ev l (by omega)) (Ev.bind (rcheck_ev l (by omega)) (ev_pos rfl (ev_pos rfl ?_)))
  refine ev_ite (fun _ => aw) (fun g => ev_pos (by omega) ?_)
  exact Ev.bind (fit_ev _) (Ev.bind (rfit_ev _) (ev_pos (by simp) aw))
end Go.Proofs.Ythlejpbdmgcgbaa.Pure
