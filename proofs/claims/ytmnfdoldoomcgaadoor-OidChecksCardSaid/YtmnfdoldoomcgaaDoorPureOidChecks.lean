import Derived.Test.YtmnfdoldoomcgaaDoorQOidText
import Derived.Test.YtmnfdoldoomcgaaDoorP2
import Derived.Test.YtmnfdoldoomcgaaDoorP3
/- OidChecks: of any list of numbers (of at most 1000, as the statement has it) the check, the text and the one above are the document's; no condition. -/
namespace Go.Proofs.YtmnfdoldoomcgaaDoor.Pure
open Go.RowKit Go.Proofs.YtmnfdoldoomcgaaDoor.P Go.Proofs.YtmnfdoldoomcgaaDoorW.PrintWords Go.Proofs.YtmnfdoldoomcgaaDoorW.PrintLast
theorem OidChecks : toponymlaw17_OidChecks.Pure := by
 intro l _ _ _
 refine Ev.rounds ?_
 unfold toponymlaw17_OidChecks.f
 have fin : Ev (fun k => (toponymlaw17_awake.f k).bind fun t => some t) true := Ev.bind awake17_ev (Ev.now _)
 refine ev_ite (fun _ => fin) (fun h => ?_)
 have hl : l.length ≤ 1000 := by omega
 refine Ev.bind (show_ev l (by omega)) (Ev.bind (rshow_ev l (by omega)) (Ev.bind (check_ev l (by omega)) (Ev.bind (rcheck_ev l (by omega)) (ev_pos rfl (ev_pos rfl (ev_pos rfl ?_))))))
 have ha : (above l).length ≤ 1000 := by
  unfold above
  split
  ·simp
   omega
  ·simp
 refine Ev.bind (above_ev l (by omega)) (Ev.bind (rabove_ev l (by omega)) (Ev.bind (same_ev _ _ (by omega)) (ev_pos (by simp) fin)))
end Go.Proofs.YtmnfdoldoomcgaaDoor.Pure
