import Derived.Test.YtmnfdoldoomcgaaDoorQOid
import Derived.Test.YtmnfdoldoomcgaaDoorP3
/- OidPairs: of any two lists (of at most 1000 numbers each, as the statement has it) the order and 'under' are the document's; no condition. -/
namespace Go.Proofs.YtmnfdoldoomcgaaDoor.Pure
open Go.RowKit Go.Proofs.YtmnfdoldoomcgaaDoor.P Go.Proofs.YtmnfdoldoomcgaaDoorW.PrintWords Go.Proofs.YtmnfdoldoomcgaaDoorW.PrintLast
theorem oidPairs_go (l0 l1 : List Int) (h0 : l0.length ≤ 1000) (h1 : l1.length ≤ 1000) (b : Bool) : Ev (fun k => toponymlaw17_OidPairs.j0 k l0 l1 b) true := by
 refine Ev.step (fun k => by simp only [toponymlaw17_OidPairs.j0]; rfl) ?_
 refine ev_bool (fun _ => Ev.bind awake17_ev (Ev.now _)) (fun _ => ?_)
 refine Ev.bind (cmp_ev l0 l1 (by omega)) (Ev.bind (rcmp_ev l0 l1 (by omega)) (ev_pos rfl ?_))
 refine Ev.bind (under_ev l0 l1 (by omega) (by omega)) (Ev.bind (runder_ev l0 l1 (by omega) (by omega)) (ev_pos (by simp) ?_))
 exact Ev.bind awake17_ev (Ev.now _)
theorem oidPairs_far (l0 l1 : List Int) : Ev (fun k => toponymlaw17_OidPairs.j0 k l0 l1 true) true := by
 refine Ev.step (fun k => by simp only [toponymlaw17_OidPairs.j0]; rfl) ?_
 exact ev_pos trivial (Ev.bind awake17_ev (Ev.now _))
theorem OidPairs : toponymlaw17_OidPairs.Pure := by
 intro l0 l1 _ _ _ _ _ _
 refine Ev.rounds ?_
 unfold toponymlaw17_OidPairs.f
 refine ev_ite (fun _ => oidPairs_far l0 l1) (fun h0 => ?_)
 by_cases h1 : (l1.length : Int) > 1000
 ·rw [decide_eq_true h1]; exact oidPairs_far l0 l1
 ·exact oidPairs_go l0 l1 (by omega) (by omega) _
end Go.Proofs.YtmnfdoldoomcgaaDoor.Pure
