import Derived.Test.YtmicdcgjooopeaaQHangulAwake
import Derived.Test.YtmicdcgjooopeaaP3
/- HangulWholes: any list of numbers of 32 bits (of at most 5000, as the statement has it) is made whole by the program as by the reference; no condition. -/
namespace Go.Proofs.Ytmicdcgjooopeaa.Pure
open Go.RowKit Go.Proofs.Ytmicdcgjooopeaa.P Go.Proofs.YtmicdcgjooopeaaW.PrintWords Go.Proofs.YtmicdcgjooopeaaW.PrintLast
open Hangul
theorem HangulWholes : toponymlaw04_HangulWholes.Pure := by
  intro l h1 h2 h3
  refine Ev.rounds ?_
  unfold toponymlaw04_HangulWholes.f
  refine ev_ite (fun h => Ev.bind awake04_ev (Ev.now _)) (fun h => ?_)
  refine Ev.bind (whole_ev l (by omega)) (Ev.bind (rwhole_ev l (by omega)) ?_)
  have := hWhole_length l
  refine Ev.bind (same_ev _ _ (by omega)) (ev_pos (by simp) ?_)
  exact Ev.bind awake04_ev (Ev.now _)
end Go.Proofs.Ytmicdcgjooopeaa.Pure
