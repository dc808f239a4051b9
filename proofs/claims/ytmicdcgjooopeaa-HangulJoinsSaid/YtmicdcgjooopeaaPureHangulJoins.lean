import Derived.Test.YtmicdcgjooopeaaQHangulAwake
import Derived.Test.YtmicdcgjooopeaaP2
/- HangulJoins: any two numbers of 32 bits are joined by the program as by the reference; no condition. -/
namespace Go.Proofs.Ytmicdcgjooopeaa.Pure
open Go.RowKit Go.Proofs.Ytmicdcgjooopeaa.P Go.Proofs.YtmicdcgjooopeaaW.PrintWords Go.Proofs.YtmicdcgjooopeaaW.PrintLast
open Hangul
theorem HangulJoins : toponymlaw04_HangulJoins.Pure := by
  intro a b ha hb
  refine Ev.rounds ?_
  unfold toponymlaw04_HangulJoins.f
  refine Ev.bind (join_ev a b) (Ev.bind (rjoin_ev a b) (ev_pos rfl (ev_pos (by simp) ?_)))
  exact Ev.bind awake04_ev (Ev.now _)
end Go.Proofs.Ytmicdcgjooopeaa.Pure
