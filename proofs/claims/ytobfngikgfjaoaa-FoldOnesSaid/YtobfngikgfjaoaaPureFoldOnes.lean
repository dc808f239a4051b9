import Derived.Test.YtobfngikgfjaoaaQFold
import Derived.Test.YtobfngikgfjaoaaP8
/- FoldOnes: any number of 32 bits is folded by the program as by the reference; no condition. -/
namespace Go.Proofs.Ytobfngikgfjaoaa.Pure
open Go.RowKit Go.Proofs.Ytobfngikgfjaoaa.P Go.Proofs.YtobfngikgfjaoaaW.PrintWords Go.Proofs.YtobfngikgfjaoaaW.PrintLast
theorem FoldOnes : toponymlaw09_FoldOnes.Pure := by
  intro r h
  obtain ⟨h0, h1⟩ := wf32 h
  refine Ev.rounds ?_
  unfold toponymlaw09_FoldOnes.f
  refine Ev.bind (one_ev r) (Ev.bind (rone_ev r) ?_)
  have := fOne_length r
  refine Ev.bind (same_ev _ _ (by omega)) (ev_pos (by simp [fOne_rOne h0 h1]) ?_)
  exact Ev.bind (Ev.of toponymlaw09_awake.mono (k := 30) (by decide +kernel)) (Ev.now _)
end Go.Proofs.Ytobfngikgfjaoaa.Pure
