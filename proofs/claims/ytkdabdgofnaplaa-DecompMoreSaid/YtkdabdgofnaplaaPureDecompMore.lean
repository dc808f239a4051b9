import Derived.Test.YtkdabdgofnaplaaQApart
import Derived.Test.YtkdabdgofnaplaaQSame
import Derived.Test.YtkdabdgofnaplaaP8
/- DecompMore: taken apart loosely behind the other way, characters are what they are loosely at once; no condition. -/
namespace Go.Proofs.Ytkdabdgofnaplaa.Pure
open Go.RowKit Go.Proofs.Ytkdabdgofnaplaa.P Go.Proofs.YtkdabdgofnaplaaW.PrintWords Go.Proofs.YtkdabdgofnaplaaW.PrintLast
theorem DecompMore : toponymlaw05_DecompMore.Pure := by
  intro l h1 h2 h3
  refine Ev.rounds ?_
  unfold toponymlaw05_DecompMore.f
  have aw : Ev (fun k => (toponymlaw05_awake.f k).bind fun t => some t) true := Ev.bind (Ev.of toponymlaw05_awake.mono (k := 60) (by decide +kernel)) (Ev.now _)
  refine ev_ite (fun h => aw) (fun h => ?_)
  have e1 := dAll_lens false l
  have e2 := dAll_lens true (dAll false l)
  refine Ev.bind (dec_all_ev false l (by omega)) ?_
  refine Ev.bind (dec_all_ev true _ (by omega)) ?_
  refine Ev.bind (dec_all_ev true l (by omega)) ?_
  refine Ev.bind (same_ev _ _ (by omega)) (ev_pos (by simp [dAll_more]) aw)
end Go.Proofs.Ytkdabdgofnaplaa.Pure
