import Derived.Test.YtmicdcgjooopeaaQHangulAwake
import Derived.Test.YtmicdcgjooopeaaP2
/- HangulParts: of any number of 32 bits the program's Syllable, Part and Apart answer as the reference's do; no condition. -/
namespace Go.Proofs.Ytmicdcgjooopeaa.Pure
open Go.RowKit Go.Proofs.Ytmicdcgjooopeaa.P Go.Proofs.YtmicdcgjooopeaaW.PrintWords Go.Proofs.YtmicdcgjooopeaaW.PrintLast
open Hangul
theorem HangulParts : toponymlaw04_HangulParts.Pure := by
  intro r hr
  refine Ev.rounds ?_
  unfold toponymlaw04_HangulParts.f
  refine ev_bind0 (syl_ev r) (ev_bind0 (rsyl_ev r) (ev_pos (by simp) ?_))
  refine Ev.bind (part_ev r) (Ev.bind (rpart_ev r) (ev_pos rfl ?_))
  refine ev_bind0 (apart_ev r) (ev_bind0 (rapart_ev r) ?_)
  refine Ev.bind (same_ev _ _ ?_) (ev_pos (by simp) ?_)
  · unfold hApart
    repeat' split
    all_goals exact Nat.le_of_ble_eq_true rfl
  exact Ev.bind awake04_ev (Ev.now _)
end Go.Proofs.Ytmicdcgjooopeaa.Pure
