import Derived.Test.YtkmimbchapcccaaQTwo
import Derived.Test.YtkmimbchapcccaaQSame
import Derived.Test.YtkmimbchapcccaaP7
import Derived.Test.YtkmimbchapcccaaP12
/- ComposeTwo: a pair, apart, is what its two are, apart; no condition. -/
namespace Go.Proofs.Ytkmimbchapcccaa.Pure
open Go.RowKit Go.Proofs.Ytkmimbchapcccaa.P Go.Proofs.YtkmimbchapcccaaW.PrintWords Go.Proofs.YtkmimbchapcccaaW.PrintLast
set_option maxRecDepth 100000
theorem ComposeTwo : toponymlaw07_ComposeTwo.Pure := by
  intro a b h1 h2
  refine Ev.rounds ?_
  unfold toponymlaw07_ComposeTwo.f
  have aw : Ev (fun k => (toponymlaw07_awake.f k).bind fun t => some t) true := Ev.bind (Ev.of toponymlaw07_awake.mono (k := 100) (by decide +kernel)) (Ev.now _)
  refine Ev.bind (pair_ev a b) ?_
  refine ev_ite (fun h => ?_) (fun h => ?_)
  · have e : cPair a b = some (cPairP a b).1 := by rw [cPairP_eq, if_pos h]
    have h3 := (pair_two e).1
    have h4 := dOne_length false (cPairP a b).1
    refine Ev.bind (dec_one_ev _ false) ?_
    refine Ev.bind (dec_all_ev false [a, b] (by simp)) ?_
    exact Ev.bind (same_ev _ _ (by omega)) (ev_pos (by simp [h3]) aw)
  · refine ev_pos ?_ aw
    unfold cPairP at h ⊢
    repeat' split at h
    · simp at h
    · rename_i g1 g2
      rw [if_neg g1, if_pos g2]
      simpa using h
    · rename_i g1 g2
      rw [if_neg g1, if_neg g2]
end Go.Proofs.Ytkmimbchapcccaa.Pure
