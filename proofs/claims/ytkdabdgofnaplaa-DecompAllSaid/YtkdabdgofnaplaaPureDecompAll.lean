import Derived.Test.YtkdabdgofnaplaaQDecompRef
import Derived.Test.YtkdabdgofnaplaaQSame
import Derived.Test.YtkdabdgofnaplaaQEq
import Derived.Test.YtkdabdgofnaplaaP9
import Derived.Test.YtkdabdgofnaplaaP10
/- DecompAll: the program takes numbers apart as the reference does, and says of them whether they are apart; no condition. -/
namespace Go.Proofs.Ytkdabdgofnaplaa.Pure
open Go.RowKit Go.Proofs.Ytkdabdgofnaplaa.P Go.Proofs.YtkdabdgofnaplaaW.PrintWords Go.Proofs.YtkdabdgofnaplaaW.PrintLast
theorem dAll_most (b : Bool) (l : List Int) : (dAll b l).length ≤ 4 * l.length := by
  induction l with
  | nil => simp [dAll]
  | cons a t ih =>
    have := dStep_length b a
    rw [dAll_cons, List.length_append, List.length_cons]
    omega
theorem DecompAll : toponymlaw05_DecompAll.Pure := by
  intro b l h1 h2 h3
  refine Ev.rounds ?_
  unfold toponymlaw05_DecompAll.f
  have aw : Ev (fun k => (toponymlaw05_awake.f k).bind fun t => some t) true := Ev.bind (Ev.of toponymlaw05_awake.mono (k := 60) (by decide +kernel)) (Ev.now _)
  refine ev_ite (fun h => aw) (fun h => ?_)
  have hm := dAll_most b l
  refine Ev.bind (rall_ev b l (fun x hx => wf32 (h3 x hx)) (by omega)) (Ev.bind (dec_all_ev b l (by omega)) (Ev.bind (same_ev _ _ (by omega)) (ev_pos (by simp) ?_)))
  have ha : Ev (fun k => decomp_Apart.f k b l) (decide (dAll b l = l)) := by
    unfold decomp_Apart.f
    exact Ev.bind (dec_all_ev b l (by omega)) (Ev.bind (eq_ev _ _ (by omega)) (Ev.now _))
  exact Ev.bind ha (Ev.bind (same_ev _ _ (by omega)) (ev_pos (by simp) aw))
end Go.Proofs.Ytkdabdgofnaplaa.Pure
