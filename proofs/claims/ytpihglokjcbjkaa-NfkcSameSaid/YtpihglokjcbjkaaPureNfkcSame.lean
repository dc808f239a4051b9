import Derived.Test.YtpihglokjcbjkaaQNfkc
import Derived.Test.YtpihglokjcbjkaaR10
import Derived.Test.YtpihglokjcbjkaaR11
/- NfkcSame: characters have the normal form that they have apart, and apart and ordered; a loose one is that of the other one; no condition. -/
namespace Go.Proofs.Ytpihglokjcbjkaa.Pure
open Go.RowKit Go.Proofs.Ytpihglokjcbjkaa.P Go.Proofs.YtpihglokjcbjkaaW.PrintWords Go.Proofs.YtpihglokjcbjkaaW.PrintLast
set_option maxRecDepth 100000
theorem NfkcSame : toponymlaw08_NfkcSame.Pure := by
  intro b l h1 h2 h3
  refine Ev.rounds ?_
  unfold toponymlaw08_NfkcSame.f
  have aw : Ev (fun k => (toponymlaw08_awake.f k).bind fun t => some t) true := Ev.bind (Ev.of toponymlaw08_awake.mono (k := 100) (by decide +kernel)) (Ev.now _)
  refine ev_ite (fun _ => aw) (fun h => ?_)
  have hm := nRun_length b l
  have ha := dAll_lens false l
  have ho := aOrd_length (c := dCls) (dAll false l)
  have hf := nRun_length false l
  have ht := nRun_length true l
  refine Ev.bind (nrunes_ev b l (by omega)) (Ev.bind (dec_all_ev false l (by omega)) (Ev.bind (order_ev _ (by omega)) (Ev.bind (nrunes_ev false l (by omega)) ?_)))
  refine Ev.bind (nrunes_ev b _ (by omega)) (Ev.bind (same_ev _ _ (by rw [nRun_apart]; omega)) (ev_pos (by simp [nRun_apart]) ?_))
  refine Ev.bind (nrunes_ev b _ (by omega)) (Ev.bind (same_ev _ _ (by rw [nRun_ordered, nRun_apart]; omega)) (ev_pos (by simp [nRun_ordered, nRun_apart]) ?_))
  refine Ev.bind (nrunes_ev true _ (by omega)) (Ev.bind (nrunes_ev true l (by omega)) ?_)
  exact Ev.bind (same_ev _ _ (by rw [nRun_other]; omega)) (ev_pos (by simp [nRun_other]) aw)
end Go.Proofs.Ytpihglokjcbjkaa.Pure
