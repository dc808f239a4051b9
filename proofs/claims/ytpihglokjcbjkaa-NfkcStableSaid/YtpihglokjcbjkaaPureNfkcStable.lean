import Derived.Test.YtpihglokjcbjkaaQNfkc
import Derived.Test.YtpihglokjcbjkaaR10
import Derived.Test.YtpihglokjcbjkaaR11
/- NfkcStable: a normal form is its own; a loose one is so without loose, too; no condition. -/
namespace Go.Proofs.Ytpihglokjcbjkaa.Pure
open Go.RowKit Go.Proofs.Ytpihglokjcbjkaa.P Go.Proofs.YtpihglokjcbjkaaW.PrintWords Go.Proofs.YtpihglokjcbjkaaW.PrintLast
set_option maxRecDepth 100000
theorem NfkcStable : toponymlaw08_NfkcStable.Pure := by
  intro b l h1 h2 h3
  refine Ev.rounds ?_
  unfold toponymlaw08_NfkcStable.f
  have aw : Ev (fun k => (toponymlaw08_awake.f k).bind fun t => some t) true := Ev.bind (Ev.of toponymlaw08_awake.mono (k := 100) (by decide +kernel)) (Ev.now _)
  refine ev_ite (fun _ => aw) (fun h => ?_)
  have hm := nRun_length b l
  refine Ev.bind (nrunes_ev b l (by omega)) (Ev.bind (nrunes_ev b _ (by omega)) ?_)
  refine Ev.bind (same_ev _ _ (by rw [nRun_twice]; omega)) (ev_pos (by simp [nRun_twice]) ?_)
  refine Ev.bind (nis_ev b _ (by omega)) (ev_pos (by simp [nRun_twice]) ?_)
  exact Ev.bind (nis_ev false _ (by omega)) (ev_pos (by simp [nRun_false]) aw)
end Go.Proofs.Ytpihglokjcbjkaa.Pure
