import Derived.Test.YtpihglokjcbjkaaQNfkcRef
import Derived.Test.YtpihglokjcbjkaaT5
import Derived.Test.YtpihglokjcbjkaaT11
/- NfkcRunes: any numbers have the document's normal forms; no condition. -/
namespace Go.Proofs.Ytpihglokjcbjkaa.Pure
open Go.RowKit Go.Proofs.Ytpihglokjcbjkaa.P Go.Proofs.YtpihglokjcbjkaaW.PrintWords Go.Proofs.YtpihglokjcbjkaaW.PrintLast
set_option maxRecDepth 100000
theorem NfkcRunes : toponymlaw08_NfkcRunes.Pure := by
 intro b l h1 h2 h3
 refine Ev.rounds ?_
 unfold toponymlaw08_NfkcRunes.f
 have aw : Ev (fun k => (toponymlaw08_awake.f k).bind fun t => some t) true := Ev.bind (Ev.of toponymlaw08_awake.mono (k := 100) (by decide +kernel)) (Ev.now _)
 refine ev_ite (fun _ => aw) (fun h => ?_)
 have hm := nRun_length b l
 refine Ev.bind (nref_ev b l (fun x hx => wf32 (h3 x hx)) (by omega)) (Ev.bind (nrunes_ev b l (by omega)) ?_)
 refine Ev.bind (same_ev _ _ (by omega)) (ev_pos (by simp) ?_)
 refine Ev.bind (nis_ev b l (by omega)) (Ev.bind (same_ev _ _ (by omega)) (ev_pos ?_ aw))
 rw [beq_iff_eq]
 by_cases e : nRun b l = l
 ·simp [e]
 ·rw [decide_eq_false e, decide_eq_false (fun x => e x.symm)]
end Go.Proofs.Ytpihglokjcbjkaa.Pure
