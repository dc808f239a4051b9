import Derived.Test.YtpihglokjcbjkaaQNfkcText
import Derived.Test.YtpihglokjcbjkaaR10
import Derived.Test.YtpihglokjcbjkaaR11
/- NfkcShort: the bytes of a normal form are at most three times those of the text; no condition. -/
namespace Go.Proofs.Ytpihglokjcbjkaa.Pure
open Go.RowKit Go.Proofs.Ytpihglokjcbjkaa.P Go.Proofs.YtpihglokjcbjkaaW.PrintWords Go.Proofs.YtpihglokjcbjkaaW.PrintLast
set_option maxRecDepth 100000
theorem NfkcShort : toponymlaw08_NfkcShort.Pure := by
  intro b S h1
  refine Ev.rounds ?_
  unfold toponymlaw08_NfkcShort.f
  have aw : Ev (fun k => (toponymlaw08_awake.f k).bind fun t => some t) true := Ev.bind (Ev.of toponymlaw08_awake.mono (k := 100) (by decide +kernel)) (Ev.now _)
  refine ev_ite (fun _ => aw) (fun h => ?_)
  refine Ev.bind (ntext_ev b S (by omega)) ?_
  rcases nText_short b S with ⟨g1, g2⟩ | ⟨g1, g2⟩
  · refine ev_neg (by rw [g1]; omega) (ev_pos (by rw [g2]; decide +kernel) aw)
  · refine ev_pos g1 (ev_pos ?_ aw)
    rw [w64 (by omega) (by omega)]
    omega
end Go.Proofs.Ytpihglokjcbjkaa.Pure
