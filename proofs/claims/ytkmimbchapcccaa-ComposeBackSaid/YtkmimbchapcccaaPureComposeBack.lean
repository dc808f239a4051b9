import Derived.Test.YtkmimbchapcccaaQTwo
import Derived.Test.YtkmimbchapcccaaQSame
import Derived.Test.YtkmimbchapcccaaQOrdd
import Derived.Test.YtkmimbchapcccaaP7
import Derived.Test.YtkmimbchapcccaaP12
import Derived.Test.YtkmimbchapcccaaP14
/- ComposeBack: of characters that are apart and ordered: what is put together, taken apart and ordered, is what they were; it is whole, and no longer; no condition. -/
namespace Go.Proofs.Ytkmimbchapcccaa.Pure
open Go.RowKit Go.Proofs.Ytkmimbchapcccaa.P Go.Proofs.YtkmimbchapcccaaW.PrintWords Go.Proofs.YtkmimbchapcccaaW.PrintLast
set_option maxRecDepth 100000
theorem apartb_ev (b : Bool) (l : List Int) (hb : l.length < 1000000) : Ev (fun k => decomp_Apart.f k b l) (decide (dAll b l = l)) := by
  unfold decomp_Apart.f
  have := dAll_lens b l
  exact Ev.bind (dec_all_ev b l (by omega)) (Ev.bind (eq_ev _ _ (by omega)) (Ev.now _))
theorem ComposeBack : toponymlaw07_ComposeBack.Pure := by
  intro l h1 h2 h3
  refine Ev.rounds ?_
  have aw : Ev (fun k => (toponymlaw07_awake.f k).bind fun t => some t) true := Ev.bind (Ev.of toponymlaw07_awake.mono (k := 100) (by decide +kernel)) (Ev.now _)
  have yes : Ev (fun k => toponymlaw07_ComposeBack.j0 k l true) true := by
    refine Ev.step (fun k => by simp only [toponymlaw07_ComposeBack.j0]; rfl) ?_
    exact ev_pos (by first | rfl | trivial) aw
  unfold toponymlaw07_ComposeBack.f
  refine ev_ite (fun _ => yes) (fun h => ?_)
  refine Ev.bind (apartb_ev false l (by omega)) ?_
  refine ev_ite (fun ha => ?_) (fun _ => yes)
  refine Ev.bind (ordered_ev l (by omega)) ?_
  cases ho : isOrd dCls l with
  | false => exact yes
  | true =>
    have hb := comp_back l (by simpa using ha) ho
    have hl : (dCAll l).length ≤ l.length := cAll_length (c := dCls) (pr := cPair) l
    have hm := dAll_lens false (dCAll l)
    refine Ev.step (fun k => by simp only [toponymlaw07_ComposeBack.j0]; rfl) ?_
    refine ev_neg (by simp) ?_
    refine Ev.bind (comp_ev l (by omega)) ?_
    refine Ev.bind (dec_all_ev false _ (by omega)) ?_
    refine Ev.bind (order_ev _ (by omega)) ?_
    refine Ev.bind (same_ev _ _ (by rw [hb]; omega)) (ev_pos (by simp [hb]) ?_)
    refine Ev.bind (whole_c_ev _ (by omega)) (ev_pos (by simp [cAll_twice cPair_laws]) ?_)
    exact ev_pos (by omega) aw
end Go.Proofs.Ytkmimbchapcccaa.Pure
