import Derived.Test.YtkmimbchapcccaaQArr
import Derived.Test.YtkmimbchapcccaaP12
/- arrange.Ordered. -/
namespace Go.Proofs.Ytkmimbchapcccaa.Pure
open Go.RowKit Go.Proofs.Ytkmimbchapcccaa.P Go.Proofs.YtkmimbchapcccaaW.PrintWords Go.Proofs.YtkmimbchapcccaaW.PrintLast
set_option linter.unusedVariables false
set_option linter.unusedSimpArgs false
theorem ordd_loop (p : List Int) (a : Int) (suf : List Int) (hb : p.length + suf.length < 1000000) :
    Ev (fun k => arrange_Ordered.l0 k (p ++ a :: suf) ((p.length : Int) + 1)) (isOrd dCls (a :: suf)) := by
  induction suf generalizing p a with
  | nil =>
    refine Ev.step (fun k => by simp only [arrange_Ordered.l0]; rfl) ?_
    exact ev_neg (by simp) (ev_some rfl)
  | cons b t ih =>
    simp only [List.length_cons] at hb
    refine Ev.step (fun k => by simp only [arrange_Ordered.l0]; rfl) ?_
    refine ev_pos (by simp; omega) ?_
    rw [show wrap64 ((p.length : Int) + 1 - 1) = (p.length : Int) from by rw [w64 (by omega) (by omega)]; omega]
    refine ev_pos (by omega) (ev_pos (by simp; omega) (ev_pos (by omega) ?_))
    rw [rd_mid, rd_mid2]
    refine Ev.bind (wrong_ev a b) ?_
    refine ev_ite (fun h => ev_some (by simp [isOrd, h])) (fun h => ?_)
    rw [w64 (by omega) (by omega)]
    refine ev_eq (a := isOrd dCls (b :: t)) ?_ (by simp [isOrd, h])
    have := ih (p ++ [a]) b (by simp; omega)
    simpa using this
theorem ordered_ev (l : List Int) (h : l.length < 900000) : Ev (fun k => arrange_Ordered.f k l) (isOrd dCls l) := by
  unfold arrange_Ordered.f
  cases l with
  | nil =>
    refine Ev.step (fun k => by simp only [arrange_Ordered.l0]; rfl) ?_
    exact ev_neg (by simp) (ev_some rfl)
  | cons a t =>
    have := ordd_loop [] a t (by simp at h ⊢; omega)
    simpa using this
end Go.Proofs.Ytkmimbchapcccaa.Pure
