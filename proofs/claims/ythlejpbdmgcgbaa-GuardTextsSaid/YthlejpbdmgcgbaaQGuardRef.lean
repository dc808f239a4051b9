import Derived.Test.YthlejpbdmgcgbaaQGuard
import Derived.Test.YthlejpbdmgcgbaaQCharsRef
import Derived.Test.YthlejpbdmgcgbaaP9
import Derived.Test.YthlejpbdmgcgbaaP10
/- The reference's Fit and Check. -/
namespace Go.Proofs.Ythlejpbdmgcgbaa.Pure
open Go.RowKit Go.Proofs.Ythlejpbdmgcgbaa.P Go.Proofs.YthlejpbdmgcgbaaW.PrintWords Go.Proofs.YthlejpbdmgcgbaaW.PrintLast
set_option linter.unusedVariables false
set_option linter.unusedSimpArgs false
theorem rfit_ev (r : Int) : Ev (fun k => toponymref10_Fit.f k r) (fitK r) := by
  unfold toponymref10_Fit.f
  refine Ev.bind (rkind_ev r) ?_
  rw [rKind_cKind]
  refine ev_ite (fun h => ev_some ?_) (fun h => ev_some ?_)
  · simp [fitK, h]
  · by_cases g : cKind r = 7 <;> simp [fitK, h, bne, g]
theorem rcheck_loop (pre suf : List Int) (hb : pre.length + suf.length < 9000000000000000000) :
    Ev (fun k => toponymref10_Check.l0 k (pre ++ suf) (pre.length : Int)) ((pre.length : Int) + fitN suf, if fitN suf < suf.length then 30 else 0) := by
  induction suf generalizing pre with
  | nil =>
    refine Ev.step (fun k => by simp only [toponymref10_Check.l0]; rfl) ?_
    exact ev_neg (by simp) (ev_some (by simp [fitN]))
  | cons a t ih =>
    refine Ev.step (fun k => by simp only [toponymref10_Check.l0]; rfl) ?_
    refine ev_pos (mid_lt pre a t) (ev_pos (by omega) ?_)
    rw [rd_mid]
    simp only [List.length_cons] at hb
    refine Ev.bind (rfit_ev a) ?_
    refine ev_ite (fun h => ?_) (fun h => ?_)
    · rw [w64 (by omega) (by omega), mid_snoc pre, ← len_snoc pre a]
      refine ev_eq (ih (pre ++ [a]) (by simp; omega)) ?_
      rw [fitN_yes t h, len_snoc, List.length_cons]
      refine Prod.ext (by simp only; omega) ?_
      by_cases g : fitN t < t.length
      · simp only; rw [if_pos g, if_pos (by omega)]
      · simp only; rw [if_neg g, if_neg (by omega)]
    · refine ev_some ?_
      rw [fitN_no t ((Bool.not_eq_true _).mp h)]
      simp
theorem rcheck_ev (l : List Int) (hb : l.length < 9000000000000000000) : Ev (fun k => toponymref10_Check.f k l) (chkV l) := by
  unfold toponymref10_Check.f
  have h := rcheck_loop [] l (by simpa using hb)
  unfold chkV
  simpa using h
end Go.Proofs.Ythlejpbdmgcgbaa.Pure
