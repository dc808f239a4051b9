import Derived.Test.YtdgnekknmpfepaaGreatDoorQChars
import Derived.Test.YtdgnekknmpfepaaGreatDoorP5
/- guard.Fit and Check. -/
namespace Go.Proofs.YtdgnekknmpfepaaGreatDoor.Pure
open Go.RowKit Go.Proofs.YtdgnekknmpfepaaGreatDoor.P Go.Proofs.YtdgnekknmpfepaaGreatDoorW.PrintWords Go.Proofs.YtdgnekknmpfepaaGreatDoorW.PrintLast
set_option linter.unusedVariables false
set_option linter.unusedSimpArgs false
def fitK (r : Int) : Bool := !(decide (cKind r = 0) || decide (cKind r = 7))
theorem fit_ev (r : Int) : Ev (fun k => guard_Fit.f k r) (fitK r) := by
 unfold guard_Fit.f
 refine Ev.bind (is_ev r [0, 7] (by simp)) (ev_some ?_)
 simp [fitK]
def fitN (l : List Int) : Nat := (l.takeWhile fitK).length
theorem fitN_le (l : List Int) : fitN l ≤ l.length := (List.takeWhile_prefix fitK).length_le
theorem fitN_yes {a : Int} (t : List Int) (h : fitK a = true) : fitN (a :: t) = fitN t + 1 := by simp [fitN, h]
theorem fitN_no {a : Int} (t : List Int) (h : fitK a = false) : fitN (a :: t) = 0 := by simp [fitN, h]
theorem first_loop (pre suf : List Int) (hb : pre.length + suf.length < 9000000000000000000) (n : Int) (hn : n = ((pre ++ suf).length : Int)) :
  Ev (fun k => guard_first_rune_guard_Fit.l0 k (pre ++ suf) (pre ++ suf) n (pre.length : Int)) ((pre.length : Int) + fitN suf) := by
 induction suf generalizing pre with
 | nil =>
  refine Ev.step (fun k => by simp only [guard_first_rune_guard_Fit.l0]; rfl) ?_
  exact ev_neg (by subst hn; simp) (ev_some (by simp [fitN]))
 | cons a t ih =>
  refine Ev.step (fun k => by simp only [guard_first_rune_guard_Fit.l0]; rfl) ?_
  refine ev_pos (by rw [hn]; exact mid_lt pre a t) (ev_pos (by omega) (ev_pos (mid_lt pre a t) ?_))
  rw [rd_mid]
  simp only [List.length_cons] at hb
  refine Ev.bind (fit_ev a) ?_
  refine ev_ite (fun h => ?_) (fun h => ?_)
  ·rw [w64 (by omega) (by omega), mid_snoc pre, ← len_snoc pre a]
   refine ev_eq (ih (pre ++ [a]) (by simp; omega) (by rw [hn]; simp)) ?_
   rw [fitN_yes t h, len_snoc]
   omega
  ·refine ev_some ?_
   rw [fitN_no t ((Bool.not_eq_true _).mp h)]
   omega
def chkV (l : List Int) : Int × Int := ((fitN l : Int), if fitN l < l.length then 30 else 0)
theorem check_ev (l : List Int) (hb : l.length < 9000000000000000000) : Ev (fun k => guard_Check.f k l) (chkV l) := by
 unfold guard_Check.f
 have h := first_loop [] l (by simpa using hb) _ rfl
 refine Ev.bind (a := (fitN l : Int)) (by unfold guard_first_rune_guard_Fit.f; simpa using h) ?_
 unfold chkV
 refine ev_ite (fun g => ev_some ?_) (fun g => ev_some ?_)
 ·rw [if_pos (by omega)]
 ·rw [if_neg (by omega)]
end Go.Proofs.YtdgnekknmpfepaaGreatDoor.Pure
