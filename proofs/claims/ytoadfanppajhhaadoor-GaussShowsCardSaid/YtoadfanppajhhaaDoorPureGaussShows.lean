import Derived.Test.YtoadfanppajhhaaDoorQGaussOps
import Derived.Test.YtoadfanppajhhaaDoorQGaussAwake
import Derived.Test.YtoadfanppajhhaaDoorP1
import Derived.Test.YtoadfanppajhhaaDoorP3
/- GaussShows: any number is one of two parts, or not, has its text and its norm, and is turned, as the document says; no condition. -/
namespace Go.Proofs.YtoadfanppajhhaaDoor.Pure
open Go.RowKit Go.Proofs.YtoadfanppajhhaaDoor.P Go.Proofs.YtoadfanppajhhaaDoorW.PrintWords Go.Proofs.YtoadfanppajhhaaDoorW.PrintLast
set_option linter.unusedVariables false
set_option linter.unusedSimpArgs false
theorem rot_le (k : Int) {p : Int × Int} (h1 : p.1.natAbs ≤ 999999) (h2 : p.2.natAbs ≤ 999999) : (rot k p).1.natAbs ≤ 999999 ∧ (rot k p).2.natAbs ≤ 999999 := by
 unfold rot
 repeat' split
 all_goals (constructor <;> (try dsimp only) <;> omega)
theorem turn_is {z : Nat × Nat} {v : Option (Int × Int)} (h : Zh z v) (n : Int) : toponymlaw14_is.f (zturn n v).1 (rturn n v).1 (rturn n v).2.1 = some true := by
 rcases v with _ | p
 ·exact is_ev zero_wh zero_wh
 ·have := rot_le (tn n) h.1.2.2 h.2.2.2
  exact is_ev (flt_wh this.1) (flt_wh this.2)
theorem GaussShows (x y : Nat) (n : Int) : ∃ k, toponymlaw14_GaussShows.f k x y n = some true := by
 refine Ev.rounds ?_
 show Ev (fun k => toponymlaw14_GaussShows.f k x y n) true
 obtain ⟨v, hv⟩ := zh_any (x, y)
 unfold toponymlaw14_GaussShows.f
 refine ev_bind0 (z_ev x y) (ev_bind0 (show_ev hv) (ev_bind0 (r_ev x y) (Ev.bind (rshow_ev hv) (ev_bind0 (z_ev x y) (ev_bind0 (turn_ev hv n) (ev_bind0 (r_ev x y) (Ev.bind (rturn_ev hv n) (ev_bind0 (r_ev x y) (ev_bind0 (rparts_ev hv) ?_)))))))))
 refine ev_pos rfl (ev_pos rfl (ev_bind0 (turn_is hv n) (ev_pos rfl (ev_pos ?_ (ev_bind0 (z_ev x y) (ev_bind0 (fits_ev hv) (ev_pos ?_ (ev_bind0 (z_ev x y) (ev_bind0 (nrm_ev hv) (ev_bind0 (r_ev x y) (ev_bind0 (rnrm_ev hv) (ev_pos rfl fin14))))))))))))
 ·cases v <;> rfl
 ·cases v <;> rfl
end Go.Proofs.YtoadfanppajhhaaDoor.Pure
