import Derived.Test.YtmicdcgjooopeaaQBase
import Derived.Test.YtmicdcgjooopeaaT1
/- The reference's Same: two lists are the same just if they are. -/
namespace Go.Proofs.Ytmicdcgjooopeaa.Pure
open Go.RowKit Go.Proofs.Ytmicdcgjooopeaa.P Go.Proofs.YtmicdcgjooopeaaW.PrintWords Go.Proofs.YtmicdcgjooopeaaW.PrintLast
set_option linter.unusedVariables false
theorem same_loop (pa a pb b : List Int) (hp : pa.length = pb.length) (hl : a.length = b.length) (hb : pa.length + a.length ≤ 9000000000000000000) : Ev (fun k => toponymref01_Same.l0 k (pa ++ a) (pb ++ b) (pa.length : Int)) (decide (a = b)) := by
 induction a generalizing pa pb b with
 | nil =>
  obtain rfl : b = [] := List.length_eq_zero_iff.1 hl.symm
  refine Ev.step (fun k => by simp only [toponymref01_Same.l0]; rfl) ?_
  exact ev_neg (by simp) (ev_some (by simp))
 | cons x a ih =>
  cases b with
  | nil => simp at hl
  | cons y b =>
   refine Ev.step (fun k => by simp only [toponymref01_Same.l0]; rfl) ?_
   refine ev_pos (mid_lt pa x a) (ev_pos (by omega) (ev_pos (by rw [hp]; exact mid_lt pb y b) ?_))
   simp only [List.length_cons] at hl hb
   have e2 : rd (pb ++ y :: b) (pa.length : Int) = y := by rw [hp, rd_mid]
   rw [rd_mid, e2]
   refine ev_ite (fun h => ?_) (fun h => ev_some (by simp [h]))
   rw [w64 (by omega) (by omega), mid_snoc pa, mid_snoc pb, ← len_snoc pa x]
   refine ev_eq (ih (pa ++ [x]) (pb ++ [y]) b (by simp [hp]) (by omega) (by simp; omega)) ?_
   simp [h]
theorem same_ev (a b : List Int) (hb : a.length ≤ 9000000000000000000) : Ev (fun k => toponymref01_Same.f k a b) (decide (a = b)) := by
 unfold toponymref01_Same.f
 refine ev_ite (fun h => ?_) (fun h => ev_some ?_)
 ·exact same_loop [] a [] b rfl (by omega) (by simpa using hb)
 ·have : a ≠ b := fun e => h (by rw [e])
  simp [this]
end Go.Proofs.Ytmicdcgjooopeaa.Pure
