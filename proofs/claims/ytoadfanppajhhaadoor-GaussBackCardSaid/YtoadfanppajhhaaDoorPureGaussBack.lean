import Derived.Test.YtoadfanppajhhaaDoorQGaussOps
import Derived.Test.YtoadfanppajhhaaDoorQGaussAwake
import Derived.Test.YtoadfanppajhhaaDoorP5
/- GaussBack: a number is read as it was written; a text that is read is its number's; no condition. -/
namespace Go.Proofs.YtoadfanppajhhaaDoor.Pure
open Go.RowKit Go.Proofs.YtoadfanppajhhaaDoor.P Go.Proofs.YtoadfanppajhhaaDoorW.PrintWords Go.Proofs.YtoadfanppajhhaaDoorW.PrintLast
set_option linter.unusedVariables false
set_option linter.unusedSimpArgs false
theorem same_ord {b c : Nat} {n : Int} (h1 : Wh b n) (h2 : Wh c n) : (Go.FloatKind.f64.format.order b c == some .eq) = true := by
 rw [ord_wh h1 h2, (Fl.compare_eq _ _).1.mpr rfl]
 rfl
theorem both {x y : Bool} (h1 : x = true) (h2 : y = true) : (x && y) = true := by rw [h1, h2]; rfl
theorem GaussBack (x y : Nat) (s : ByteArray) : ∃ k, toponymlaw14_GaussBack.f k x y s = some true := by
 refine Ev.rounds ?_
 show Ev (fun k => toponymlaw14_GaussBack.f k x y s) true
 have j0 : Ev (fun k => toponymlaw14_GaussBack.j0 k s) true := by
  refine Ev.step (fun k => by simp only [toponymlaw14_GaussBack.j0]; rfl) ?_
  obtain ⟨r, e, t⟩ := parse_any s
  refine Ev.bind e ?_
  rcases t with rfl | ⟨a, b, ha, hb, hs, rfl⟩
  ·exact ev_neg (by decide) (ev_pos (both (same_ord zero_wh zero_wh) (same_ord zero_wh zero_wh)) (ev_pos rfl fin14))
  ·refine ev_pos rfl (ev_bind0 (show_ev (flt_zh ha hb)) (ev_pos ?_ (ev_pos rfl (ev_bind0 (fits_ev (flt_zh ha hb)) (ev_pos rfl fin14)))))
   show (by_ (gText a b)).toList = s.toList
   rw [hs]
 obtain ⟨v, hv⟩ := zh_any (x, y)
 unfold toponymlaw14_GaussBack.f
 refine ev_bind0 (z_ev x y) (ev_bind0 (show_ev hv) ?_)
 rcases v with _ | ⟨a, b⟩
 ·exact ev_neg (by simp [zshow]) j0
 ·have ha := hv.1.2.2
  have hb := hv.2.2.2
  have hl := gText_len ha hb
  refine ev_pos rfl (Ev.bind (parse_txt ha hb) (ev_pos rfl (ev_bind0 (z_ev x y) (ev_pos (both (same_ord (flt_wh ha) hv.1) (same_ord (flt_wh hb) hv.2)) (ev_neg ?_ j0)))))
  show ¬ ((by_ (gText a b)).size : Int) > 16
  rw [by_size]
  omega
end Go.Proofs.YtoadfanppajhhaaDoor.Pure
