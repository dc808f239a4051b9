import Derived.Test.YtoadfanppajhhaaDoorQGaussOps
import Derived.Test.YtoadfanppajhhaaDoorQGaussAwake
import Derived.Test.YtoadfanppajhhaaDoorP1
import Derived.Test.YtoadfanppajhhaaDoorP2
import Derived.Test.YtoadfanppajhhaaDoorP6
/- GaussTurns: four turns are none, a turn keeps the norm, and turns come one behind the other; the norm of a product is the product of the norms; no condition. -/
namespace Go.Proofs.YtoadfanppajhhaaDoor.Pure
open Go.RowKit Go.Proofs.YtoadfanppajhhaaDoor.P Go.Proofs.YtoadfanppajhhaaDoorW.PrintWords Go.Proofs.YtoadfanppajhhaaDoorW.PrintLast
set_option linter.unusedVariables false
set_option linter.unusedSimpArgs false
theorem same_ord {b c : Nat} {n : Int} (h1 : Wh b n) (h2 : Wh c n) : (Go.FloatKind.f64.format.order b c == some .eq) = true := by
 rw [ord_wh h1 h2, (Fl.compare_eq _ _).1.mpr rfl]
 rfl
theorem both {x y : Bool} (h1 : x = true) (h2 : y = true) : (x && y) = true := by rw [h1, h2]; rfl
theorem rot_le (k : Int) {p : Int × Int} (h1 : p.1.natAbs ≤ 999999) (h2 : p.2.natAbs ≤ 999999) : (rot k p).1.natAbs ≤ 999999 ∧ (rot k p).2.natAbs ≤ 999999 := by
 unfold rot
 repeat' split
 all_goals (constructor <;> (try dsimp only) <;> omega)
theorem rot_nrm (k : Int) (p : Int × Int) : nrm (some (rot k p)) = nrm (some p) := by
 unfold rot
 repeat' split
 all_goals (unfold nrm; simp only [Int.neg_mul_neg]; try omega)
theorem rot_back (n : Int) (p : Int × Int) : rot (tn (4 - Int.tmod n 4)) (rot (tn n) p) = p := by
 have h1 := Int.lt_tmod_of_pos n (b := 4) (by omega)
 have h2 := Int.tmod_lt_of_pos n (b := 4) (by omega)
 rw [tn_eq n]
 generalize Int.tmod n 4 = t at h1 h2
 have ht : t = -3 ∨ t = -2 ∨ t = -1 ∨ t = 0 ∨ t = 1 ∨ t = 2 ∨ t = 3 := by omega
 rcases ht with rfl | rfl | rfl | rfl | rfl | rfl | rfl
 ·have e : tn (4 - -3) = 3 := by decide
  rw [e]; simp [rot]
 ·have e : tn (4 - -2) = 2 := by decide
  rw [e]; simp [rot]
 ·have e : tn (4 - -1) = 1 := by decide
  rw [e]; simp [rot]
 ·have e : tn (4 - 0) = 0 := by decide
  rw [e]; simp [rot]
 ·have e : tn (4 - 1) = 3 := by decide
  rw [e]; simp [rot]
 ·have e : tn (4 - 2) = 2 := by decide
  rw [e]; simp [rot]
 ·have e : tn (4 - 3) = 1 := by decide
  rw [e]; simp [rot]
theorem zm_comm (p q : Int × Int) : zm q p = zm p q := by
 unfold zm
 rw [Int.mul_comm q.1 p.1, Int.mul_comm q.2 p.2, Int.mul_comm q.1 p.2, Int.mul_comm q.2 p.1, Int.add_comm (p.2 * q.1)]
theorem zm_nrm (p q : Int × Int) : nrm (some p) * nrm (some q) = nrm (some (zm p q)) := by
 obtain ⟨a, b⟩ := p
 obtain ⟨c, d⟩ := q
 show (a * a + b * b) * (c * c + d * d) = (a * c - b * d) * (a * c - b * d) + (a * d + b * c) * (a * d + b * c)
 simp only [Int.mul_add, Int.add_mul, Int.mul_sub, Int.sub_mul]
 simp only [Int.mul_assoc, Int.mul_comm, Int.mul_left_comm]
 omega
theorem GaussTurns (a b c d : Nat) (n : Int) : ∃ k, toponymlaw14_GaussTurns.f k a b c d n = some true := by
 refine Ev.rounds ?_
 show Ev (fun k => toponymlaw14_GaussTurns.f k a b c d n) true
 obtain ⟨v, hv⟩ := zh_any (a, b)
 obtain ⟨u, hu⟩ := zh_any (c, d)
 have zero : ∀ r : (Nat × Nat) × Int, r.1 = (0, 0) → (Go.FloatKind.f64.format.order r.1.1 0 == some .eq && Go.FloatKind.f64.format.order r.1.2 0 == some .eq) = true := fun r e => by
  rw [e]
  exact both (same_ord zero_wh zero_wh) (same_ord zero_wh zero_wh)
 have j0 : Ev (fun k => toponymlaw14_GaussTurns.j0 k a b c d) true := by
  refine Ev.step (fun k => by simp only [toponymlaw14_GaussTurns.j0]; rfl) ?_
  refine ev_bind0 (z_ev a b) (ev_bind0 (z_ev c d) (Ev.bind (times_ev hv hu) ?_))
  have no : (ztimes v u).2 ≠ 0 → (ztimes v u).1 = (0, 0) → Ev (fun k => if (ztimes v u).2 = 0 then ((toponymlaw14_Two_z.f c d).bind fun t323 => ((toponymlaw14_Two_z.f a b).bind fun t324 => ((gauss_Times.f k t323 t324).bind fun bt325 => (if (Go.FloatKind.f64.format.order bt325.1.1 (ztimes v u).1.1 == some .eq && Go.FloatKind.f64.format.order bt325.1.2 (ztimes v u).1.2 == some .eq) = true then (if bt325.2 = 0 then ((gauss_Norm.f (ztimes v u).1).bind fun t327 => ((toponymlaw14_Two_z.f a b).bind fun t328 => ((gauss_Norm.f t328).bind fun t329 => ((toponymlaw14_Two_z.f c d).bind fun t330 => ((gauss_Norm.f t330).bind fun t331 => (if t327 = (wrap64 (t329 * t331)) then ((toponymlaw14_awake.f k).bind fun t332 => (some t332)) else (some false))))))) else (some false)) else (some false))))) else (if (Go.FloatKind.f64.format.order (ztimes v u).1.1 0 == some .eq && Go.FloatKind.f64.format.order (ztimes v u).1.2 0 == some .eq) = true then ((toponymlaw14_awake.f k).bind fun t322 => (some t322)) else (some false))) true := fun h1 h2 => ev_neg h1 (ev_pos (zero _ h2) fin14)
  rcases v with _ | p
  ·exact no (by simp [ztimes]) rfl
  rcases u with _ | q
  ·exact no (by simp [ztimes]) rfl
  by_cases f : fits (zm p q) = true
  ·have ez : ztimes (some p) (some q) = ((flt (zm p q).1, flt (zm p q).2), 0) := by unfold ztimes; dsimp only; rw [if_pos f]
   have ez2 : ztimes (some q) (some p) = ((flt (zm p q).1, flt (zm p q).2), 0) := by unfold ztimes; dsimp only; rw [zm_comm p q, if_pos f]
   have t2 := times_ev hu hv
   rw [ez2] at t2
   rw [ez]
   unfold fits at f
   simp only [Bool.and_eq_true, decide_eq_true_eq] at f
   have w1 := flt_wh f.1
   have w2 := flt_wh f.2
   have hz : Zh (flt (zm p q).1, flt (zm p q).2) (some (zm p q)) := ⟨w1, w2⟩
   refine ev_pos rfl (ev_bind0 (z_ev c d) (ev_bind0 (z_ev a b) (Ev.bind t2 (ev_pos (both (same_ord w1 w1) (same_ord w2 w2)) (ev_pos rfl ?_)))))
   refine ev_bind0 (nrm_ev hz) (ev_bind0 (z_ev a b) (ev_bind0 (nrm_ev hv) (ev_bind0 (z_ev c d) (ev_bind0 (nrm_ev hu) (ev_pos ?_ fin14)))))
   rw [zm_nrm]
   have s1 := sq_le f.1
   have s2 := sq_le f.2
   have e : nrm (some (zm p q)) = (zm p q).1 * (zm p q).1 + (zm p q).2 * (zm p q).2 := rfl
   rw [w64 (by omega) (by omega)]
  ·have ez : ztimes (some p) (some q) = ((0, 0), 3) := by unfold ztimes; dsimp only; rw [if_neg f]
   exact no (by rw [ez]; decide) (by rw [ez])
 unfold toponymlaw14_GaussTurns.f
 refine ev_bind0 (z_ev a b) (ev_bind0 (turn_ev hv n) ?_)
 have h1 := Int.lt_tmod_of_pos n (b := 4) (by omega)
 have h2 := Int.tmod_lt_of_pos n (b := 4) (by omega)
 rcases v with _ | p
 ·exact ev_neg (by simp [zturn]) j0
 ·have hr := rot_le (tn n) hv.1.2.2 hv.2.2.2
  have hz : Zh (flt (rot (tn n) p).1, flt (rot (tn n) p).2) (some (rot (tn n) p)) := ⟨flt_wh hr.1, flt_wh hr.2⟩
  refine ev_pos rfl ?_
  rw [w64 (by omega) (by omega)]
  have ht := turn_ev hz (4 - Int.tmod n 4)
  have e : zturn (4 - Int.tmod n 4) (some (rot (tn n) p)) = ((flt p.1, flt p.2), 0) := by unfold zturn; dsimp only; rw [rot_back]
  rw [e] at ht
  refine ev_bind0 ht (ev_pos rfl (ev_bind0 (z_ev a b) (ev_pos (both (same_ord (flt_wh hv.1.2.2) hv.1) (same_ord (flt_wh hv.2.2.2) hv.2)) ?_)))
  exact ev_bind0 (nrm_ev hz) (ev_bind0 (z_ev a b) (ev_bind0 (nrm_ev hv) (ev_pos (rot_nrm _ _) j0)))
end Go.Proofs.YtoadfanppajhhaaDoor.Pure
