import Derived.Test.YtoadfanppajhhaaDoorQGaussOps
import Derived.Test.YtoadfanppajhhaaDoorQGaussAwake
import Derived.Test.YtoadfanppajhhaaDoorP7
/- GaussOrder: the order is one: of two numbers one is first, or they are the same; of three the first of the first two is ahead of the third, if the second is; no condition. -/
namespace Go.Proofs.YtoadfanppajhhaaDoor.Pure
open Go.RowKit Go.Proofs.YtoadfanppajhhaaDoor.P Go.Proofs.YtoadfanppajhhaaDoorW.PrintWords Go.Proofs.YtoadfanppajhhaaDoorW.PrintLast
set_option linter.unusedVariables false
set_option linter.unusedSimpArgs false
theorem same_ord {b c : Nat} {n : Int} (h1 : Wh b n) (h2 : Wh c n) : (Go.FloatKind.f64.format.order b c == some .eq) = true := by
 rw [ord_wh h1 h2, (Fl.compare_eq _ _).1.mpr rfl]
 rfl
def key : Option (Int × Int) → Int × Int × Int
 | some p => (nrm (some p), p.1, p.2)
 | none => (-1, 0, 0)
def le3 (x y : Int × Int × Int) : Prop := x.1 < y.1 ∨ (x.1 = y.1 ∧ (x.2.1 < y.2.1 ∨ (x.2.1 = y.2.1 ∧ x.2.2 ≤ y.2.2)))
theorem cmpI_lt {a b : Int} (h : a < b) : cmpI a b = -1 := by unfold cmpI; rw [if_pos h]
theorem cmpI_gt {a b : Int} (h : b < a) : cmpI a b = 1 := by unfold cmpI; rw [if_neg (by omega), if_pos h]
theorem cmpI_eq (a : Int) : cmpI a a = 0 := by unfold cmpI; rw [if_neg (by omega), if_neg (by omega)]
def lx (x y : Int × Int × Int) : Int := thn (cmpI x.1 y.1) (thn (cmpI x.2.1 y.2.1) (cmpI x.2.2 y.2.2))
theorem lx_cases (x y : Int × Int × Int) : (lx x y = -1 ∧ le3 x y ∧ ¬ le3 y x) ∨ (lx x y = 0 ∧ x = y) ∨ (lx x y = 1 ∧ le3 y x ∧ ¬ le3 x y) := by
 obtain ⟨a, b, c⟩ := x
 obtain ⟨d, e, f⟩ := y
 unfold lx le3
 dsimp only
 rcases Int.lt_trichotomy a d with h | h | h
 ·rw [cmpI_lt h]; refine .inl ⟨rfl, ?_, ?_⟩ <;> omega
 ·subst h
  rw [cmpI_eq]
  rcases Int.lt_trichotomy b e with h | h | h
  ·rw [cmpI_lt h]; refine .inl ⟨rfl, ?_, ?_⟩ <;> omega
  ·subst h
   rw [cmpI_eq]
   rcases Int.lt_trichotomy c f with h | h | h
   ·rw [cmpI_lt h]; refine .inl ⟨rfl, ?_, ?_⟩ <;> omega
   ·subst h
    rw [cmpI_eq]; exact .inr (.inl ⟨rfl, rfl⟩)
   ·rw [cmpI_gt h]; refine .inr (.inr ⟨rfl, ?_, ?_⟩) <;> omega
  ·rw [cmpI_gt h]; refine .inr (.inr ⟨rfl, ?_, ?_⟩) <;> omega
 ·rw [cmpI_gt h]; refine .inr (.inr ⟨rfl, ?_, ?_⟩) <;> omega
theorem le3_self (x : Int × Int × Int) : le3 x x := by unfold le3; omega
theorem le3_trans {x y z : Int × Int × Int} (h1 : le3 x y) (h2 : le3 y z) : le3 x z := by unfold le3 at *; omega
theorem zcmp_lx (v u : Option (Int × Int)) : zcmp v u = lx (key v) (key u) := by
 unfold zcmp lx key
 rcases v with _ | p <;> rcases u with _ | q
 ·rfl
 ·have := nrm_pos q
  have e : nrm none = -1 := rfl
  dsimp only
  rw [e, cmpI_lt (show (-1 : Int) < nrm (some q) by omega)]
  rfl
 ·have := nrm_pos p
  have e : nrm none = -1 := rfl
  dsimp only
  rw [e, cmpI_gt (show (-1 : Int) < nrm (some p) by omega)]
  rfl
 ·rfl
theorem key_inj {v u : Option (Int × Int)} (h : key v = key u) : v = u := by
 rcases v with _ | p <;> rcases u with _ | q
 ·rfl
 ·have := nrm_pos q
  have := congrArg (·.1) h
  simp only [key] at this
  omega
 ·have := nrm_pos p
  have := congrArg (·.1) h
  simp only [key] at this
  omega
 ·simp only [key, Prod.mk.injEq] at h
  rw [Prod.ext h.2.1 h.2.2]
theorem zc_cases (v u : Option (Int × Int)) : (zcmp v u = -1 ∧ zcmp u v = 1) ∨ (zcmp v u = 0 ∧ zcmp u v = 0 ∧ v = u) ∨ (zcmp v u = 1 ∧ zcmp u v = -1) := by
 rw [zcmp_lx, zcmp_lx]
 rcases lx_cases (key v) (key u) with ⟨h1, h2, h3⟩ | ⟨h1, h2⟩ | ⟨h1, h2, h3⟩ <;> rcases lx_cases (key u) (key v) with ⟨g1, g2, g3⟩ | ⟨g1, g2⟩ | ⟨g1, g2, g3⟩
 ·exact absurd g2 h3
 ·rw [g2] at h3; exact absurd (le3_self _) h3
 ·exact .inl ⟨h1, g1⟩
 ·rw [h2] at g3; exact absurd (le3_self _) g3
 ·exact .inr (.inl ⟨h1, g1, key_inj h2⟩)
 ·rw [h2] at g3; exact absurd (le3_self _) g3
 ·exact .inr (.inr ⟨h1, g1⟩)
 ·rw [g2] at h3; exact absurd (le3_self _) h3
 ·exact absurd g2 h3
theorem zc_le (v u : Option (Int × Int)) : zcmp v u ≤ 0 ↔ le3 (key v) (key u) := by
 rw [zcmp_lx]
 rcases lx_cases (key v) (key u) with ⟨h1, h2, h3⟩ | ⟨h1, h2⟩ | ⟨h1, h2, h3⟩
 ·exact ⟨fun _ => h2, fun _ => by omega⟩
 ·exact ⟨fun _ => by rw [h2]; exact le3_self _, fun _ => by omega⟩
 ·exact ⟨fun h => by omega, fun h => absurd h h3⟩
theorem zc_trans {v u w : Option (Int × Int)} (h1 : zcmp v u ≤ 0) (h2 : zcmp u w ≤ 0) : zcmp v w ≤ 0 := (zc_le v w).mpr (le3_trans ((zc_le v u).mp h1) ((zc_le u w).mp h2))
theorem zc_trans' {v u w : Option (Int × Int)} (h1 : 0 ≤ zcmp v u) (h2 : 0 ≤ zcmp u w) : 0 ≤ zcmp v w := by
 have a := zc_cases v u
 have b := zc_cases u w
 have c := zc_cases v w
 have := zc_trans (v := w) (u := u) (w := v) (by omega) (by omega)
 omega
theorem GaussOrder (x0 x1 y0 y1 z0 z1 : Nat) : ∃ k, toponymlaw14_GaussOrder.f k x0 x1 y0 y1 z0 z1 = some true := by
 refine Ev.rounds ?_
 show Ev (fun k => toponymlaw14_GaussOrder.f k x0 x1 y0 y1 z0 z1) true
 obtain ⟨v, hv⟩ := zh_any (x0, x1)
 obtain ⟨u, hu⟩ := zh_any (y0, y1)
 obtain ⟨w, hw⟩ := zh_any (z0, z1)
 have cA := zc_cases v u
 have cB := zc_cases u w
 have cC := zc_cases v w
 have t1 := @zc_trans v u w
 have t2 := @zc_trans' v u w
 have j0 : Ev (fun k => toponymlaw14_GaussOrder.j0 k (zcmp v u) false x0 x1 y0 y1) true := by
  refine Ev.step (fun k => by simp only [toponymlaw14_GaussOrder.j0]; rfl) ?_
  refine ev_neg (by simp) (ev_bind0 (z_ev x0 x1) (ev_bind0 (z_ev y0 y1) (ev_ite (fun c => ?_) (fun c => ?_))))
  ·refine ev_pos ?_ fin14
   simp only [Bool.and_eq_true] at c
   have c1 := (oeq_iff _).mp c.1
   have c2 := (oeq_iff _).mp c.2
   have e : v = u := by
    rcases v with _ | p
    ·rcases u with _ | q
     ·rfl
     ·exact absurd ⟨ord_eq' c1 hu.1, ord_eq' c2 hu.2⟩ (hv q.1 q.2)
    ·exact Zh.same (z := (y0, y1)) ⟨ord_eq c1 hv.1, ord_eq c2 hv.2⟩ hu
   have h0 : zcmp v u = 0 := by
    have := zc_cases v v
    rw [← e]
    omega
   rw [h0]; rfl
  ·refine ev_bind0 (z_ev x0 x1) (ev_bind0 (fits_ev hv) ?_)
   rcases v with _ | p
   ·refine ev_neg (by simp) (ev_bind0 (z_ev y0 y1) (ev_bind0 (fits_ev hu) (ev_pos ?_ fin14)))
    rcases u with _ | q
    ·rfl
    ·rcases cA with h | h | h
     ·rw [h.1]; rfl
     ·cases h.2.2
     ·rw [h.1]; rfl
   ·refine ev_pos rfl (ev_pos ?_ fin14)
    rcases cA with h | h | h
    ·rw [h.1]; rfl
    ·have := h.2.2
     subst this
     refine absurd ?_ c
     rw [same_ord hv.1 hu.1, same_ord hv.2 hu.2]
     rfl
    ·rw [h.1]; rfl
 unfold toponymlaw14_GaussOrder.f
 refine ev_bind0 (z_ev x0 x1) (ev_bind0 (z_ev y0 y1) (Ev.bind (zcmp_ev hv hu) (ev_bind0 (z_ev y0 y1) (ev_bind0 (z_ev z0 z1) (Ev.bind (zcmp_ev hu hw) (ev_bind0 (z_ev x0 x1) (ev_bind0 (z_ev z0 z1) (Ev.bind (zcmp_ev hv hw) (ev_bind0 (z_ev y0 y1) (ev_bind0 (z_ev x0 x1) (Ev.bind (zcmp_ev hu hv) ?_)))))))))))
 refine ev_pos (by rw [w64 (by omega) (by omega)]; omega) ?_
 have fl : ∀ b : Bool, b = false → Ev (fun k => toponymlaw14_GaussOrder.j0 k (zcmp v u) b x0 x1 y0 y1) true := fun b e => by rw [e]; exact j0
 refine ev_ite (fun a1 => ?_) (fun a1 => ?_)
 ·refine ev_ite (fun b1 => ?_) (fun b1 => ?_)
  ·refine ev_neg (by have := t1 a1 b1; omega) (ev_ite (fun a2 => ev_ite (fun b2 => fl _ (decide_eq_false (by have := t2 a2 b2; omega))) (fun _ => j0)) (fun _ => j0))
  ·exact ev_ite (fun a2 => ev_ite (fun b2 => fl _ (decide_eq_false (by have := t2 a2 b2; omega))) (fun _ => j0)) (fun _ => j0)
 ·exact ev_ite (fun a2 => ev_ite (fun b2 => fl _ (decide_eq_false (by have := t2 a2 b2; omega))) (fun _ => j0)) (fun _ => j0)
end Go.Proofs.YtoadfanppajhhaaDoor.Pure
