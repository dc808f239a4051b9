import Derived.Test.YtpihglokjcbjkaaQJoin
import Derived.Test.YtpihglokjcbjkaaT6
import Derived.Test.YtpihglokjcbjkaaT7
/- The reference's Part and Join are the program's. -/
namespace Go.Proofs.Ytpihglokjcbjkaa.Pure
open Go.RowKit Go.Proofs.Ytpihglokjcbjkaa.P Go.Proofs.YtpihglokjcbjkaaW.PrintWords Go.Proofs.YtpihglokjcbjkaaW.PrintLast
open Hangul
set_option linter.unusedVariables false
set_option linter.unusedSimpArgs false
theorem rhsyl_ev (r : Int) : toponymref04_Syllable.f r = some (hSyl r) := by
 unfold toponymref04_Syllable.f hSyl
 by_cases h : r ≥ 44032
 ·rw [if_pos h]; simp; omega
 ·rw [if_neg h]; simp; intro _; omega
theorem rpart_ev (r : Int) : Ev (fun k => toponymref04_Part.f k r) (hPart r) := by
 have hfin : ∀ b c d : Bool, (b = true ↔ (4352 ≤ r ∧ r ≤ 4370)) → (c = true ↔ (4449 ≤ r ∧ r ≤ 4469)) → (d = true ↔ (4520 ≤ r ∧ r ≤ 4546)) → True := fun _ _ _ _ _ _ => trivial
 have h3 : ∀ d : Bool, (d = true ↔ (4520 ≤ r ∧ r ≤ 4546)) → ¬ (4352 ≤ r ∧ r ≤ 4370) → ¬ (4449 ≤ r ∧ r ≤ 4469) → Ev (fun k => toponymref04_Part.j2 k r d) (hPart r) := by
  intro d hd n1 n2
  refine Ev.step (fun k => by simp only [toponymref04_Part.j2]; rfl) ?_
  refine ev_bool (fun h => ev_some ?_) (fun h => ?_)
  ·have := hd.1 h; unfold hPart; rw [if_neg n1, if_neg n2, if_pos this]
  have n3 : ¬ (4520 ≤ r ∧ r ≤ 4546) := fun h2 => by rw [hd.2 h2] at h; cases h
  refine ev_bind0 (rhsyl_ev r) ?_
  refine ev_bool (fun h4 => ?_) (fun h4 => ev_some ?_)
  ·simp [hSyl] at h4
   rw [w32 (by omega) (by omega), Int.tmod_eq_emod_of_nonneg (by omega)]
   refine ev_ite (fun h5 => ev_some ?_) (fun h5 => ev_some ?_)
   ·unfold hPart; rw [if_neg n1, if_neg n2, if_neg n3, if_pos h4, if_pos h5]
   ·unfold hPart; rw [if_neg n1, if_neg n2, if_neg n3, if_pos h4, if_neg h5]
  ·simp [hSyl] at h4
   unfold hPart; rw [if_neg n1, if_neg n2, if_neg n3, if_neg (by omega)]
 have h2 : ∀ c : Bool, (c = true ↔ (4449 ≤ r ∧ r ≤ 4469)) → ¬ (4352 ≤ r ∧ r ≤ 4370) → Ev (fun k => toponymref04_Part.j1 k r c) (hPart r) := by
  intro c hc n1
  refine Ev.step (fun k => by simp only [toponymref04_Part.j1]; rfl) ?_
  refine ev_bool (fun h => ev_some ?_) (fun h => ?_)
  ·have := hc.1 h; unfold hPart; rw [if_neg n1, if_pos this]
  have n2 : ¬ (4449 ≤ r ∧ r ≤ 4469) := fun h2 => by rw [hc.2 h2] at h; cases h
  refine ev_ite (fun h => h3 _ ?_ n1 n2) (fun h => h3 _ ?_ n1 n2)
  ·simp; omega
  ·simp; omega
 have h1 : ∀ b : Bool, (b = true ↔ (4352 ≤ r ∧ r ≤ 4370)) → Ev (fun k => toponymref04_Part.j0 k r b) (hPart r) := by
  intro b hb
  refine Ev.step (fun k => by simp only [toponymref04_Part.j0]; rfl) ?_
  refine ev_bool (fun h => ev_some ?_) (fun h => ?_)
  ·have := hb.1 h; unfold hPart; rw [if_pos this]
  have n1 : ¬ (4352 ≤ r ∧ r ≤ 4370) := fun h2 => by rw [hb.2 h2] at h; cases h
  refine ev_ite (fun h => h2 _ ?_ n1) (fun h => h2 _ ?_ n1)
  ·simp; omega
  ·simp; omega
 unfold toponymref04_Part.f
 refine ev_ite (fun h => h1 _ ?_) (fun h => h1 _ ?_)
 ·simp; omega
 ·simp; omega
theorem rjoin_ev (a b : Int) : Ev (fun k => toponymref04_Join.f k a b) (hJoin a b) := by
 have h0 : ∀ c : Bool, (c = true ↔ (hPart a = 1 ∧ hPart b = 2)) → Ev (fun k => toponymref04_Join.j0 k a b c) (hJoin a b) := by
  intro c hc
  refine Ev.step (fun k => by simp only [toponymref04_Join.j0]; rfl) ?_
  refine ev_bool (fun h => ev_some ?_) (fun h => ?_)
  ·have h' := hc.1 h
   have h1 := hPart_one.1 h'.1
   have h2 := hPart_two.1 h'.2
   unfold hJoin
   rw [if_pos h', w32 (x := a - 4352) (by omega) (by omega), w32 (x := 588 * (a - 4352)) (by omega) (by omega), w32 (x := 44032 + _) (by omega) (by omega), w32 (x := b - 4449) (by omega) (by omega),
    w32 (x := 28 * _) (by omega) (by omega), w32 (by omega) (by omega)]
   simp only [Prod.mk.injEq, and_true]
   omega
  have n1 : ¬ (hPart a = 1 ∧ hPart b = 2) := fun h2 => by rw [hc.2 h2] at h; cases h
  refine Ev.bind (rpart_ev a) ?_
  refine ev_ite (fun h4 => ?_) (fun h4 => ev_some ?_)
  ·refine Ev.bind (rpart_ev b) ?_
   refine ev_ite (fun h3 => ev_some ?_) (fun h3 => ev_some ?_)
   ·have h5 := hPart_four.1 h4
    have h6 := hPart_three.1 h3
    unfold hJoin
    rw [if_neg n1, if_pos ⟨h4, h3⟩, w32 (x := b - 4519) (by omega) (by omega), w32 (by omega) (by omega)]
   ·unfold hJoin
    rw [if_neg n1, if_neg (fun h => h3 h.2)]
  ·unfold hJoin
   rw [if_neg n1, if_neg (fun h => h4 h.1)]
 unfold toponymref04_Join.f
 refine Ev.bind (rpart_ev a) ?_
 refine ev_ite (fun h => ?_) (fun h => h0 _ (by simp [h]))
 refine Ev.bind (rpart_ev b) ?_
 exact h0 _ (by simp [h])
end Go.Proofs.Ytpihglokjcbjkaa.Pure
