import Derived.Test.YtbffakgmlgimeaaQBase
import Derived.Test.YtbffakgmlgimeaaP6
import Derived.Test.YtbffakgmlgimeaaP7
/- hangul.Syllable, Part, Join. -/
namespace Go.Proofs.Ytbffakgmlgimeaa.Pure
open Go.RowKit Go.Proofs.Ytbffakgmlgimeaa.P Go.Proofs.YtbffakgmlgimeaaW.PrintWords Go.Proofs.YtbffakgmlgimeaaW.PrintLast
set_option linter.unusedVariables false
set_option linter.unusedSimpArgs false
set_option maxRecDepth 100000
namespace Hangul
def hSyl (r : Int) : Bool := decide (44032 ≤ r ∧ r ≤ 55203)
def hPart (r : Int) : Int :=
 if 4352 ≤ r ∧ r ≤ 4370 then 1 else if 4449 ≤ r ∧ r ≤ 4469 then 2 else if 4520 ≤ r ∧ r ≤ 4546 then 3
 else if 44032 ≤ r ∧ r ≤ 55203 then (if (r - 44032) % 28 = 0 then 4 else 5) else 0
def hApart (r : Int) : List Int :=
 if 44032 ≤ r ∧ r ≤ 55203 then
  (if (r - 44032) % 28 = 0 then [4352 + (r - 44032) / 28 / 21, 4449 + (r - 44032) / 28 % 21]
   else [4352 + (r - 44032) / 28 / 21, 4449 + (r - 44032) / 28 % 21, 4519 + (r - 44032) % 28])
 else [r]
def hJoin (a b : Int) : Int × Bool :=
 if hPart a = 1 ∧ hPart b = 2 then (44032 + ((a - 4352) * 21 + (b - 4449)) * 28, true)
 else if hPart a = 4 ∧ hPart b = 3 then (a + (b - 4519), true) else (0, false)
theorem hPart_one {r : Int} : hPart r = 1 ↔ 4352 ≤ r ∧ r ≤ 4370 := by
 unfold hPart
 repeat' split
 all_goals omega
theorem hPart_two {r : Int} : hPart r = 2 ↔ 4449 ≤ r ∧ r ≤ 4469 := by
 unfold hPart
 repeat' split
 all_goals omega
theorem hPart_three {r : Int} : hPart r = 3 ↔ 4520 ≤ r ∧ r ≤ 4546 := by
 unfold hPart
 repeat' split
 all_goals omega
theorem hPart_four {r : Int} : hPart r = 4 ↔ (44032 ≤ r ∧ r ≤ 55203) ∧ (r - 44032) % 28 = 0 := by
 unfold hPart
 repeat' split
 all_goals omega
end Hangul
open Hangul
theorem hsyl_ev (r : Int) : hangul_Syllable.f r = some (hSyl r) := by
 unfold hangul_Syllable.f hSyl
 by_cases h : r ≥ 44032
 ·rw [if_pos h]; simp; omega
 ·rw [if_neg h]; simp; intro _; omega
theorem within_ev (r a b : Int) (h0 : 0 ≤ a) (h1 : a ≤ 10000) (h2 : 0 ≤ b) (h3 : b ≤ 10000) : hangul_within.f r a b = some (decide (a ≤ r ∧ r < a + b)) := by
 unfold hangul_within.f
 rw [w32 (by omega) (by omega)]
 by_cases h : r ≥ a
 ·rw [if_pos h]; simp; omega
 ·rw [if_neg h]; simp; intro _; omega
theorem part_ev (r : Int) : Ev (fun k => hangul_Part.f k r) (hPart r) := by
 unfold hangul_Part.f
 refine ev_bind0 (within_ev r 4352 19 (by omega) (by omega) (by omega) (by omega)) ?_
 refine ev_bool (fun h => ?_) (fun h => ?_)
 ·exact ev_some (by simp at h; unfold hPart; rw [if_pos (by omega)])
 refine ev_bind0 (within_ev r 4449 21 (by omega) (by omega) (by omega) (by omega)) ?_
 refine ev_bool (fun h2 => ?_) (fun h2 => ?_)
 ·exact ev_some (by simp at h h2; unfold hPart; rw [if_neg (by omega), if_pos (by omega)])
 refine ev_bind0 (within_ev r 4520 27 (by omega) (by omega) (by omega) (by omega)) ?_
 refine ev_bool (fun h3 => ?_) (fun h3 => ?_)
 ·exact ev_some (by simp at h h2 h3; unfold hPart; rw [if_neg (by omega), if_neg (by omega), if_pos (by omega)])
 refine ev_bind0 (hsyl_ev r) ?_
 refine ev_bool (fun h4 => ?_) (fun h4 => ?_)
 ·simp [hSyl] at h h2 h3 h4
  rw [w32 (by omega) (by omega), Int.tmod_eq_emod_of_nonneg (by omega)]
  have hp : hPart r = if (r - 44032) % 28 = 0 then 4 else 5 := by
   unfold hPart
   rw [if_neg (by omega), if_neg (by omega), if_neg (by omega), if_pos (by omega)]
  refine Ev.step (fun k => by simp only [hangul_Part.j0]; rfl) ?_
  refine ev_bool (fun h5 => ?_) (fun h5 => ?_)
  ·exact ev_some (by simp at h5; rw [hp, if_pos h5])
  ·refine ev_bind0 (hsyl_ev r) (ev_pos (by simp [hSyl]; omega) (ev_some ?_))
   simp at h5; rw [hp, if_neg h5]
 ·refine Ev.step (fun k => by simp only [hangul_Part.j0]; rfl) ?_
  refine ev_neg (by simp) ?_
  refine ev_bind0 (hsyl_ev r) ?_
  refine ev_neg (by simp [h4]) (ev_some ?_)
  simp [hSyl] at h h2 h3 h4
  unfold hPart
  rw [if_neg (by omega), if_neg (by omega), if_neg (by omega), if_neg (by omega)]
theorem join_ev (a b : Int) : Ev (fun k => hangul_Join.f k a b) (hJoin a b) := by
 unfold hangul_Join.f
 refine Ev.bind (part_ev a) (Ev.bind (part_ev b) ?_)
 refine ev_ite (fun h => ev_some ?_) (fun h => ?_)
 ·have h1 := hPart_one.1 h.1
  have h2 := hPart_two.1 h.2
  unfold hJoin
  rw [if_pos h, w32 (x := a - 4352) (by omega) (by omega), w32 (x := (a - 4352) * 21) (by omega) (by omega), w32 (x := (a - 4352) * 21 + b) (by omega) (by omega), w32 (x := (a - 4352) * 21 + b - 4449) (by omega) (by omega),
   w32 (x := ((a - 4352) * 21 + b - 4449) * 28) (by omega) (by omega), w32 (by omega) (by omega)]
  simp only [Prod.mk.injEq, and_true]
  omega
 ·refine ev_ite (fun h2 => ev_some ?_) (fun h2 => ev_some ?_)
  ·have h3 := hPart_four.1 h2.1
   have h4 := hPart_three.1 h2.2
   unfold hJoin
   rw [if_neg h, if_pos h2, w32 (x := a + b) (by omega) (by omega), w32 (x := a + b - 4520) (by omega) (by omega), w32 (by omega) (by omega)]
   simp only [Prod.mk.injEq, and_true]
   omega
  ·unfold hJoin
   rw [if_neg h, if_neg h2]
theorem hApart_length (r : Int) : 1 ≤ (hApart r).length ∧ (hApart r).length ≤ 3 := by
 unfold hApart
 repeat' split
 all_goals simp
theorem hApart_other {r : Int} (h : ¬ (44032 ≤ r ∧ r ≤ 55203)) : hApart r = [r] := by
 unfold hApart
 rw [if_neg h]
theorem hJoin_apart {a b : Int} (h : (hJoin a b).2 = true) : hApart (hJoin a b).1 = hApart a ++ [b] ∧ hApart b = [b] ∧ (44032 ≤ (hJoin a b).1 ∧ (hJoin a b).1 ≤ 55203) := by
 unfold hJoin at h ⊢
 by_cases c : hPart a = 1 ∧ hPart b = 2
 ·rw [if_pos c] at h ⊢
  have h1 := hPart_one.1 c.1
  have h2 := hPart_two.1 c.2
  refine ⟨?_, hApart_other (by omega), by simp only; omega⟩
  rw [hApart_other (r := a) (by omega)]
  unfold hApart
  simp only
  rw [if_pos (by omega), if_pos (by omega)]
  simp only [List.cons_append, List.nil_append, List.cons.injEq, and_true]
  omega
 ·rw [if_neg c] at h ⊢
  by_cases c2 : hPart a = 4 ∧ hPart b = 3
  ·rw [if_pos c2] at h ⊢
   have h1 := hPart_four.1 c2.1
   have h2 := hPart_three.1 c2.2
   refine ⟨?_, hApart_other (by omega), by simp only; omega⟩
   unfold hApart
   simp only
   rw [if_pos (by omega), if_neg (by omega), if_pos h1.1, if_pos h1.2]
   simp only [List.cons_append, List.nil_append, List.cons.injEq, and_true]
   omega
  ·rw [if_neg c2] at h
   cases h
theorem hJoin_no {a b : Int} (h : (hJoin a b).2 = false) : (hJoin a b) = (0, false) := by
 unfold hJoin at h ⊢
 repeat' split at h
 ·cases h
 ·cases h
 ·rename_i h1 h2
  rw [if_neg h1, if_neg h2]
theorem hJoin_second {a b : Int} (h : (hJoin a b).2 = true) : hPart b = 2 ∨ hPart b = 3 := by
 unfold hJoin at h
 repeat' split at h
 ·rename_i h1; exact .inl h1.2
 ·rename_i h1; exact .inr h1.2
 ·cases h
theorem hJoin_false {a b : Int} (h : hPart b ≠ 2 ∧ hPart b ≠ 3) : (hJoin a b).2 = false := by
 cases e : (hJoin a b).2
 ·rfl
 ·exact ((hJoin_second e).elim h.1 h.2).elim
theorem hPart_syl {r : Int} (h : 44032 ≤ r ∧ r ≤ 55203) : hPart r ≠ 2 ∧ hPart r ≠ 3 := by
 constructor
 ·intro e; have := hPart_two.1 e; omega
 ·intro e; have := hPart_three.1 e; omega
end Go.Proofs.Ytbffakgmlgimeaa.Pure
