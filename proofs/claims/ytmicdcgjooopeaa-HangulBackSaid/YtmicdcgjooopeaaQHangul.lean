import Derived.Test.YtmicdcgjooopeaaQSame
import Derived.Test.YtmicdcgjooopeaaT1
/- Layer 4 (hangul) over numbers and lists: what the program's and the reference's functions come to. -/
namespace Go.Proofs.Ytmicdcgjooopeaa.Pure
open Go.RowKit Go.Proofs.Ytmicdcgjooopeaa.P Go.Proofs.YtmicdcgjooopeaaW.PrintWords Go.Proofs.YtmicdcgjooopeaaW.PrintLast
set_option linter.unusedVariables false

namespace Hangul
def hSyl (r : Int) : Bool := decide (44032 ≤ r ∧ r ≤ 55203)
def hPart (r : Int) : Int :=
 if 4352 ≤ r ∧ r ≤ 4370 then 1 else if 4449 ≤ r ∧ r ≤ 4469 then 2 else if 4520 ≤ r ∧ r ≤ 4546 then 3
 else if 44032 ≤ r ∧ r ≤ 55203 then (if (r - 44032) % 28 = 0 then 4 else 5) else 0
def hApart (r : Int) : List Int :=
 if 44032 ≤ r ∧ r ≤ 55203 then
  (if (r - 44032) % 28 = 0 then [4352 + (r - 44032) / 28 / 21, 4449 + (r - 44032) / 28 % 21]
   else [4352 + (r - 44032) / 28 / 21, 4449 + (r - 44032) / 28 % 21, 4519 + (r - 44032) % 28])
 else [r]
def hJoin (a b : Int) : Int × Bool :=
 if hPart a = 1 ∧ hPart b = 2 then (44032 + ((a - 4352) * 21 + (b - 4449)) * 28, true)
 else if hPart a = 4 ∧ hPart b = 3 then (a + (b - 4519), true) else (0, false)
theorem hPart_one {r : Int} : hPart r = 1 ↔ 4352 ≤ r ∧ r ≤ 4370 := by
 unfold hPart
 repeat' split
 all_goals omega
theorem hPart_two {r : Int} : hPart r = 2 ↔ 4449 ≤ r ∧ r ≤ 4469 := by
 unfold hPart
 repeat' split
 all_goals omega
theorem hPart_three {r : Int} : hPart r = 3 ↔ 4520 ≤ r ∧ r ≤ 4546 := by
 unfold hPart
 repeat' split
 all_goals omega
theorem hPart_four {r : Int} : hPart r = 4 ↔ (44032 ≤ r ∧ r ≤ 55203) ∧ (r - 44032) % 28 = 0 := by
 unfold hPart
 repeat' split
 all_goals omega
def hStep (out : List Int) (r : Int) : List Int :=
 match out.getLast? with
 | none => [r]
 | some h => if (hJoin h r).2 = true then out.dropLast ++ [(hJoin h r).1] else out ++ [r]
def hWhole (l : List Int) : List Int := l.foldl hStep []
theorem hStep_length (out : List Int) (r : Int) : (hStep out r).length ≤ out.length + 1 := by
 unfold hStep
 cases h : out.getLast? with
 | none => simp
 | some x =>
  simp only
  split
  ·have : out.length ≠ 0 := by rintro h0; simp [List.length_eq_zero_iff.1 h0] at h
   simp
  ·simp
end Hangul
open Hangul

theorem syl_ev (r : Int) : hangul_Syllable.f r = some (hSyl r) := by
 unfold hangul_Syllable.f hSyl
 by_cases h : r ≥ 44032
 ·rw [if_pos h]; simp; omega
 ·rw [if_neg h]; simp; intro _; omega
theorem within_ev (r a b : Int) (h0 : 0 ≤ a) (h1 : a ≤ 10000) (h2 : 0 ≤ b) (h3 : b ≤ 10000) : hangul_within.f r a b = some (decide (a ≤ r ∧ r < a + b)) := by
 unfold hangul_within.f
 rw [w32 (by omega) (by omega)]
 by_cases h : r ≥ a
 ·rw [if_pos h]; simp; omega
 ·rw [if_neg h]; simp; intro _; omega
theorem part_ev (r : Int) : Ev (fun k => hangul_Part.f k r) (hPart r) := by
 unfold hangul_Part.f
 refine ev_bind0 (within_ev r 4352 19 (by omega) (by omega) (by omega) (by omega)) ?_
 refine ev_bool (fun h => ?_) (fun h => ?_)
 ·exact ev_some (by simp at h; unfold hPart; rw [if_pos (by omega)])
 refine ev_bind0 (within_ev r 4449 21 (by omega) (by omega) (by omega) (by omega)) ?_
 refine ev_bool (fun h2 => ?_) (fun h2 => ?_)
 ·exact ev_some (by simp at h h2; unfold hPart; rw [if_neg (by omega), if_pos (by omega)])
 refine ev_bind0 (within_ev r 4520 27 (by omega) (by omega) (by omega) (by omega)) ?_
 refine ev_bool (fun h3 => ?_) (fun h3 => ?_)
 ·exact ev_some (by simp at h h2 h3; unfold hPart; rw [if_neg (by omega), if_neg (by omega), if_pos (by omega)])
 refine ev_bind0 (syl_ev r) ?_
 refine ev_bool (fun h4 => ?_) (fun h4 => ?_)
 ·simp [hSyl] at h h2 h3 h4
  rw [w32 (by omega) (by omega), Int.tmod_eq_emod_of_nonneg (by omega)]
  have hp : hPart r = if (r - 44032) % 28 = 0 then 4 else 5 := by
   unfold hPart
   rw [if_neg (by omega), if_neg (by omega), if_neg (by omega), if_pos (by omega)]
  refine Ev.step (fun k => by simp only [hangul_Part.j0]; rfl) ?_
  refine ev_bool (fun h5 => ?_) (fun h5 => ?_)
  ·exact ev_some (by simp at h5; rw [hp, if_pos h5])
  ·refine ev_bind0 (syl_ev r) (ev_pos (by simp [hSyl]; omega) (ev_some ?_))
   simp at h5; rw [hp, if_neg h5]
 ·refine Ev.step (fun k => by simp only [hangul_Part.j0]; rfl) ?_
  refine ev_neg (by simp) ?_
  refine ev_bind0 (syl_ev r) ?_
  refine ev_neg (by simp [h4]) (ev_some ?_)
  simp [hSyl] at h h2 h3 h4
  unfold hPart
  rw [if_neg (by omega), if_neg (by omega), if_neg (by omega), if_neg (by omega)]
theorem apart_ev (r : Int) : hangul_Apart.f r = some (hApart r) := by
 unfold hangul_Apart.f hApart
 by_cases h : 44032 ≤ r ∧ r ≤ 55203
 ·rw [if_pos h, if_pos h]
  split <;> rfl
 ·rw [if_neg (by omega), if_neg h]
theorem join_ev (a b : Int) : Ev (fun k => hangul_Join.f k a b) (hJoin a b) := by
 unfold hangul_Join.f
 refine Ev.bind (part_ev a) (Ev.bind (part_ev b) ?_)
 refine ev_ite (fun h => ev_some ?_) (fun h => ?_)
 ·have h1 := hPart_one.1 h.1
  have h2 := hPart_two.1 h.2
  unfold hJoin
  rw [if_pos h, w32 (x := a - 4352) (by omega) (by omega), w32 (x := (a - 4352) * 21) (by omega) (by omega), w32 (x := (a - 4352) * 21 + b) (by omega) (by omega), w32 (x := (a - 4352) * 21 + b - 4449) (by omega) (by omega),
   w32 (x := ((a - 4352) * 21 + b - 4449) * 28) (by omega) (by omega), w32 (by omega) (by omega)]
  simp only [Prod.mk.injEq, and_true]
  omega
 ·refine ev_ite (fun h2 => ev_some ?_) (fun h2 => ev_some ?_)
  ·have h3 := hPart_four.1 h2.1
   have h4 := hPart_three.1 h2.2
   unfold hJoin
   rw [if_neg h, if_pos h2, w32 (x := a + b) (by omega) (by omega), w32 (x := a + b - 4520) (by omega) (by omega), w32 (by omega) (by omega)]
   simp only [Prod.mk.injEq, and_true]
   omega
  ·unfold hJoin
   rw [if_neg h, if_neg h2]
theorem whole_loop (pre suf out : List Int) (hl : pre.length + suf.length ≤ 1000000) (ho : out.length ≤ pre.length) :
  Ev (fun k => hangul_Whole.l0 k out (pre ++ suf) ((pre ++ suf).length : Int) (pre.length : Int)) (suf.foldl hStep out) := by
 induction suf generalizing pre out with
 | nil =>
  refine Ev.step (fun k => by simp only [hangul_Whole.l0]; rfl) ?_
  exact ev_neg (by simp) (Ev.now _)
 | cons a suf ih =>
  refine Ev.step (fun k => by simp only [hangul_Whole.l0]; rfl) ?_
  simp only [List.length_cons] at hl
  have hw : wrap64 ((pre.length : Int) + 1) = ((pre ++ [a]).length : Int) := by rw [w64 (by omega) (by omega), len_snoc]
  refine ev_pos (mid_lt pre a suf) (ev_pos (by omega) (ev_pos (mid_lt pre a suf) ?_))
  have hw2 : wrap64 ((out.length : Int) - 1) = (out.length : Int) - 1 := w64 (by omega) (by omega)
  have hnext : ∀ out', out'.length ≤ out.length + 1 → out' = hStep out a → Ev (fun k => hangul_Whole.l0 k out' (pre ++ a :: suf) ((pre ++ a :: suf).length : Int) (wrap64 ((pre.length : Int) + 1))) ((a :: suf).foldl hStep out) := by
   intro out' h1 h2
   rw [hw, mid_snoc, List.foldl_cons, ← h2]
   exact ih (pre ++ [a]) out' (by simp; omega) (by simp; omega)
  rw [hw2, rd_mid]
  rcases List.eq_nil_or_concat out with rfl | ⟨o, h, rfl⟩
  ·refine ev_neg (by simp) (ev_pos (by simp) ?_)
   exact hnext _ (by simp) (by simp [hStep])
  ·have e1 : rd (o ++ [h]) (((o ++ [h]).length : Int) - 1) = h := by
    have e0 : ((o ++ [h]).length : Int) - 1 = o.length := by simp
    rw [e0]
    exact rd_mid o h []
   simp only [List.concat_eq_append] at *
   refine ev_pos (by simp) (ev_pos (by simp) (ev_pos (by omega) ?_))
   rw [e1]
   refine Ev.bind (join_ev h a) ?_
   refine ev_bool (fun hj => ?_) (fun hj => ?_)
   ·have e2 : (o ++ [h]).set (((o ++ [h]).length : Int) - 1).toNat (hJoin h a).1 = o ++ [(hJoin h a).1] := by
     have : (((o ++ [h]).length : Int) - 1).toNat = o.length := by simp
     rw [this, List.set_append_right _ _ (Nat.le_refl _)]
     simp
    rw [e2]
    exact hnext _ (by simp) (by simp [hStep, hj])
   ·refine ev_pos (by simp at ho ⊢; omega) ?_
    exact hnext _ (by simp) (by simp [hStep, hj])
theorem whole_ev (l : List Int) (hl : l.length ≤ 1000000) : Ev (fun k => hangul_Whole.f k l) (hWhole l) := by
 unfold hangul_Whole.f
 exact whole_loop [] l [] (by simpa using hl) (by simp)
end Go.Proofs.Ytmicdcgjooopeaa.Pure
