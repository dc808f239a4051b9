import Derived.Test.YtpihglokjcbjkaaQNfkcText
import Derived.Test.YtpihglokjcbjkaaT3
/- The numbers of a normal form are no greater than a code point, or what they were. -/
namespace Go.Proofs.Ytpihglokjcbjkaa.Pure
open Go.RowKit Go.Proofs.Ytpihglokjcbjkaa.P Go.Proofs.YtpihglokjcbjkaaW.PrintWords Go.Proofs.YtpihglokjcbjkaaW.PrintLast
open Hangul Utf
set_option linter.unusedVariables false
set_option linter.unusedSimpArgs false
set_option maxRecDepth 100000
def inW (x : Int) : Prop := -2147483648 ≤ x ∧ x ≤ 2147483647
def lowW (l : List Int) : Bool := l.all (fun x => decide (0 ≤ x) && decide (x < 1114112))
theorem lowW_in {l : List Int} (h : lowW l = true) : ∀ x ∈ l, inW x := by
 intro x hx
 have := List.all_eq_true.1 h x hx
 simp only [Bool.and_eq_true, decide_eq_true_eq] at this
 unfold inW
 omega
theorem dOne_in_t : dLIST.all (fun r => lowW ((decomp_One.f 60 r true).getD [])) = true := by decide +kernel
theorem dOne_in_f : dLIST.all (fun r => lowW ((decomp_One.f 60 r false).getD [])) = true := by decide +kernel
theorem dOne_in (b : Bool) {r : Int} (hr : inW r) : ∀ x ∈ dOne b r, inW x := by
 unfold dOne
 by_cases c : 44032 ≤ r ∧ r ≤ 55203
 ·rw [if_pos c]
  refine lowW_in ?_
  unfold hParts
  split
  ·simp [lowW]; omega
  ·simp [lowW]; omega
 rw [if_neg c]
 by_cases d : inR dR r = true
 ·rw [if_pos d]
  refine lowW_in ?_
  cases b
  ·exact List.all_eq_true.1 dOne_in_f r (mem_dLIST d)
  ·exact List.all_eq_true.1 dOne_in_t r (mem_dLIST d)
 ·rw [if_neg d]
  intro x hx
  rw [List.mem_singleton.1 hx]
  exact hr
theorem dAll_in (b : Bool) {l : List Int} (h : ∀ r ∈ l, inW r) : ∀ x ∈ dAll b l, inW x := by
 intro x hx
 obtain ⟨r, hr, hx⟩ := List.mem_flatMap.1 hx
 unfold dStep at hx
 split at hx
 ·rw [List.mem_singleton.1 hx]; exact h r hr
 split at hx
 ·rw [List.mem_singleton.1 hx]; exact h r hr
 ·exact dOne_in b (h r hr) x hx
theorem tri_in : TRIPLES.all (fun t => decide (0 ≤ t.2.2) && decide (t.2.2 < 1114112)) = true := by decide +kernel
theorem cPair_in {h r x : Int} (e : cPair h r = some x) : inW x := by
 rcases cPair_join e with g | ⟨g1, g2, g3, g4⟩
 ·have hx : x = (hJoin h r).1 := by rw [g]
  unfold hJoin at g hx
  unfold inW
  by_cases c1 : hPart h = 1 ∧ hPart r = 2
  ·rw [if_pos c1] at hx
   have a1 : 4352 ≤ h ∧ h ≤ 4370 := by
    have := c1.1; unfold hPart at this; repeat' split at this
    all_goals omega
   have a2 : 4449 ≤ r ∧ r ≤ 4469 := by
    have := c1.2; unfold hPart at this; repeat' split at this
    all_goals omega
   simp only at hx
   omega
  ·rw [if_neg c1] at hx g
   by_cases c2 : hPart h = 4 ∧ hPart r = 3
   ·rw [if_pos c2] at hx
    have a1 : 44032 ≤ h ∧ h ≤ 55203 := by
     have := c2.1; unfold hPart at this; repeat' split at this
     all_goals omega
    have a2 : 4520 ≤ r ∧ r ≤ 4546 := by
     have := c2.2; unfold hPart at this; repeat' split at this
     all_goals omega
    simp only at hx
    omega
   ·rw [if_neg c2] at g; cases g
 ·have := List.all_eq_true.1 tri_in _ (tri g3 g4).2
  simp only [Bool.and_eq_true, decide_eq_true_eq] at this
  unfold inW
  omega
theorem cRun_in (l : List Int) (s : CSt) (hs : ∀ x ∈ cFlat s, inW x) (hl : ∀ x ∈ l, inW x) : ∀ x ∈ cFlat (cRun dCls cPair l s), inW x := by
 induction l generalizing s with
 | nil => exact hs
 | cons a t ih =>
  rw [cRun_cons]
  refine ih _ ?_ (fun x hx => hl x (by simp [hx]))
  have ha := hl a (by simp)
  obtain ⟨p, _ | ⟨h, U⟩⟩ := s
  ·rw [cStep_none]
   have hp : ∀ x ∈ p, inW x := hs
   split
   ·intro x hx
    simp only [cFlat, List.mem_append, List.mem_singleton, List.mem_cons, List.not_mem_nil, or_false] at hx
    rcases hx with hx | rfl
    ·exact hp x hx
    ·exact ha
   ·intro x hx
    simp only [cFlat, List.mem_append, List.mem_singleton] at hx
    rcases hx with hx | rfl
    ·exact hp x hx
    ·exact ha
  ·have hp : ∀ x ∈ p ++ h :: U, inW x := hs
   cases e : cTry dCls cPair h U a with
   | some y =>
    rw [cStep_yes e]
    unfold cTry at e
    split at e
    ·intro x hx
     simp only [cFlat, List.mem_append, List.mem_cons] at hx
     rcases hx with hx | rfl | hx
     ·exact hp x (by simp [hx])
     ·exact cPair_in e
     ·exact hp x (by simp [hx])
    ·cases e
   | none =>
    rw [cStep_no e]
    split
    ·intro x hx
     simp only [cFlat, List.mem_append, List.mem_cons, List.not_mem_nil, or_false] at hx
     rcases hx with (hx | rfl | hx) | rfl
     ·exact hp x (by simp [hx])
     ·exact hp x (by simp)
     ·exact hp x (by simp [hx])
     ·exact ha
    ·intro x hx
     simp only [cFlat, List.mem_append, List.mem_cons, List.not_mem_nil, or_false] at hx
     rcases hx with hx | rfl | hx | rfl
     ·exact hp x (by simp [hx])
     ·exact hp x (by simp)
     ·exact hp x (by simp [hx])
     ·exact ha
theorem nRun_in (b : Bool) {l : List Int} (h : ∀ r ∈ l, inW r) : ∀ x ∈ nRun b l, inW x := by
 refine cRun_in _ ([], none) (by intro x hx; cases hx) (fun x hx => dAll_in b h x ((aOrd_mem _ x).1 hx))
end Go.Proofs.Ytpihglokjcbjkaa.Pure
