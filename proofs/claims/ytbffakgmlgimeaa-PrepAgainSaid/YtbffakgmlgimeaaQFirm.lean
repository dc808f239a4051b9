import Derived.Test.YtbffakgmlgimeaaQFoldMap

/- What the map leaves as it is. -/
namespace Go.Proofs.Ytbffakgmlgimeaa.P
end Go.Proofs.Ytbffakgmlgimeaa.P
namespace Go.Proofs.Ytbffakgmlgimeaa.Pure
open Go.RowKit Go.Proofs.Ytbffakgmlgimeaa.P Go.Proofs.YtbffakgmlgimeaaW.PrintWords Go.Proofs.YtbffakgmlgimeaaW.PrintLast
def Firm (b : Bool) (x : Int) : Prop := cKind x ≠ 6 ∧ (cKind x = 5 → x = 32) ∧ (b = true → fOne x = [x]) ∧ -2147483648 ≤ x ∧ x ≤ 2147483647
def fGood (r : Int) : Bool := decide (cKind r = 6) || decide (cKind r = 5) || (fOne r).all (fun x => decide (cKind x ≠ 6) && decide (cKind x ≠ 5) && decide (fOne x = [x]) && decide (-2147483648 ≤ x) && decide (x ≤ 2147483647))
theorem fGood_all {r : Int} (h0 : -2147483648 ≤ r) (h1 : r ≤ 2147483647) : fGood r = true := by
 revert h0 h1
 refine by_ranges (p := fun r => -2147483648 ≤ r → r ≤ 2147483647 → fGood r = true) (fun r h h0 h1 => ?_) ?_ ?_ ?_ ?_ r
 ·unfold fGood
  rw [fOne_gap h0 h1 h]
  by_cases c6 : cKind r = 6
  ·simp [c6]
  by_cases c5 : cKind r = 5
  ·simp [c5]
  simp [c6, c5, fOne_gap h0 h1 h, h0, h1]
 ·have : ∀ n : Fin 1072, fGood ((n.val : Nat) : Int) = true := by decide +kernel
  exact fun n _ _ => this n
 ·have : ∀ n : Fin 70, fGood ((n.val + 8486 : Nat) : Int) = true := by decide +kernel
  exact fun n _ _ => this n
 ·have : ∀ n : Fin 6, fGood ((n.val + 64256 : Nat) : Int) = true := by decide +kernel
  exact fun n _ _ => this n
 ·have : ∀ n : Fin 26, fGood ((n.val + 65313 : Nat) : Int) = true := by decide +kernel
  exact fun n _ _ => this n
theorem firm_32 (b : Bool) : Firm b 32 := ⟨by decide +kernel, fun _ => rfl, fun _ => by decide +kernel, by decide, by decide⟩
theorem mOne_firm {b : Bool} {r : Int} (h0 : -2147483648 ≤ r) (h1 : r ≤ 2147483647) : ∀ x ∈ mOne b r, Firm b x := by
 intro x hx
 unfold mOne at hx
 by_cases c6 : cKind r = 6
 ·rw [if_pos c6] at hx; simp at hx
 rw [if_neg c6] at hx
 by_cases c5 : cKind r = 5
 ·rw [if_pos c5] at hx
  obtain rfl : x = 32 := by simpa using hx
  exact firm_32 b
 rw [if_neg c5] at hx
 by_cases hb : b = true
 ·rw [if_pos hb] at hx
  have g := fGood_all h0 h1
  unfold fGood at g
  simp only [c6, c5, decide_false, Bool.false_or] at g
  have := List.all_eq_true.1 g x hx
  simp only [Bool.and_eq_true, decide_eq_true_eq] at this
  exact ⟨this.1.1.1.1, fun e => absurd e this.1.1.1.2, fun _ => this.1.1.2, this.1.2, this.2⟩
 ·rw [if_neg hb] at hx
  obtain rfl : x = r := by simpa using hx
  exact ⟨c6, fun e => absurd e c5, fun e => absurd e hb, h0, h1⟩
theorem fMap_firm {b : Bool} {l : List Int} (hw : ∀ x ∈ l, -2147483648 ≤ x ∧ x ≤ 2147483647) : ∀ x ∈ fMap b l, Firm b x := by
 intro x hx
 obtain ⟨r, hr, hx⟩ := List.mem_flatMap.1 hx
 exact mOne_firm (hw r hr).1 (hw r hr).2 x hx
theorem mOne_of_firm {b : Bool} {x : Int} (h : Firm b x) : mOne b x = [x] := by
 unfold mOne
 rw [if_neg h.1]
 by_cases c5 : cKind x = 5
 ·rw [if_pos c5, h.2.1 c5]
 rw [if_neg c5]
 by_cases hb : b = true
 ·rw [if_pos hb, h.2.2.1 hb]
 ·rw [if_neg hb]
theorem fMap_of_firm {b : Bool} {l : List Int} (h : ∀ x ∈ l, Firm b x) : fMap b l = l := by
 induction l with
 | nil => rfl
 | cons a t ih => rw [fMap_cons, mOne_of_firm (h a (by simp)), ih (fun x hx => h x (by simp [hx]))]; rfl
end Go.Proofs.Ytbffakgmlgimeaa.Pure
