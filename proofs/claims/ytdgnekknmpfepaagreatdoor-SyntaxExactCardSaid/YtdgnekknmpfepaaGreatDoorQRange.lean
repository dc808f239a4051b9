import Derived.Test.YtdgnekknmpfepaaGreatDoorQBase
import Derived.Test.YtdgnekknmpfepaaGreatDoorP3
/- Tables of ranges; chars.mark. -/
namespace Go.Proofs.YtdgnekknmpfepaaGreatDoor.Pure
open Go.RowKit Go.Proofs.YtdgnekknmpfepaaGreatDoor.P Go.Proofs.YtdgnekknmpfepaaGreatDoorW.PrintWords Go.Proofs.YtdgnekknmpfepaaGreatDoorW.PrintLast
set_option linter.unusedVariables false
set_option linter.unusedSimpArgs false
set_option maxRecDepth 100000
def cMAR : List (Int × Int) := [(768, 772), (774, 776), (778, 780), (803, 803), (807, 808), (12441, 12442)]
def inR (l : List (Int × Int)) (r : Int) : Bool := l.any (fun p => decide (p.1 ≤ r) && decide (r ≤ p.2))
theorem beq_rng (r c : Int) : (r == c) = (decide (c ≤ r) && decide (r ≤ c)) := by
 rw [Bool.eq_iff_iff]
 simp
 omega
theorem rng_or {r a b : Int} {y : Bool} : (if r ≥ a then (if r ≤ b then some true else some y) else some y) = some ((decide (a ≤ r) && decide (r ≤ b)) || y) := by
 by_cases h : a ≤ r <;> by_cases g : r ≤ b <;> simp [h, g]
theorem rng_last {r a b : Int} : (if r ≥ a then some (decide (r ≤ b)) else some false) = some (decide (a ≤ r) && decide (r ≤ b)) := by
 by_cases h : a ≤ r <;> simp [h]
theorem eq_or {r c : Int} {y : Bool} : (if r = c then some true else some y) = some ((decide (c ≤ r) && decide (r ≤ c)) || y) := by
 rw [← beq_rng]
 by_cases h : r = c <;> simp [h]
theorem eq_last {r c : Int} : some (r == c) = some (decide (c ≤ r) && decide (r ≤ c)) := by rw [beq_rng]
theorem mark_eq (r : Int) : chars_mark.f r = some (inR cMAR r) := by
 simp only [chars_mark.f, inR, cMAR, List.any_cons, List.any_nil, Bool.or_false, rng_or, rng_last, eq_or, beq_rng]
end Go.Proofs.YtdgnekknmpfepaaGreatDoor.Pure
