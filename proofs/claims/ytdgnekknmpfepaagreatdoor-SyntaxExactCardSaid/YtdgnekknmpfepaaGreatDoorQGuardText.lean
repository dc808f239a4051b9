import Derived.Test.YtdgnekknmpfepaaGreatDoorQGuard
import Derived.Test.YtdgnekknmpfepaaGreatDoorQUtfEnc

/- guard.Text and Only. -/
namespace Go.Proofs.YtdgnekknmpfepaaGreatDoor.P
end Go.Proofs.YtdgnekknmpfepaaGreatDoor.P
namespace Go.Proofs.YtdgnekknmpfepaaGreatDoor.Pure
open Go.RowKit Go.Proofs.YtdgnekknmpfepaaGreatDoor.P Go.Proofs.YtdgnekknmpfepaaGreatDoorW.PrintWords Go.Proofs.YtdgnekknmpfepaaGreatDoorW.PrintLast
open Utf
set_option linter.unusedVariables false
set_option linter.unusedSimpArgs false
def rdS (S : ByteArray) : List Int × Int × Int := runes S.size (ints S) 0 []
theorem rdS_form (S : ByteArray) : (∃ l, (∀ r ∈ l, pt r) ∧ ints S = enc l ∧ l.length ≤ S.size ∧ rdS S = (l, (S.size : Int), 0)) ∨ (∃ l q, (∀ r ∈ l, pt r) ∧ ints S = enc l ++ q ∧ q ≠ [] ∧ dec q = none ∧ rdS S = ([], ((enc l).length : Int), 10)) := by
 have hb : Byte (ints S) := ints_range S
 unfold rdS
 rcases runes_form (f := S.size) 0 [] hb (by rw [ints_length]; omega) with ⟨l, g1, g2, g3⟩ | ⟨l, q, g1, g2, g3, g4, g5⟩
 ·refine .inl ⟨l, g1, g2, ?_, by rw [g3, ints_length]; simp⟩
  have := runes_few l g1
  rw [← g2, ints_length] at this
  exact this
 ·exact .inr ⟨l, q, g1, g2, g3, g4, by rw [g5]; simp⟩
def gText (S : ByteArray) : Int × Int := if (rdS S).2.2 = 0 then (((enc ((rdS S).1.take (fitN (rdS S).1))).length : Int), (chkV (rdS S).1).2) else ((rdS S).2.1, (rdS S).2.2)
def onlyN (K l : List Int) : Nat := (l.takeWhile (fun r => decide (cKind r ∈ K))).length
theorem onlyN_all (K l : List Int) : (onlyN K l = l.length) ↔ (l.all (fun r => decide (cKind r ∈ K)) = true) := by
 induction l with
 | nil => simp [onlyN]
 | cons a t ih =>
  by_cases h : cKind a ∈ K
  ·have e : onlyN K (a :: t) = onlyN K t + 1 := by simp [onlyN, h]
   rw [e, List.length_cons, List.all_cons, decide_eq_true h, Bool.true_and, ← ih]
   omega
  ·have e : onlyN K (a :: t) = 0 := by simp [onlyN, h]
   rw [e, List.length_cons, List.all_cons, decide_eq_false h]
   simp
def gOnly (S : ByteArray) (K : List Int) : Bool := decide ((rdS S).2.2 = 0) && (rdS S).1.all (fun r => decide (cKind r ∈ K))
end Go.Proofs.YtdgnekknmpfepaaGreatDoor.Pure
