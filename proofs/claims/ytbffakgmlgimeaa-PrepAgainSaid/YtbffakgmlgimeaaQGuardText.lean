import Derived.Test.YtbffakgmlgimeaaQGuard
import Derived.Test.YtbffakgmlgimeaaQUtfEnc
import Derived.Test.YtbffakgmlgimeaaP1
import Derived.Test.YtbffakgmlgimeaaP12
/- guard.Text and Only. -/
namespace Go.Proofs.Ytbffakgmlgimeaa.Pure
open Go.RowKit Go.Proofs.Ytbffakgmlgimeaa.P Go.Proofs.YtbffakgmlgimeaaW.PrintWords Go.Proofs.YtbffakgmlgimeaaW.PrintLast
open Utf
set_option linter.unusedVariables false
set_option linter.unusedSimpArgs false
def rdS (S : ByteArray) : List Int × Int × Int := runes S.size (ints S) 0 []
theorem rdS_form (S : ByteArray) : (∃ l, (∀ r ∈ l, pt r) ∧ ints S = enc l ∧ l.length ≤ S.size ∧ rdS S = (l, (S.size : Int), 0)) ∨ (∃ l q, (∀ r ∈ l, pt r) ∧ ints S = enc l ++ q ∧ q ≠ [] ∧ dec q = none ∧ rdS S = ([], ((enc l).length : Int), 10)) := by
 have hb : Byte (ints S) := ints_range S
 unfold rdS
 rcases runes_form (f := S.size) 0 [] hb (by rw [ints_length]; omega) with ⟨l, g1, g2, g3⟩ | ⟨l, q, g1, g2, g3, g4, g5⟩
 ·refine .inl ⟨l, g1, g2, ?_, by rw [g3, ints_length]; simp⟩
  have := runes_few l g1
  rw [← g2, ints_length] at this
  exact this
 ·exact .inr ⟨l, q, g1, g2, g3, g4, by rw [g5]; simp⟩
def gText (S : ByteArray) : Int × Int := if (rdS S).2.2 = 0 then (((enc ((rdS S).1.take (fitN (rdS S).1))).length : Int), (chkV (rdS S).1).2) else ((rdS S).2.1, (rdS S).2.2)
theorem gtext_ev (S : ByteArray) (hs : S.size < 100000000) : Ev (fun k => guard_Text.f k S) (gText S) := by
 unfold guard_Text.f gText
 refine Ev.bind (show Ev (fun k => utf_Runes.f k S) (rdS S) from runes_ev (by omega)) ?_
 rcases rdS_form S with ⟨l, g1, g2, g3, g4⟩ | ⟨l, q, g1, g2, g3, g4, g5⟩
 ·rw [g4]
  refine ev_pos rfl ?_
  have hf := fitN_le l
  refine Ev.bind (check_ev l (by omega)) (ev_pos (by unfold chkV; simp only; omega) (ev_pos (by unfold chkV; simp only; omega) ?_))
  have ht : ((chkV l).1).toNat = fitN l := Int.toNat_natCast _
  rw [ht]
  have hp : ∀ r ∈ l.take (fitN l), pt r := fun r hr => g1 r (List.mem_of_mem_take hr)
  refine Ev.bind (encode_ev _ (by rw [List.length_take]; omega)) (ev_some ?_)
  unfold laid
  rw [if_pos hp, if_pos rfl]
  have h2 := congrArg List.length (ints_laid hp)
  rw [ints_length] at h2
  simp only [h2]
 ·rw [g5]
  rw [if_neg (show ¬ (10 : Int) = 0 by omega)]
  exact ev_neg (show ¬ (10 : Int) = 0 by omega) (Ev.now _)
def onlyN (K l : List Int) : Nat := (l.takeWhile (fun r => decide (cKind r ∈ K))).length
theorem onlyN_all (K l : List Int) : (onlyN K l = l.length) ↔ (l.all (fun r => decide (cKind r ∈ K)) = true) := by
 induction l with
 | nil => simp [onlyN]
 | cons a t ih =>
  by_cases h : cKind a ∈ K
  ·have e : onlyN K (a :: t) = onlyN K t + 1 := by simp [onlyN, h]
   rw [e, List.length_cons, List.all_cons, decide_eq_true h, Bool.true_and, ← ih]
   omega
  ·have e : onlyN K (a :: t) = 0 := by simp [onlyN, h]
   rw [e, List.length_cons, List.all_cons, decide_eq_false h]
   simp
def gOnly (S : ByteArray) (K : List Int) : Bool := decide ((rdS S).2.2 = 0) && (rdS S).1.all (fun r => decide (cKind r ∈ K))
end Go.Proofs.Ytbffakgmlgimeaa.Pure
