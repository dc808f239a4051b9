import Derived.Test.YthlejpbdmgcgbaaQGuard
import Derived.Test.YthlejpbdmgcgbaaQUtfEnc
import Derived.Test.YthlejpbdmgcgbaaP7
import Derived.Test.YthlejpbdmgcgbaaP8
/- guard.Text and Only. -/
namespace Go.Proofs.Ythlejpbdmgcgbaa.Pure
open Go.RowKit Go.Proofs.Ythlejpbdmgcgbaa.P Go.Proofs.YthlejpbdmgcgbaaW.PrintWords Go.Proofs.YthlejpbdmgcgbaaW.PrintLast
open Utf
set_option linter.unusedVariables false
set_option linter.unusedSimpArgs false
def rdS (S : ByteArray) : List Int × Int × Int := runes S.size (ints S) 0 []
/-- What is read: all, or up to a place. -/
theorem rdS_form (S : ByteArray) : (∃ l, (∀ r ∈ l, pt r) ∧ ints S = enc l ∧ l.length ≤ S.size ∧ rdS S = (l, (S.size : Int), 0)) ∨ (∃ l q, (∀ r ∈ l, pt r) ∧ ints S = enc l ++ q ∧ q ≠ [] ∧ dec q = none ∧ rdS S = ([], ((enc l).length : Int), 10)) := by
  have hb : Byte (ints S) := ints_range S
  unfold rdS
  rcases runes_form (f := S.size) 0 [] hb (by rw [ints_length]; omega) with ⟨l, g1, g2, g3⟩ | ⟨l, q, g1, g2, g3, g4, g5⟩
  · refine .inl ⟨l, g1, g2, ?_, by rw [g3, ints_length]; simp⟩
    have := runes_few l g1
    rw [← g2, ints_length] at this
    exact this
  · exact .inr ⟨l, q, g1, g2, g3, g4, by rw [g5]; simp⟩
def gText (S : ByteArray) : Int × Int := if (rdS S).2.2 = 0 then (((enc ((rdS S).1.take (fitN (rdS S).1))).length : Int), (chkV (rdS S).1).2) else ((rdS S).2.1, (rdS S).2.2)
theorem gtext_ev (S : ByteArray) (hs : S.size < 100000000) : Ev (fun k => guard_Text.f k S) (gText S) := by
  unfold guard_Text.f gText
  refine Ev.bind (show Ev (fun k => utf_Runes.f k S) (rdS S) from runes_ev (by omega)) ?_
  rcases rdS_form S with ⟨l, g1, g2, g3, g4⟩ | ⟨l, q, g1, g2, g3, g4, g5⟩
  · rw [g4]
    refine ev_pos rfl ?_
    have hf := fitN_le l
    refine Ev.bind (check_ev l (by omega)) (ev_pos (by unfold chkV; simp only; omega) (ev_pos (by unfold chkV; simp only; omega) ?_))
    have ht : ((chkV l).1).toNat = fitN l := Int.toNat_natCast _
    rw [ht]
    have hp : ∀ r ∈ l.take (fitN l), pt r := fun r hr => g1 r (List.mem_of_mem_take hr)
    refine Ev.bind (encode_ev _ (by rw [List.length_take]; omega)) (ev_some ?_)
    unfold laid
    rw [if_pos hp, if_pos rfl]
    have h2 := congrArg List.length (ints_laid hp)
    rw [ints_length] at h2
    simp only [h2]
  · rw [g5]
    rw [if_neg (show ¬ (10 : Int) = 0 by omega)]
    exact ev_neg (show ¬ (10 : Int) = 0 by omega) (Ev.now _)
def onlyN (K l : List Int) : Nat := (l.takeWhile (fun r => decide (cKind r ∈ K))).length
theorem only_loop (K pre suf : List Int) (hK : K.length < 1000000) (hb : pre.length + suf.length < 9000000000000000000) : Ev (fun k => guard_Only.l0 k (pre ++ suf) K (pre.length : Int)) ((pre.length : Int) + onlyN K suf) := by
  induction suf generalizing pre with
  | nil =>
    refine Ev.step (fun k => by simp only [guard_Only.l0]; rfl) ?_
    exact ev_neg (by simp) (ev_some (by simp [onlyN]))
  | cons a t ih =>
    refine Ev.step (fun k => by simp only [guard_Only.l0]; rfl) ?_
    refine ev_pos (mid_lt pre a t) (ev_pos (by omega) ?_)
    rw [rd_mid]
    simp only [List.length_cons] at hb
    refine Ev.bind (is_ev a K (by omega)) ?_
    refine ev_ite (fun h => ?_) (fun h => ev_some ?_)
    · rw [w64 (by omega) (by omega), mid_snoc pre, ← len_snoc pre a]
      refine ev_eq (ih (pre ++ [a]) (by simp; omega)) ?_
      have e : onlyN K (a :: t) = onlyN K t + 1 := by simp [onlyN, of_decide_eq_true h]
      rw [e, len_snoc]
      omega
    · have e : onlyN K (a :: t) = 0 := by
        have h' := (Bool.not_eq_true _).mp h
        simp [onlyN, of_decide_eq_false h']
      rw [e]; omega
theorem onlyN_all (K l : List Int) : (onlyN K l = l.length) ↔ (l.all (fun r => decide (cKind r ∈ K)) = true) := by
  induction l with
  | nil => simp [onlyN]
  | cons a t ih =>
    by_cases h : cKind a ∈ K
    · have e : onlyN K (a :: t) = onlyN K t + 1 := by simp [onlyN, h]
      rw [e, List.length_cons, List.all_cons, decide_eq_true h, Bool.true_and, ← ih]
      omega
    · have e : onlyN K (a :: t) = 0 := by simp [onlyN, h]
      rw [e, List.length_cons, List.all_cons, decide_eq_false h]
      simp
def gOnly (S : ByteArray) (K : List Int) : Bool := decide ((rdS S).2.2 = 0) && (rdS S).1.all (fun r => decide (cKind r ∈ K))
theorem gonly_ev (S : ByteArray) (K : List Int) (hs : S.size < 100000000) (hK : K.length < 1000000) : Ev (fun k => guard_Only.f k S K) (gOnly S K) := by
  unfold guard_Only.f gOnly
  refine Ev.bind (show Ev (fun k => utf_Runes.f k S) (rdS S) from runes_ev (by omega)) ?_
  rcases rdS_form S with ⟨l, g1, g2, g3, g4⟩ | ⟨l, q, g1, g2, g3, g4, g5⟩
  · rw [g4]
    refine ev_pos rfl ?_
    have h := only_loop K [] l hK (by simp; omega)
    refine Ev.bind (a := (onlyN K l : Int)) (by simpa using h) (ev_some ?_)
    have h2 := onlyN_all K l
    simp only [decide_true, Bool.true_and]
    by_cases e : onlyN K l = l.length
    · rw [h2.1 e, e]; simp
    · rw [(Bool.not_eq_true _).mp (fun x => e (h2.2 x))]
      rw [beq_eq_false_iff_ne]
      omega
  · rw [g5]
    exact ev_neg (show ¬ (10 : Int) = 0 by omega) (ev_some (by simp))
end Go.Proofs.Ythlejpbdmgcgbaa.Pure
