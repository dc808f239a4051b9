import Derived.Test.YtbffakgmlgimeaaQBase
import Derived.Test.YtbffakgmlgimeaaP6
/- letters: the table's texts as lists of numbers; find, nth. -/
namespace Go.Proofs.Ytbffakgmlgimeaa.Pure
open Go.RowKit Go.Proofs.Ytbffakgmlgimeaa.P Go.Proofs.YtbffakgmlgimeaaW.PrintWords Go.Proofs.YtbffakgmlgimeaaW.PrintLast
set_option linter.unusedVariables false
set_option linter.unusedSimpArgs false
set_option maxRecDepth 100000
def runesAt (s : ByteArray) : Nat → Nat → List Int
 | 0, _ => []
 | f + 1, pos => if pos < s.size then ((Utf8.decode s pos).1 : Int) :: runesAt s f (pos + (Utf8.decode s pos).2) else []
def okAt (s : ByteArray) : Nat → Nat → Bool
 | 0, pos => decide (s.size ≤ pos)
 | f + 1, pos => if pos < s.size then okAt s f (pos + (Utf8.decode s pos).2) else true
def findL (x : Int) : List Int → Int → Int
 | [], _ => -1
 | a :: t, n => if a = x then n else findL x t (n + 1)
def nthL : List Int → Int → Int
 | [], _ => 0
 | a :: t, n => if n = 0 then a else nthL t (n - 1)
theorem find_loop (s : ByteArray) (x n : Int) (f pos : Nat) (h : okAt s f pos = true) (h0 : 0 ≤ n) (h1 : n + f < 9000000000000000000) :
  Ev (fun k => letters_find.l0 k s x n pos) (findL x (runesAt s f pos) n) := by
 induction f generalizing n pos with
 | zero =>
  refine Ev.step (fun k => by simp only [letters_find.l0]; rfl) ?_
  simp only [okAt, decide_eq_true_eq] at h
  exact ev_neg (by omega) (Ev.now _)
 | succ f ih =>
  refine Ev.step (fun k => by simp only [letters_find.l0]; rfl) ?_
  unfold okAt at h
  unfold runesAt
  by_cases c : pos < s.size
  ·rw [if_pos c] at h
   rw [if_pos c]
   refine ev_pos c ?_
   unfold findL
   by_cases d : ((Utf8.decode s pos).1 : Int) = x
   ·rw [if_pos d]; exact ev_pos d (Ev.now _)
   ·rw [if_neg d]
    refine ev_neg d ?_
    rw [w64 (by omega) (by omega)]
    exact ih (n + 1) _ h (by omega) (by omega)
  ·rw [if_neg c]; exact ev_neg c (Ev.now _)
theorem nth_loop (s : ByteArray) (n : Int) (f pos : Nat) (h : okAt s f pos = true) (hf : f < 1000000) (h1 : n < 9000000000000000000) (hn : -9000000000000000000 ≤ n - f) :
  Ev (fun k => letters_nth.l0 k s n pos) (nthL (runesAt s f pos) n) := by
 induction f generalizing n pos with
 | zero =>
  refine Ev.step (fun k => by simp only [letters_nth.l0]; rfl) ?_
  simp only [okAt, decide_eq_true_eq] at h
  exact ev_neg (by omega) (Ev.now _)
 | succ f ih =>
  refine Ev.step (fun k => by simp only [letters_nth.l0]; rfl) ?_
  unfold okAt at h
  unfold runesAt
  by_cases c : pos < s.size
  ·rw [if_pos c] at h
   rw [if_pos c]
   refine ev_pos c ?_
   unfold nthL
   by_cases d : n = 0
   ·rw [if_pos d]; exact ev_pos d (Ev.now _)
   ·rw [if_neg d]
    refine ev_neg d ?_
    rw [w64 (by omega) (by omega)]
    exact ih (n - 1) _ h (by omega) (by omega) (by omega)
  ·rw [if_neg c]; exact ev_neg c (Ev.now _)
def rs (s : ByteArray) : List Int := runesAt s 100 0
theorem findL_le (x : Int) (l : List Int) (n : Int) (h : 0 ≤ n) : findL x l n = -1 ∨ (n ≤ findL x l n ∧ findL x l n < n + l.length ∧ x ∈ l) := by
 induction l generalizing n with
 | nil => exact Or.inl rfl
 | cons a t ih =>
  unfold findL
  by_cases c : a = x
  ·rw [if_pos c]; exact Or.inr ⟨by omega, by simp; omega, by simp [c]⟩
  ·rw [if_neg c]
   rcases ih (n + 1) (by omega) with h | ⟨h1, h2, h3⟩
   ·exact Or.inl h
   ·exact Or.inr ⟨by omega, by simp only [List.length_cons]; omega, by simp [h3]⟩
theorem runesAt_length (s : ByteArray) (f pos : Nat) : (runesAt s f pos).length ≤ f := by
 induction f generalizing pos with
 | zero => simp [runesAt]
 | succ f ih =>
  unfold runesAt
  by_cases c : pos < s.size
  ·rw [if_pos c]
   have := ih (pos + (Utf8.decode s pos).2)
   simp only [List.length_cons]; omega
  ·rw [if_neg c]; simp
theorem rd62_mid (pre : List S86) (a : S86) (suf : List S86) : rd_T86 (pre ++ a :: suf) (pre.length : Int) = a := by
 simp [rd_T86, List.getD_eq_getElem?_getD]
def LROWS : List S86 := (letters_Rows.f).getD []
theorem lrows_eq : letters_Rows.f = some LROWS := rfl
end Go.Proofs.Ytbffakgmlgimeaa.Pure
