import Derived.Test.YtbffakgmlgimeaaQFold
import Derived.Test.YtbffakgmlgimeaaQChars
import Derived.Test.YtbffakgmlgimeaaP9
/- fold.Map, Folded. -/
namespace Go.Proofs.Ytbffakgmlgimeaa.Pure
open Go.RowKit Go.Proofs.Ytbffakgmlgimeaa.P Go.Proofs.YtbffakgmlgimeaaW.PrintWords Go.Proofs.YtbffakgmlgimeaaW.PrintLast
set_option linter.unusedVariables false
set_option linter.unusedSimpArgs false
set_option maxRecDepth 100000
theorem more_ex (r : Int) : ∃ s, fold_more.f r = some s ∧ (s.toList = [] ↔ fMore r = []) := by
 unfold fold_more.f fMore
 by_cases h : r = 181
 ·simp only [if_pos h]; exact ⟨_, rfl, by decide +kernel⟩
 simp only [if_neg h]
 clear h
 by_cases h : r = 223
 ·simp only [if_pos h]; exact ⟨_, rfl, by decide +kernel⟩
 simp only [if_neg h]
 clear h
 by_cases h : r = 304
 ·simp only [if_pos h]; exact ⟨_, rfl, by decide +kernel⟩
 simp only [if_neg h]
 clear h
 by_cases h : r = 329
 ·simp only [if_pos h]; exact ⟨_, rfl, by decide +kernel⟩
 simp only [if_neg h]
 clear h
 by_cases h : r = 376
 ·simp only [if_pos h]; exact ⟨_, rfl, by decide +kernel⟩
 simp only [if_neg h]
 clear h
 by_cases h : r = 383
 ·simp only [if_pos h]; exact ⟨_, rfl, by decide +kernel⟩
 simp only [if_neg h]
 clear h
 by_cases h : r = 902
 ·simp only [if_pos h]; exact ⟨_, rfl, by decide +kernel⟩
 simp only [if_neg h]
 clear h
 by_cases h : r = 908
 ·simp only [if_pos h]; exact ⟨_, rfl, by decide +kernel⟩
 simp only [if_neg h]
 clear h
 by_cases h : r = 910
 ·simp only [if_pos h]; exact ⟨_, rfl, by decide +kernel⟩
 simp only [if_neg h]
 clear h
 by_cases h : r = 911
 ·simp only [if_pos h]; exact ⟨_, rfl, by decide +kernel⟩
 simp only [if_neg h]
 clear h
 by_cases h : r = 962
 ·simp only [if_pos h]; exact ⟨_, rfl, by decide +kernel⟩
 simp only [if_neg h]
 clear h
 by_cases h : r = 1025
 ·simp only [if_pos h]; exact ⟨_, rfl, by decide +kernel⟩
 simp only [if_neg h]
 clear h
 by_cases h : r = 8486
 ·simp only [if_pos h]; exact ⟨_, rfl, by decide +kernel⟩
 simp only [if_neg h]
 clear h
 by_cases h : r = 8490
 ·simp only [if_pos h]; exact ⟨_, rfl, by decide +kernel⟩
 simp only [if_neg h]
 clear h
 by_cases h : r = 8491
 ·simp only [if_pos h]; exact ⟨_, rfl, by decide +kernel⟩
 simp only [if_neg h]
 clear h
 by_cases h : r = 64256
 ·simp only [if_pos h]; exact ⟨_, rfl, by decide +kernel⟩
 simp only [if_neg h]
 clear h
 by_cases h : r = 64257
 ·simp only [if_pos h]; exact ⟨_, rfl, by decide +kernel⟩
 simp only [if_neg h]
 clear h
 by_cases h : r = 64258
 ·simp only [if_pos h]; exact ⟨_, rfl, by decide +kernel⟩
 simp only [if_neg h]
 clear h
 by_cases h : r = 64259
 ·simp only [if_pos h]; exact ⟨_, rfl, by decide +kernel⟩
 simp only [if_neg h]
 clear h
 by_cases h : r = 64260
 ·simp only [if_pos h]; exact ⟨_, rfl, by decide +kernel⟩
 simp only [if_neg h]
 clear h
 by_cases h : r = 64261
 ·simp only [if_pos h]; exact ⟨_, rfl, by decide +kernel⟩
 simp only [if_neg h]
 clear h
 exact ⟨_, rfl, by decide +kernel⟩
def mOne (folds : Bool) (r : Int) : List Int := if cKind r = 6 then [] else if cKind r = 5 then [32] else if folds = true then fOne r else [r]
def fMap (folds : Bool) (l : List Int) : List Int := l.flatMap (mOne folds)
theorem mOne_length (b : Bool) (r : Int) : (mOne b r).length ≤ 3 := by
 have := fOne_length r
 unfold mOne
 split
 ·simp
 split
 ·simp
 split
 ·exact this
 ·simp
theorem fMap_length (b : Bool) (l : List Int) : (fMap b l).length ≤ 3 * l.length := by
 induction l with
 | nil => simp [fMap]
 | cons a t ih =>
  have := mOne_length b a
  unfold fMap at ih ⊢
  simp only [List.flatMap_cons, List.length_append, List.length_cons]
  omega
theorem fMap_cons (b : Bool) (a : Int) (t : List Int) : fMap b (a :: t) = mOne b a ++ fMap b t := by simp [fMap]
theorem map_loop (b : Bool) (acc pre suf : List Int) (hb : pre.length + suf.length < 9000000000000000000) (ha : acc.length + 3 * suf.length < 35184372088832) :
  Ev (fun k => fold_Map.l0 k b acc (pre ++ suf) ((pre ++ suf).length : Int) (pre.length : Int)) (acc ++ fMap b suf) := by
 induction suf generalizing pre acc with
 | nil =>
  refine Ev.step (fun k => by simp only [fold_Map.l0]; rfl) ?_
  exact ev_neg (by simp) (ev_some (by simp [fMap]))
 | cons a t ih =>
  refine Ev.step (fun k => by simp only [fold_Map.l0]; rfl) ?_
  refine ev_pos (mid_lt pre a t) (ev_pos (by omega) (ev_pos (mid_lt pre a t) ?_))
  rw [rd_mid]
  simp only [List.length_cons] at hb ha
  have hm := mOne_length b a
  rw [fMap_cons]
  have next : ∀ x : List Int, x = mOne b a → Ev (fun k => fold_Map.l0 k b (acc ++ x) (pre ++ a :: t) ((pre ++ a :: t).length : Int) (wrap64 ((pre.length : Int) + 1))) (acc ++ (mOne b a ++ fMap b t)) := by
   intro x hx
   rw [w64 (by omega) (by omega), mid_snoc pre, ← len_snoc pre a]
   refine ev_eq (ih (acc ++ x) (pre ++ [a]) (by simp; omega) (by rw [hx]; simp; omega)) ?_
   rw [hx, List.append_assoc]
  refine Ev.bind (is_ev a [6] (by simp)) ?_
  refine ev_ite (fun h => ?_) (fun h => ?_)
  ·have e : mOne b a = [] := by unfold mOne; rw [if_pos (by simpa using h)]
   simpa using next [] e.symm
  have h6 : ¬ cKind a = 6 := by simpa using h
  refine Ev.bind (is_ev a [5] (by simp)) ?_
  refine ev_ite (fun h => ?_) (fun h => ?_)
  ·have e : mOne b a = [32] := by unfold mOne; rw [if_neg h6, if_pos (by simpa using h)]
   exact ev_pos (by omega) (next _ e.symm)
  have h5 : ¬ cKind a = 5 := by simpa using h
  refine ev_ite (fun hb => ?_) (fun hb => ?_)
  ·have e : mOne b a = fOne a := by unfold mOne; rw [if_neg h6, if_neg h5, if_pos hb]
   refine Ev.bind (one_ev a) ?_
   have := fOne_length a
   exact ev_pos (by omega) (next _ e.symm)
  ·have e : mOne b a = [a] := by unfold mOne; rw [if_neg h6, if_neg h5, if_neg hb]
   exact ev_pos (by omega) (next _ e.symm)
theorem map_ev (b : Bool) (l : List Int) (h : l.length < 10000000000000) : Ev (fun k => fold_Map.f k b l) (fMap b l) := by
 have := map_loop b [] [] l (by simp; omega) (by simp; omega)
 unfold fold_Map.f
 simpa using this
def fFolded (l : List Int) : Bool := l.all (fun r => decide (fUp r = 0) && decide (fMore r = []))
theorem fOne_self {r : Int} (h0 : -2147483648 ≤ r) (h1 : r ≤ 2147483647) : fOne r = [r] ↔ (fUp r = 0 ∧ fMore r = []) := by
 revert h0 h1
 refine by_ranges (p := fun r => -2147483648 ≤ r → r ≤ 2147483647 → (fOne r = [r] ↔ (fUp r = 0 ∧ fMore r = []))) (fun r h h0 h1 => ?_) ?_ ?_ ?_ ?_ r
 ·have e1 : fMore r = [] := by
   unfold fMore
   repeat rw [if_neg (by omega)]
  have e2 : fUp r = 0 := by
   unfold fUp
   repeat rw [if_neg (by omega)]
  simp [e1, e2, fOne_gap h0 h1 h]
 ·have : ∀ n : Fin 1072, fOne ((n.val : Nat) : Int) = [((n.val : Nat) : Int)] ↔ (fUp ((n.val : Nat) : Int) = 0 ∧ fMore ((n.val : Nat) : Int) = []) := by decide +kernel
  exact fun n _ _ => this n
 ·have : ∀ n : Fin 70, fOne ((n.val + 8486 : Nat) : Int) = [((n.val + 8486 : Nat) : Int)] ↔ (fUp ((n.val + 8486 : Nat) : Int) = 0 ∧ fMore ((n.val + 8486 : Nat) : Int) = []) := by decide +kernel
  exact fun n _ _ => this n
 ·have : ∀ n : Fin 6, fOne ((n.val + 64256 : Nat) : Int) = [((n.val + 64256 : Nat) : Int)] ↔ (fUp ((n.val + 64256 : Nat) : Int) = 0 ∧ fMore ((n.val + 64256 : Nat) : Int) = []) := by decide +kernel
  exact fun n _ _ => this n
 ·have : ∀ n : Fin 26, fOne ((n.val + 65313 : Nat) : Int) = [((n.val + 65313 : Nat) : Int)] ↔ (fUp ((n.val + 65313 : Nat) : Int) = 0 ∧ fMore ((n.val + 65313 : Nat) : Int) = []) := by decide +kernel
  exact fun n _ _ => this n
end Go.Proofs.Ytbffakgmlgimeaa.Pure
