import Derived.Test.YtbffakgmlgimeaaQSame
import Derived.Test.YtbffakgmlgimeaaP9
/- fold.One, Folded: what a character is folded to. -/
namespace Go.Proofs.Ytbffakgmlgimeaa.Pure
open Go.RowKit Go.Proofs.Ytbffakgmlgimeaa.P Go.Proofs.YtbffakgmlgimeaaW.PrintWords Go.Proofs.YtbffakgmlgimeaaW.PrintLast
set_option linter.unusedVariables false
set_option linter.unusedSimpArgs false
set_option maxRecDepth 100000
def fMore (r : Int) : List Int :=
 if r = 181 then [956] else if r = 223 then [115, 115] else if r = 304 then [105, 775] else if r = 329 then [700, 110] else if r = 376 then [255]
 else if r = 383 then [115] else if r = 902 then [940] else if r = 908 then [972] else if r = 910 then [973] else if r = 911 then [974]
 else if r = 962 then [963] else if r = 1025 then [1105] else if r = 8486 then [969] else if r = 8490 then [107] else if r = 8491 then [229]
 else if r = 64256 then [102, 102] else if r = 64257 then [102, 105] else if r = 64258 then [102, 108] else if r = 64259 then [102, 102, 105]
 else if r = 64260 then [102, 102, 108] else if r = 64261 then [115, 116] else []
def fUp (r : Int) : Int :=
 if 65 ≤ r ∧ r ≤ 90 then 32 else if 192 ≤ r ∧ r ≤ 222 ∧ r ≠ 215 then 32 else if 913 ≤ r ∧ r ≤ 939 ∧ r ≠ 930 then 32 else if 1040 ≤ r ∧ r ≤ 1071 then 32
 else if 65313 ≤ r ∧ r ≤ 65338 then 32 else if 904 ≤ r ∧ r ≤ 906 then 37 else if 8544 ≤ r ∧ r ≤ 8555 then 16
 else if (256 ≤ r ∧ r ≤ 311) ∨ (330 ≤ r ∧ r ≤ 375) then (if r = 312 then 0 else 1 - r % 2)
 else if (313 ≤ r ∧ r ≤ 328) ∨ (377 ≤ r ∧ r ≤ 382) then r % 2 else 0
def fOne (r : Int) : List Int := if fMore r = [] then [wrap32 (r + fUp r)] else fMore r
theorem within_eq (r a b : Int) : fold_within.f r a b = some (decide (a ≤ r ∧ r ≤ b)) := by
 unfold fold_within.f
 by_cases h : a ≤ r <;> simp [h]
theorem and1 {r : Int} (h0 : 0 ≤ r) (h1 : r < 400) : Go.bits .and .i32 r 1 = r % 2 := by
 have key : ∀ n : Fin 400, Go.bits .and .i32 ((n.val : Nat) : Int) 1 = ((n.val : Nat) : Int) % 2 := by decide +kernel
 obtain ⟨n, rfl⟩ := Int.eq_ofNat_of_zero_le h0
 exact key ⟨n, by omega⟩
theorem wb (c : Bool) (a b : Option Int) : (if c = true then a else b) = if c = true then a else b := rfl
theorem up_ev (r : Int) : Ev (fun k => fold_up.f k r) (fUp r) := by
 refine Ev.of (fold_up.mono r) (k := 6) ?_
 simp only [fold_up.f, fold_up.j0, fold_up.j1, fold_up.j2, fold_up.j3, within_eq, Option.bind_some, decide_eq_true_eq, bne_iff_ne, ne_eq, if_true, Bool.false_eq_true, if_false]
 unfold fUp
 by_cases a : 65 ≤ r ∧ r ≤ 90
 ·simp only [if_pos a]
 simp only [if_neg a]
 by_cases b : 192 ≤ r ∧ r ≤ 222
 ·by_cases b2 : r = 215
  ·subst b2
   decide
  ·rw [if_pos b, if_pos b2, if_pos (show 192 ≤ r ∧ r ≤ 222 ∧ r ≠ 215 from ⟨b.1, b.2, b2⟩), if_pos b2]
 rw [if_neg b, if_neg (show ¬ (192 ≤ r ∧ r ≤ 222 ∧ r ≠ 215) from fun e => b ⟨e.1, e.2.1⟩)]
 by_cases c : 913 ≤ r ∧ r ≤ 939
 ·by_cases c2 : r = 930
  ·subst c2
   decide
  ·rw [if_pos c, if_pos c2, if_pos (show 913 ≤ r ∧ r ≤ 939 ∧ r ≠ 930 from ⟨c.1, c.2, c2⟩), if_pos c2]
 rw [if_neg c, if_neg (show ¬ (913 ≤ r ∧ r ≤ 939 ∧ r ≠ 930) from fun e => c ⟨e.1, e.2.1⟩)]
 by_cases d : 1040 ≤ r ∧ r ≤ 1071
 ·simp only [if_pos d]
 simp only [if_neg d]
 by_cases e : 65313 ≤ r ∧ r ≤ 65338
 ·simp only [if_pos e]
 simp only [if_neg e]
 by_cases f : 904 ≤ r ∧ r ≤ 906
 ·simp only [if_pos f]
 simp only [if_neg f]
 by_cases g : 8544 ≤ r ∧ r ≤ 8555
 ·simp only [if_pos g]
 simp only [if_neg g]
 have w : 0 ≤ r → r < 400 → wrap32 (1 - r % 2) = 1 - r % 2 := fun _ _ => w32 (by omega) (by omega)
 by_cases h : 256 ≤ r ∧ r ≤ 311
 ·rw [if_pos h, if_pos (Or.inl h), and1 (by omega) (by omega), w (by omega) (by omega)]
  by_cases h2 : r = 312 <;> simp [h2]
 rw [if_neg h]
 by_cases i : 330 ≤ r ∧ r ≤ 375
 ·rw [if_pos i, if_pos (Or.inr i), and1 (by omega) (by omega), w (by omega) (by omega)]
  by_cases h2 : r = 312 <;> simp [h2]
 rw [if_neg i, if_neg (show ¬ ((256 ≤ r ∧ r ≤ 311) ∨ (330 ≤ r ∧ r ≤ 375)) from fun e => e.elim h i)]
 by_cases j : 313 ≤ r ∧ r ≤ 328
 ·rw [if_pos j, if_pos (Or.inl j), and1 (by omega) (by omega)]
 rw [if_neg j]
 by_cases l : 377 ≤ r ∧ r ≤ 382
 ·rw [if_pos l, if_pos (Or.inr l), and1 (by omega) (by omega)]
 rw [if_neg l, if_neg (show ¬ ((313 ≤ r ∧ r ≤ 328) ∨ (377 ≤ r ∧ r ≤ 382)) from fun e => e.elim j l)]
theorem one_l (a0 : Int) (s : ByteArray) (l : List Int) (k : Nat) (h : fold_One.l0 k s a0 [] 0 = some l) : Ev (fun k => fold_One.l0 k s a0 [] 0) l := Ev.of (fun k => fold_One.mono_l k s a0 [] 0) h
theorem one_ev (r : Int) : Ev (fun k => fold_One.f k r) (fOne r) := by
 unfold fold_One.f fOne fMore fold_more.f
 by_cases h : r = 181
 ·simp only [if_pos h]; exact ev_bind0 rfl (one_l _ _ _ 5 rfl)
 simp only [if_neg h]
 clear h
 by_cases h : r = 223
 ·simp only [if_pos h]; exact ev_bind0 rfl (one_l _ _ _ 5 rfl)
 simp only [if_neg h]
 clear h
 by_cases h : r = 304
 ·simp only [if_pos h]; exact ev_bind0 rfl (one_l _ _ _ 5 rfl)
 simp only [if_neg h]
 clear h
 by_cases h : r = 329
 ·simp only [if_pos h]; exact ev_bind0 rfl (one_l _ _ _ 5 rfl)
 simp only [if_neg h]
 clear h
 by_cases h : r = 376
 ·simp only [if_pos h]; exact ev_bind0 rfl (one_l _ _ _ 5 rfl)
 simp only [if_neg h]
 clear h
 by_cases h : r = 383
 ·simp only [if_pos h]; exact ev_bind0 rfl (one_l _ _ _ 5 rfl)
 simp only [if_neg h]
 clear h
 by_cases h : r = 902
 ·simp only [if_pos h]; exact ev_bind0 rfl (one_l _ _ _ 5 rfl)
 simp only [if_neg h]
 clear h
 by_cases h : r = 908
 ·simp only [if_pos h]; exact ev_bind0 rfl (one_l _ _ _ 5 rfl)
 simp only [if_neg h]
 clear h
 by_cases h : r = 910
 ·simp only [if_pos h]; exact ev_bind0 rfl (one_l _ _ _ 5 rfl)
 simp only [if_neg h]
 clear h
 by_cases h : r = 911
 ·simp only [if_pos h]; exact ev_bind0 rfl (one_l _ _ _ 5 rfl)
 simp only [if_neg h]
 clear h
 by_cases h : r = 962
 ·simp only [if_pos h]; exact ev_bind0 rfl (one_l _ _ _ 5 rfl)
 simp only [if_neg h]
 clear h
 by_cases h : r = 1025
 ·simp only [if_pos h]; exact ev_bind0 rfl (one_l _ _ _ 5 rfl)
 simp only [if_neg h]
 clear h
 by_cases h : r = 8486
 ·simp only [if_pos h]; exact ev_bind0 rfl (one_l _ _ _ 5 rfl)
 simp only [if_neg h]
 clear h
 by_cases h : r = 8490
 ·simp only [if_pos h]; exact ev_bind0 rfl (one_l _ _ _ 5 rfl)
 simp only [if_neg h]
 clear h
 by_cases h : r = 8491
 ·simp only [if_pos h]; exact ev_bind0 rfl (one_l _ _ _ 5 rfl)
 simp only [if_neg h]
 clear h
 by_cases h : r = 64256
 ·simp only [if_pos h]; exact ev_bind0 rfl (one_l _ _ _ 5 rfl)
 simp only [if_neg h]
 clear h
 by_cases h : r = 64257
 ·simp only [if_pos h]; exact ev_bind0 rfl (one_l _ _ _ 5 rfl)
 simp only [if_neg h]
 clear h
 by_cases h : r = 64258
 ·simp only [if_pos h]; exact ev_bind0 rfl (one_l _ _ _ 5 rfl)
 simp only [if_neg h]
 clear h
 by_cases h : r = 64259
 ·simp only [if_pos h]; exact ev_bind0 rfl (one_l _ _ _ 5 rfl)
 simp only [if_neg h]
 clear h
 by_cases h : r = 64260
 ·simp only [if_pos h]; exact ev_bind0 rfl (one_l _ _ _ 5 rfl)
 simp only [if_neg h]
 clear h
 by_cases h : r = 64261
 ·simp only [if_pos h]; exact ev_bind0 rfl (one_l _ _ _ 5 rfl)
 simp only [if_neg h]
 clear h
 refine ev_bind0 rfl ?_
 refine Ev.step (fun k => by simp only [fold_One.l0]; rfl) ?_
 refine ev_neg (by decide) (ev_neg (by simp) ?_)
 exact Ev.bind (up_ev r) (ev_some (by simp))
theorem fOne_gap {r : Int} (h0 : -2147483648 ≤ r) (h1 : r ≤ 2147483647) (h : r < 65 ∨ (1072 ≤ r ∧ r < 8486) ∨ (8556 ≤ r ∧ r < 64256) ∨ (64262 ≤ r ∧ r < 65313) ∨ 65339 ≤ r) : fOne r = [r] := by
 have e1 : fMore r = [] := by
  unfold fMore
  repeat rw [if_neg (by omega)]
 have e2 : fUp r = 0 := by
  unfold fUp
  repeat rw [if_neg (by omega)]
 unfold fOne
 rw [if_pos e1, e2, Int.add_zero, w32 h0 h1]
theorem by_ranges {p : Int → Prop} (hg : ∀ r, (r < 65 ∨ (1072 ≤ r ∧ r < 8486) ∨ (8556 ≤ r ∧ r < 64256) ∨ (64262 ≤ r ∧ r < 65313) ∨ 65339 ≤ r) → p r)
  (h1 : ∀ n : Fin 1072, p ((n.val : Nat) : Int)) (h2 : ∀ n : Fin 70, p (((n.val + 8486 : Nat)) : Int)) (h3 : ∀ n : Fin 6, p (((n.val + 64256 : Nat)) : Int)) (h4 : ∀ n : Fin 26, p (((n.val + 65313 : Nat)) : Int)) (r : Int) : p r := by
 by_cases a : r < 65 ∨ (1072 ≤ r ∧ r < 8486) ∨ (8556 ≤ r ∧ r < 64256) ∨ (64262 ≤ r ∧ r < 65313) ∨ 65339 ≤ r
 ·exact hg r a
 obtain ⟨n, rfl⟩ := Int.eq_ofNat_of_zero_le (show 0 ≤ r by omega)
 by_cases b : n < 1072
 ·exact h1 ⟨n, b⟩
 by_cases c : n < 8556
 ·have := h2 ⟨n - 8486, by omega⟩
  rwa [show (n - 8486 + 8486 : Nat) = n by omega] at this
 by_cases d : n < 64262
 ·have := h3 ⟨n - 64256, by omega⟩
  rwa [show (n - 64256 + 64256 : Nat) = n by omega] at this
 ·have := h4 ⟨n - 65313, by omega⟩
  rwa [show (n - 65313 + 65313 : Nat) = n by omega] at this
theorem ite_le3 {c : Prop} [Decidable c] {a b : List Int} (ha : a.length ≤ 3) (hb : b.length ≤ 3) : (if c then a else b).length ≤ 3 := by
 split
 ·exact ha
 ·exact hb
theorem fMore_length (r : Int) : (fMore r).length ≤ 3 := by
 unfold fMore
 repeat' refine ite_le3 ?_ ?_
 all_goals decide
theorem fOne_length (r : Int) : (fOne r).length ≤ 3 := by
 unfold fOne
 by_cases h : fMore r = []
 ·rw [if_pos h]; simp
 ·rw [if_neg h]; exact fMore_length r
end Go.Proofs.Ytbffakgmlgimeaa.Pure
