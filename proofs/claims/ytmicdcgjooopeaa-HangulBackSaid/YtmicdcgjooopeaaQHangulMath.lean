import Derived.Test.YtmicdcgjooopeaaQHangul
/- Layer 4 (hangul), the plain law: what is whole stays so, and its parts make it again. -/
namespace Go.Proofs.Ytmicdcgjooopeaa.Pure
open Hangul
set_option linter.unusedVariables false
namespace Hangul
theorem hApart_length (r : Int) : 1 ≤ (hApart r).length ∧ (hApart r).length ≤ 3 := by
 unfold hApart
 repeat' split
 all_goals simp
theorem hApart_other {r : Int} (h : ¬ (44032 ≤ r ∧ r ≤ 55203)) : hApart r = [r] := by
 unfold hApart
 rw [if_neg h]
theorem hJoin_apart {a b : Int} (h : (hJoin a b).2 = true) : hApart (hJoin a b).1 = hApart a ++ [b] ∧ hApart b = [b] ∧ (44032 ≤ (hJoin a b).1 ∧ (hJoin a b).1 ≤ 55203) := by
 unfold hJoin at h ⊢
 by_cases c : hPart a = 1 ∧ hPart b = 2
 ·rw [if_pos c] at h ⊢
  have h1 := hPart_one.1 c.1
  have h2 := hPart_two.1 c.2
  refine ⟨?_, hApart_other (by omega), by simp only; omega⟩
  rw [hApart_other (r := a) (by omega)]
  unfold hApart
  simp only
  rw [if_pos (by omega), if_pos (by omega)]
  simp only [List.cons_append, List.nil_append, List.cons.injEq, and_true]
  omega
 ·rw [if_neg c] at h ⊢
  by_cases c2 : hPart a = 4 ∧ hPart b = 3
  ·rw [if_pos c2] at h ⊢
   have h1 := hPart_four.1 c2.1
   have h2 := hPart_three.1 c2.2
   refine ⟨?_, hApart_other (by omega), by simp only; omega⟩
   unfold hApart
   simp only
   rw [if_pos (by omega), if_neg (by omega), if_pos h1.1, if_pos h1.2]
   simp only [List.cons_append, List.nil_append, List.cons.injEq, and_true]
   omega
  ·rw [if_neg c2] at h
   cases h
theorem hJoin_no {a b : Int} (h : (hJoin a b).2 = false) : (hJoin a b) = (0, false) := by
 unfold hJoin at h ⊢
 repeat' split at h
 ·cases h
 ·cases h
 ·rename_i h1 h2
  rw [if_neg h1, if_neg h2]
theorem hJoin_second {a b : Int} (h : (hJoin a b).2 = true) : hPart b = 2 ∨ hPart b = 3 := by
 unfold hJoin at h
 repeat' split at h
 ·rename_i h1; exact .inl h1.2
 ·rename_i h1; exact .inr h1.2
 ·cases h
theorem hJoin_false {a b : Int} (h : hPart b ≠ 2 ∧ hPart b ≠ 3) : (hJoin a b).2 = false := by
 cases e : (hJoin a b).2
 ·rfl
 ·exact ((hJoin_second e).elim h.1 h.2).elim
theorem hPart_syl {r : Int} (h : 44032 ≤ r ∧ r ≤ 55203) : hPart r ≠ 2 ∧ hPart r ≠ 3 := by
 constructor
 ·intro e; have := hPart_two.1 e; omega
 ·intro e; have := hPart_three.1 e; omega
theorem hStep_nil (r : Int) : hStep [] r = [r] := rfl
theorem hStep_yes {o : List Int} {h r : Int} (c : (hJoin h r).2 = true) : hStep (o ++ [h]) r = o ++ [(hJoin h r).1] := by simp [hStep, c]
theorem hStep_no {o : List Int} {h r : Int} (c : (hJoin h r).2 = false) : hStep (o ++ [h]) r = o ++ [h] ++ [r] := by simp [hStep, c]
def parts (l : List Int) : List Int := l.flatMap hApart
theorem parts_snoc (o : List Int) (r : Int) : parts (o ++ [r]) = parts o ++ hApart r := by simp [parts]
theorem parts_step (o : List Int) (r : Int) : parts (hStep o r) = parts o ++ hApart r := by
 rcases List.eq_nil_or_concat o with rfl | ⟨o, h, rfl⟩
 ·simp [hStep_nil, parts]
 ·simp only [List.concat_eq_append]
  cases c : (hJoin h r).2
  ·rw [hStep_no c, parts_snoc]
  ·rw [hStep_yes c, parts_snoc, parts_snoc, (hJoin_apart c).1, (hJoin_apart c).2.1, List.append_assoc]
theorem parts_foldl (l o : List Int) : parts (l.foldl hStep o) = parts o ++ parts l := by
 induction l generalizing o with
 | nil => simp [parts]
 | cons a l ih =>
  rw [List.foldl_cons, ih, parts_step]
  simp [parts, List.append_assoc]
theorem parts_whole (l : List Int) : parts (hWhole l) = parts l := by
 rw [hWhole, parts_foldl]
 simp [parts]
inductive Apart : List Int → Prop
 | nil : Apart []
 | one (r : Int) : Apart [r]
 | snoc (o : List Int) (h r : Int) : Apart (o ++ [h]) → (hJoin h r).2 = false → Apart (o ++ [h] ++ [r])
theorem apart_step {o : List Int} (r : Int) (h : Apart o) : Apart (hStep o r) := by
 cases h with
 | nil => exact .one _
 | one x =>
  cases c : (hJoin x r).2
  ·rw [show [x] = [] ++ [x] from rfl, hStep_no c]
   exact .snoc [] x r (.one x) c
  ·rw [show [x] = [] ++ [x] from rfl, hStep_yes c]
   exact .one _
 | snoc o p x h1 h2 =>
  cases c : (hJoin x r).2
  ·rw [hStep_no c]
   exact .snoc (o ++ [p]) x r (.snoc o p x h1 h2) c
  ·rw [hStep_yes c]
   exact .snoc o p _ h1 (hJoin_false (hPart_syl (hJoin_apart c).2.2))
theorem apart_foldl (l : List Int) {o : List Int} (h : Apart o) : Apart (l.foldl hStep o) := by
 induction l generalizing o with
 | nil => exact h
 | cons a l ih => exact ih (apart_step a h)
theorem apart_whole (l : List Int) : Apart (hWhole l) := apart_foldl l .nil
theorem whole_apart {l : List Int} (h : Apart l) : hWhole l = l := by
 induction h with
 | nil => rfl
 | one r => rfl
 | snoc o h r h1 h2 ih =>
  unfold hWhole at ih ⊢
  rw [List.foldl_append, ih]
  exact hStep_no h2
theorem whole_whole (l : List Int) : hWhole (hWhole l) = hWhole l := whole_apart (apart_whole l)
theorem foldl_syl (o : List Int) {r : Int} (h : 44032 ≤ r ∧ r ≤ 55203) : (hApart r).foldl hStep o = o ++ [r] := by
 have hL : hPart (4352 + (r - 44032) / 28 / 21) = 1 := hPart_one.2 (by omega)
 have hV : hPart (4449 + (r - 44032) / 28 % 21) = 2 := hPart_two.2 (by omega)
 have s1 : hStep o (4352 + (r - 44032) / 28 / 21) = o ++ [4352 + (r - 44032) / 28 / 21] := by
  rcases List.eq_nil_or_concat o with rfl | ⟨o, x, rfl⟩
  ·rfl
  ·simp only [List.concat_eq_append]
   exact hStep_no (hJoin_false (by rw [hL]; decide))
 have j : hJoin (4352 + (r - 44032) / 28 / 21) (4449 + (r - 44032) / 28 % 21) = (r - (r - 44032) % 28, true) := by
  unfold hJoin
  rw [if_pos ⟨hL, hV⟩]
  simp only [Prod.mk.injEq, and_true]
  omega
 have s2 : hStep (o ++ [4352 + (r - 44032) / 28 / 21]) (4449 + (r - 44032) / 28 % 21) = o ++ [r - (r - 44032) % 28] := by
  rw [hStep_yes (by rw [j]), j]
 unfold hApart
 rw [if_pos h]
 split
 ·rename_i h0
  rw [List.foldl_cons, List.foldl_cons, List.foldl_nil, s1, s2, h0, Int.sub_zero]
 ·rename_i h0
  have hT : hPart (4519 + (r - 44032) % 28) = 3 := hPart_three.2 (by omega)
  have hO : hPart (r - (r - 44032) % 28) = 4 := hPart_four.2 (by omega)
  have j2 : hJoin (r - (r - 44032) % 28) (4519 + (r - 44032) % 28) = (r, true) := by
   unfold hJoin
   rw [if_neg (by omega), if_pos ⟨hO, hT⟩]
   simp only [Prod.mk.injEq, and_true]
   omega
  rw [List.foldl_cons, List.foldl_cons, List.foldl_cons, List.foldl_nil, s1, s2, hStep_yes (by rw [j2]), j2]
theorem foldl_part (o : List Int) (h r : Int) (c : (hJoin h r).2 = false) : (hApart r).foldl hStep (o ++ [h]) = o ++ [h] ++ [r] := by
 by_cases hs : 44032 ≤ r ∧ r ≤ 55203
 ·exact foldl_syl _ hs
 ·rw [hApart_other hs]
  exact hStep_no c
theorem foldl_part_nil (r : Int) : (hApart r).foldl hStep [] = [r] := by
 by_cases hs : 44032 ≤ r ∧ r ≤ 55203
 ·exact foldl_syl _ hs
 ·rw [hApart_other hs]
  rfl
theorem whole_parts {l : List Int} (h : Apart l) : hWhole (parts l) = l := by
 induction h with
 | nil => rfl
 | one r =>
  unfold hWhole parts
  simp only [List.flatMap_cons, List.flatMap_nil, List.append_nil]
  exact foldl_part_nil r
 | snoc o h r h1 h2 ih =>
  rw [parts_snoc]
  unfold hWhole at ih ⊢
  rw [List.foldl_append, ih]
  exact foldl_part o h r h2
theorem parts_length (l : List Int) : (parts l).length ≤ 3 * l.length := by
 induction l with
 | nil => simp [parts]
 | cons a l ih =>
  have := (hApart_length a).2
  simp only [parts, List.flatMap_cons, List.length_append, List.length_cons] at ih ⊢
  omega
end Hangul
end Go.Proofs.Ytmicdcgjooopeaa.Pure
