import Derived.Test.YtbffakgmlgimeaaQBase
/- Marks in order, as plain lists: insertion from the end ('c' tells a class). -/
namespace Go.Proofs.Ytbffakgmlgimeaa.Pure
set_option linter.unusedVariables false
section
variable (c : Int → Int)
def wrg (a b : Int) : Bool := decide (0 < c b) && decide (c b < c a)
def insR (r : Int) : List Int → List Int
 | [] => [r]
 | a :: t => if wrg c a r = true then a :: insR r t else r :: a :: t
def ordR (l acc : List Int) : List Int := l.foldl (fun acc r => insR c r acc) acc
def aOrd (l : List Int) : List Int := (ordR c l []).reverse
def srtR : List Int → Prop
 | a :: b :: t => wrg c b a = false ∧ srtR (b :: t)
 | _ => True
def isOrd : List Int → Bool
 | a :: b :: t => !wrg c a b && isOrd (b :: t)
 | _ => true
variable {c}
theorem insR_cons (r a : Int) (t : List Int) : insR c r (a :: t) = if wrg c a r = true then a :: insR c r t else r :: a :: t := rfl
theorem insR_length (r : Int) (l : List Int) : (insR c r l).length = l.length + 1 := by
 induction l with
 | nil => rfl
 | cons a t ih => rw [insR_cons]; split <;> simp [ih]
theorem insR_srt (r : Int) (l : List Int) (h : srtR c l) : srtR c (insR c r l) := by
 induction l with
 | nil => trivial
 | cons a t ih =>
  rw [insR_cons]
  by_cases g : wrg c a r = true
  ·rw [if_pos g]
   cases t with
   | nil =>
    refine ⟨?_, trivial⟩
    simp only [wrg, Bool.and_eq_true, decide_eq_true_eq] at g
    simp only [wrg, Bool.and_eq_false_iff, decide_eq_false_iff_not]
    omega
   | cons b t =>
    have ih := ih h.2
    rw [insR_cons] at ih ⊢
    by_cases g2 : wrg c b r = true
    ·rw [if_pos g2] at ih ⊢
     exact ⟨h.1, ih⟩
    ·rw [if_neg g2] at ih ⊢
     refine ⟨?_, ih⟩
     simp only [wrg, Bool.and_eq_true, decide_eq_true_eq] at g
     simp only [wrg, Bool.and_eq_false_iff, decide_eq_false_iff_not]
     omega
  ·rw [if_neg g]
   exact ⟨by simpa using g, h⟩
theorem insR_mem (r : Int) (l : List Int) (x : Int) : x ∈ insR c r l ↔ x = r ∨ x ∈ l := by
 induction l with
 | nil => simp [insR]
 | cons a t ih =>
  rw [insR_cons]
  split
  ·simp only [List.mem_cons, ih]; grind
  ·simp only [List.mem_cons]
theorem ordR_srt (l acc : List Int) (h : srtR c acc) : srtR c (ordR c l acc) := by
 induction l generalizing acc with
 | nil => exact h
 | cons a t ih => exact ih _ (insR_srt a acc h)
theorem ordR_append (l m acc : List Int) : ordR c (l ++ m) acc = ordR c m (ordR c l acc) := by simp [ordR]
theorem ordR_cons (a : Int) (t acc : List Int) : ordR c (a :: t) acc = ordR c t (insR c a acc) := rfl
theorem ordR_snoc (l : List Int) (r : Int) (acc : List Int) : ordR c (l ++ [r]) acc = insR c r (ordR c l acc) := by simp [ordR]
theorem ordR_length (l acc : List Int) : (ordR c l acc).length = l.length + acc.length := by
 induction l generalizing acc with
 | nil => simp [ordR]
 | cons a t ih => rw [ordR_cons, ih, insR_length]; simp; omega
theorem ordR_mem (l acc : List Int) (x : Int) : x ∈ ordR c l acc ↔ x ∈ l ∨ x ∈ acc := by
 induction l generalizing acc with
 | nil => simp [ordR]
 | cons a t ih => rw [ordR_cons, ih, insR_mem]; simp only [List.mem_cons]; grind
theorem aOrd_length (l : List Int) : (aOrd c l).length = l.length := by simp [aOrd, ordR_length]
theorem aOrd_mem (l : List Int) (x : Int) : x ∈ aOrd c l ↔ x ∈ l := by simp [aOrd, ordR_mem]
theorem insR_comm {a b : Int} (h : wrg c a b = true) (l : List Int) : insR c b (insR c a l) = insR c a (insR c b l) := by
 have h' := h
 simp only [wrg, Bool.and_eq_true, decide_eq_true_eq] at h'
 have hba : wrg c b a = false := by
  simp only [wrg, Bool.and_eq_false_iff, decide_eq_false_iff_not]; omega
 induction l with
 | nil => simp [insR, h, hba]
 | cons x t ih =>
  by_cases g : wrg c x a = true
  ·have g' := g
   simp only [wrg, Bool.and_eq_true, decide_eq_true_eq] at g'
   have g2 : wrg c x b = true := by
    simp only [wrg, Bool.and_eq_true, decide_eq_true_eq]; omega
   rw [insR_cons a, if_pos g, insR_cons b, if_pos g2, insR_cons b x t, if_pos g2, insR_cons a, if_pos g, ih]
  ·rw [insR_cons a, if_neg g, insR_cons b a, if_pos h, insR_cons b]
   by_cases g2 : wrg c x b = true
   ·rw [if_pos g2, insR_cons a, if_neg g]
   ·rw [if_neg g2, insR_cons a b, if_neg (by simp [hba])]
theorem isOrd_snoc (l : List Int) (a b : Int) : isOrd c (l ++ [a, b]) = (isOrd c (l ++ [a]) && !wrg c a b) := by
 induction l with
 | nil => simp [isOrd]
 | cons x t ih =>
  cases t with
  | nil => simp [isOrd]
  | cons y t => simp only [List.cons_append, isOrd] at ih ⊢; rw [ih, Bool.and_assoc]
theorem isOrd_take (l m : List Int) (h : isOrd c (l ++ m) = true) : isOrd c l = true := by
 induction l with
 | nil => rfl
 | cons x t ih =>
  cases t with
  | nil => rfl
  | cons y t =>
   simp only [List.cons_append, isOrd, Bool.and_eq_true] at h ih ⊢
   exact ⟨h.1, ih h.2⟩
theorem srtR_isOrd (l : List Int) : srtR c l → isOrd c l.reverse = true := by
 induction l with
 | nil => intro _; rfl
 | cons a t ih =>
  intro h
  cases t with
  | nil => rfl
  | cons b t =>
   have := ih h.2
   simp only [List.reverse_cons, List.append_assoc, List.cons_append, List.nil_append] at this ⊢
   rw [isOrd_snoc, this]
   simp [h.1]
theorem ordR_isOrd (l : List Int) (h : isOrd c l = true) : ordR c l [] = l.reverse := by
 suffices H : ∀ n (l : List Int), l.length = n → isOrd c l = true → ordR c l [] = l.reverse from H _ l rfl h
 intro n
 induction n with
 | zero => intro l hl _; obtain rfl := List.eq_nil_of_length_eq_zero hl; rfl
 | succ n ih =>
  intro l hl h
  rcases List.eq_nil_or_concat l with rfl | ⟨m, b, rfl⟩
  ·rfl
  ·rw [List.concat_eq_append] at *
   have e := ih m (by simpa using hl) (isOrd_take m [b] h)
   rw [ordR_snoc, e]
   rcases List.eq_nil_or_concat m with rfl | ⟨q, a, rfl⟩
   ·rfl
   ·rw [List.concat_eq_append] at *
    have h2 : wrg c a b = false := by
     rw [List.append_assoc] at h
     have := isOrd_snoc (c := c) q a b
     rw [show q ++ ([a] ++ [b]) = q ++ [a, b] from rfl] at h
     rw [this] at h
     simp only [Bool.and_eq_true] at h
     simpa using h.2
    simp [insR_cons, h2]
theorem aOrd_isOrd (l : List Int) (h : isOrd c l = true) : aOrd c l = l := by rw [aOrd, ordR_isOrd l h, List.reverse_reverse]
theorem isOrd_aOrd (l : List Int) : isOrd c (aOrd c l) = true := srtR_isOrd _ (ordR_srt l [] trivial)
theorem aOrd_twice (l : List Int) : aOrd c (aOrd c l) = aOrd c l := aOrd_isOrd _ (isOrd_aOrd l)
theorem aOrd_eq_iff (l : List Int) : (aOrd c l = l) ↔ isOrd c l = true := ⟨fun h => h ▸ isOrd_aOrd l, aOrd_isOrd l⟩
theorem ordR_past (r : Int) (U acc : List Int) (h : ∀ u ∈ U, 0 < c u ∧ c u < c r) : ordR c (r :: U) acc = ordR c (U ++ [r]) acc := by
 induction U generalizing acc with
 | nil => rfl
 | cons u t ih =>
  have hu := h u (by simp)
  have hw : wrg c r u = true := by simp [wrg, hu.1, hu.2]
  rw [ordR_cons, ordR_cons, insR_comm hw, ← ordR_cons, ih _ (fun x hx => h x (by simp [hx])), List.cons_append, ordR_cons]
theorem ordR_insR (f : Int → List Int) (hf : ∀ r, 0 < c r → f r = [r]) (r : Int) (hr : 0 < c r) (x acc : List Int) :
  ordR c ((insR c r x).reverse.flatMap f) acc = ordR c (x.reverse.flatMap f ++ [r]) acc := by
 induction x generalizing acc with
 | nil => simp [insR, hf r hr]
 | cons a t ih =>
  rw [insR_cons]
  by_cases g : wrg c a r = true
  ·rw [if_pos g]
   have g' := g
   simp only [wrg, Bool.and_eq_true, decide_eq_true_eq] at g'
   have ha : f a = [a] := hf a (by omega)
   simp only [List.reverse_cons, List.flatMap_append, List.flatMap_cons, List.flatMap_nil, List.append_nil, ha]
   rw [ordR_snoc, ih, ordR_snoc, ordR_snoc, ordR_snoc, insR_comm g]
  ·rw [if_neg g]
   simp only [List.reverse_cons, List.flatMap_append, List.flatMap_cons, List.flatMap_nil, List.append_nil, hf r hr]
theorem aOrd_flat (f : Int → List Int) (hf : ∀ r, 0 < c r → f r = [r]) (l : List Int) : aOrd c ((aOrd c l).flatMap f) = aOrd c (l.flatMap f) := by
 suffices H : ∀ n (l : List Int), l.length = n → ordR c ((ordR c l []).reverse.flatMap f) [] = ordR c (l.flatMap f) [] by
  unfold aOrd; rw [H _ l rfl]
 intro n
 induction n with
 | zero => intro l hl; obtain rfl := List.eq_nil_of_length_eq_zero hl; rfl
 | succ n ih =>
  intro l hl
  rcases List.eq_nil_or_concat l with rfl | ⟨m, r, rfl⟩
  ·rfl
  ·rw [List.concat_eq_append] at *
   have e := ih m (by simpa using hl)
   rw [ordR_snoc, List.flatMap_append, ordR_append, ← e]
   by_cases hr : 0 < c r
   ·rw [ordR_insR f hf r hr, ordR_append]
    simp [hf r hr]
   ·have : insR c r (ordR c m []) = r :: ordR c m [] := by
     cases h : ordR c m [] with
     | nil => rfl
     | cons a t => rw [insR_cons, if_neg (by simp [wrg, hr])]
    rw [this]
    simp only [List.reverse_cons, List.flatMap_append, ordR_append]
theorem aOrd_flat_congr (f : Int → List Int) (hf : ∀ r, 0 < c r → f r = [r]) {l m : List Int} (h : aOrd c l = aOrd c m) : aOrd c (l.flatMap f) = aOrd c (m.flatMap f) := by
 rw [← aOrd_flat f hf l, ← aOrd_flat f hf m, h]
end
end Go.Proofs.Ytbffakgmlgimeaa.Pure
