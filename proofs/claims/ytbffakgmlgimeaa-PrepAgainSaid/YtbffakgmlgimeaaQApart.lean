import Derived.Test.YtbffakgmlgimeaaQDecomp

/- What was taken apart is apart. -/
namespace Go.Proofs.Ytbffakgmlgimeaa.P
end Go.Proofs.Ytbffakgmlgimeaa.P
namespace Go.Proofs.Ytbffakgmlgimeaa.Pure
open Go.RowKit Go.Proofs.Ytbffakgmlgimeaa.P Go.Proofs.YtbffakgmlgimeaaW.PrintWords Go.Proofs.YtbffakgmlgimeaaW.PrintLast
set_option linter.unusedVariables false
set_option maxRecDepth 100000
def chkA (b : Bool) (r : Int) : Bool := (dStep b r).all (fun x => decide (dStep b x = [x]) && decide (dStep false x = [x])) && decide (1 ≤ (dStep b r).length) && decide (dAll true (dStep false r) = dStep true r)
theorem chkA_list : dLIST.all (fun r => chkA true r && chkA false r) = true := by decide +kernel
theorem dStep_plain {b : Bool} {x : Int} (h : ¬ (44032 ≤ x ∧ x ≤ 55203)) (g : ¬ inR dR x = true) : dStep b x = [x] := by
 unfold dStep dOne
 rw [if_neg h, if_neg g]
 split
 ·rfl
 split <;> rfl
theorem hParts_plain {b : Bool} {r : Int} (h : 44032 ≤ r ∧ r ≤ 55203) : ∀ x ∈ hParts r, dStep b x = [x] := by
 have k : ∀ x : Int, 4352 ≤ x → x ≤ 4546 → dStep b x = [x] := fun x h0 h1 => dStep_plain (by omega) (by
  simp only [inR, dR, List.any_cons, List.any_nil, Bool.or_eq_true, Bool.and_eq_true, decide_eq_true_eq, Bool.false_eq_true, or_false]
  omega)
 intro x hx
 unfold hParts at hx
 split at hx
 ·simp only [List.mem_cons, List.not_mem_nil, or_false] at hx
  rcases hx with rfl | rfl <;> exact k _ (by omega) (by omega)
 ·simp only [List.mem_cons, List.not_mem_nil, or_false] at hx
  rcases hx with rfl | rfl | rfl <;> exact k _ (by omega) (by omega)
theorem dAll_plain {b : Bool} {l : List Int} (h : ∀ x ∈ l, dStep b x = [x]) : dAll b l = l := by
 induction l with
 | nil => rfl
 | cons a t ih => rw [dAll_cons, h a (by simp), ih (fun x hx => h x (by simp [hx]))]; rfl
theorem hParts_length (r : Int) : 1 ≤ (hParts r).length := by
 unfold hParts
 split <;> simp
theorem chkA_all (b : Bool) (r : Int) : chkA b r = true := by
 by_cases c : 44032 ≤ r ∧ r ≤ 55203
 ·have e : ∀ b, dStep b r = [r] ∨ dStep b r = hParts r := by
   intro b
   unfold dStep dOne
   rw [if_pos c]
   split
   ·exact Or.inl rfl
   split
   ·exact Or.inl rfl
   ·exact Or.inr rfl
  have e2 : ∀ b, dStep b r = dStep false r := by
   intro b
   unfold dStep dOne
   rw [if_pos c, if_pos c]
  unfold chkA
  rw [e2 b, e2 true]
  rcases e false with h | h
  ·have h3 : dStep b r = [r] := by rw [e2 b, h]
   have h4 : dStep true r = [r] := by rw [e2 true, h]
   rw [h]
   simp [h, h3, h4, dAll]
  ·rw [h]
   have h1 : ∀ b, dAll b (hParts r) = hParts r := fun b => dAll_plain (hParts_plain c)
   have h2 := hParts_length r
   simp only [h1, decide_true, Bool.and_true, Bool.and_eq_true, decide_eq_true_eq, List.all_eq_true]
   exact ⟨fun x hx => ⟨hParts_plain c x hx, hParts_plain c x hx⟩, h2⟩
 by_cases d : inR dR r = true
 ·have := List.all_eq_true.1 chkA_list r (mem_dLIST d)
  simp only [Bool.and_eq_true] at this
  cases b
  ·exact this.2
  ·exact this.1
 ·have h : ∀ b, dStep b r = [r] := fun b => dStep_plain c d
  unfold chkA
  rw [h b, h false, h true]
  simp [h, dAll]
theorem dStep_apart (b : Bool) (r : Int) : ∀ x ∈ dStep b r, dStep b x = [x] ∧ dStep false x = [x] := by
 have := chkA_all b r
 unfold chkA at this
 simp only [Bool.and_eq_true, decide_eq_true_eq, List.all_eq_true] at this
 exact this.1.1
theorem dStep_pos (b : Bool) (r : Int) : 1 ≤ (dStep b r).length := by
 have := chkA_all b r
 unfold chkA at this
 simp only [Bool.and_eq_true, decide_eq_true_eq, List.all_eq_true] at this
 exact this.1.2
theorem dStep_more (r : Int) : dAll true (dStep false r) = dStep true r := by
 have := chkA_all true r
 unfold chkA at this
 simp only [Bool.and_eq_true, decide_eq_true_eq, List.all_eq_true] at this
 exact this.2
theorem dAll_twice (b : Bool) (l : List Int) : dAll b (dAll b l) = dAll b l ∧ dAll false (dAll b l) = dAll b l := by
 constructor
 ·refine dAll_plain (fun x hx => ?_)
  obtain ⟨r, _, hx⟩ := List.mem_flatMap.1 hx
  exact (dStep_apart b r x hx).1
 ·refine dAll_plain (fun x hx => ?_)
  obtain ⟨r, _, hx⟩ := List.mem_flatMap.1 hx
  exact (dStep_apart b r x hx).2
theorem dAll_append (b : Bool) (l m : List Int) : dAll b (l ++ m) = dAll b l ++ dAll b m := by simp [dAll]
theorem dAll_more (l : List Int) : dAll true (dAll false l) = dAll true l := by
 induction l with
 | nil => rfl
 | cons a t ih => rw [dAll_cons, dAll_append, dStep_more, ih, dAll_cons]
theorem dAll_lens (b : Bool) (l : List Int) : l.length ≤ (dAll b l).length ∧ (dAll b l).length ≤ 4 * l.length := by
 induction l with
 | nil => simp [dAll]
 | cons a t ih =>
  have := dStep_length b a
  have := dStep_pos b a
  rw [dAll_cons]
  simp only [List.length_append, List.length_cons]
  omega
end Go.Proofs.Ytbffakgmlgimeaa.Pure
