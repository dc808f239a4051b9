import Derived.Test.YtobfngikgfjaoaaQFoldMap
import Derived.Test.YtobfngikgfjaoaaP8
import Derived.Test.YtobfngikgfjaoaaP10
/- FoldAgain: what was mapped holds nothing that is left out and no space but 20, and mapped again is the same; no condition. -/
namespace Go.Proofs.Ytobfngikgfjaoaa.Pure
open Go.RowKit Go.Proofs.Ytobfngikgfjaoaa.P Go.Proofs.YtobfngikgfjaoaaW.PrintWords Go.Proofs.YtobfngikgfjaoaaW.PrintLast
/-- A character that the map leaves as it is. -/
def Firm (b : Bool) (x : Int) : Prop := cKind x ≠ 6 ∧ (cKind x = 5 → x = 32) ∧ (b = true → fOne x = [x]) ∧ -2147483648 ≤ x ∧ x ≤ 2147483647
def fGood (r : Int) : Bool := decide (cKind r = 6) || decide (cKind r = 5) || (fOne r).all (fun x => decide (cKind x ≠ 6) && decide (cKind x ≠ 5) && decide (fOne x = [x]) && decide (-2147483648 ≤ x) && decide (x ≤ 2147483647))
theorem fGood_all {r : Int} (h0 : -2147483648 ≤ r) (h1 : r ≤ 2147483647) : fGood r = true := by
  revert h0 h1
  refine by_ranges (p := fun r => -2147483648 ≤ r → r ≤ 2147483647 → fGood r = true) (fun r h h0 h1 => ?_) ?_ ?_ ?_ ?_ r
  · unfold fGood
    rw [fOne_gap h0 h1 h]
    by_cases c6 : cKind r = 6
    · simp [c6]
    by_cases c5 : cKind r = 5
    · simp [c5]
    simp [c6, c5, fOne_gap h0 h1 h, h0, h1]
  · have : ∀ n : Fin 1072, fGood ((n.val : Nat) : Int) = true := by decide +kernel
    exact fun n _ _ => this n
  · have : ∀ n : Fin 70, fGood ((n.val + 8486 : Nat) : Int) = true := by decide +kernel
    exact fun n _ _ => this n
  · have : ∀ n : Fin 6, fGood ((n.val + 64256 : Nat) : Int) = true := by decide +kernel
    exact fun n _ _ => this n
  · have : ∀ n : Fin 26, fGood ((n.val + 65313 : Nat) : Int) = true := by decide +kernel
    exact fun n _ _ => this n
theorem firm_32 (b : Bool) : Firm b 32 := ⟨by decide +kernel, fun _ => rfl, fun _ => by decide +kernel, by decide, by decide⟩
theorem mOne_firm {b : Bool} {r : Int} (h0 : -2147483648 ≤ r) (h1 : r ≤ 2147483647) : ∀ x ∈ mOne b r, Firm b x := by
  intro x hx
  unfold mOne at hx
  by_cases c6 : cKind r = 6
  · rw [if_pos c6] at hx; simp at hx
  rw [if_neg c6] at hx
  by_cases c5 : cKind r = 5
  · rw [if_pos c5] at hx
    obtain rfl : x = 32 := by simpa using hx
    exact firm_32 b
  rw [if_neg c5] at hx
  by_cases hb : b = true
  · rw [if_pos hb] at hx
    have g := fGood_all h0 h1
    unfold fGood at g
    simp only [c6, c5, decide_false, Bool.false_or] at g
    have := List.all_eq_true.1 g x hx
    simp only [Bool.and_eq_true, decide_eq_true_eq] at this
    exact ⟨this.1.1.1.1, fun e => absurd e this.1.1.1.2, fun _ => this.1.1.2, this.1.2, this.2⟩
  · rw [if_neg hb] at hx
    obtain rfl : x = r := by simpa using hx
    exact ⟨c6, fun e => absurd e c5, fun e => absurd e hb, h0, h1⟩
theorem fMap_firm {b : Bool} {l : List Int} (hw : ∀ x ∈ l, -2147483648 ≤ x ∧ x ≤ 2147483647) : ∀ x ∈ fMap b l, Firm b x := by
  intro x hx
  obtain ⟨r, hr, hx⟩ := List.mem_flatMap.1 hx
  exact mOne_firm (hw r hr).1 (hw r hr).2 x hx
theorem mOne_of_firm {b : Bool} {x : Int} (h : Firm b x) : mOne b x = [x] := by
  unfold mOne
  rw [if_neg h.1]
  by_cases c5 : cKind x = 5
  · rw [if_pos c5, h.2.1 c5]
  rw [if_neg c5]
  by_cases hb : b = true
  · rw [if_pos hb, h.2.2.1 hb]
  · rw [if_neg hb]
theorem fMap_of_firm {b : Bool} {l : List Int} (h : ∀ x ∈ l, Firm b x) : fMap b l = l := by
  induction l with
  | nil => rfl
  | cons a t ih => rw [fMap_cons, mOne_of_firm (h a (by simp)), ih (fun x hx => h x (by simp [hx]))]; rfl
theorem fFolded_of_firm {l : List Int} (h : ∀ x ∈ l, Firm true x) : fFolded l = true := by
  unfold fFolded
  rw [List.all_eq_true]
  intro x hx
  have f := h x hx
  have := (fOne_self f.2.2.2.1 f.2.2.2.2).1 (f.2.2.1 rfl)
  simp [this.1, this.2]
theorem again_loop (b : Bool) (pre suf : List Int) (hf : ∀ x ∈ pre ++ suf, Firm b x) (hb : pre.length + suf.length < 100000000) :
    Ev (fun k => toponymlaw09_FoldAgain.l0 k b (pre ++ suf) (pre.length : Int)) true := by
  induction suf generalizing pre with
  | nil =>
    refine Ev.step (fun k => by simp only [toponymlaw09_FoldAgain.l0]; rfl) ?_
    refine ev_neg (by simp) ?_
    simp only [List.append_nil] at hf ⊢
    simp only [List.length_nil] at hb
    have aw : Ev (fun k => (toponymlaw09_awake.f k).bind fun t => some t) true := Ev.bind (Ev.of toponymlaw09_awake.mono (k := 30) (by decide +kernel)) (Ev.now _)
    have e := fMap_of_firm hf
    refine ev_ite (fun h => ?_) (fun h => ?_)
    · refine Ev.bind (folded_ev pre (by omega)) (ev_pos (fFolded_of_firm (by subst h; exact hf)) ?_)
      refine Ev.bind (map_ev b pre (by omega)) ?_
      rw [e]
      exact Ev.bind (same_ev _ _ (by omega)) (ev_pos (by simp) aw)
    · refine Ev.bind (map_ev b pre (by omega)) ?_
      rw [e]
      exact Ev.bind (same_ev _ _ (by omega)) (ev_pos (by simp) aw)
  | cons a t ih =>
    refine Ev.step (fun k => by simp only [toponymlaw09_FoldAgain.l0]; rfl) ?_
    refine ev_pos (mid_lt pre a t) (ev_pos (by omega) ?_)
    rw [rd_mid]
    have fa := hf a (by simp)
    simp only [List.length_cons] at hb
    have next : Ev (fun k => toponymlaw09_FoldAgain.l0 k b (pre ++ a :: t) (wrap64 ((pre.length : Int) + 1))) true := by
      rw [w64 (by omega) (by omega), mid_snoc pre, ← len_snoc pre a]
      exact ih (pre ++ [a]) (by simpa using hf) (by simp; omega)
    refine Ev.bind (is_ev a [6] (by simp)) (ev_neg (by simp [fa.1]) ?_)
    refine Ev.bind (is_ev a [5] (by simp)) ?_
    refine ev_ite (fun h => ?_) (fun h => next)
    exact ev_pos (fa.2.1 (by simpa using h)) next
theorem FoldAgain : toponymlaw09_FoldAgain.Pure := by
  intro b l h1 h2 h3
  have hw : ∀ x ∈ l, -2147483648 ≤ x ∧ x ≤ 2147483647 := fun x hx => wf32 (h3 x hx)
  refine Ev.rounds ?_
  unfold toponymlaw09_FoldAgain.f
  refine ev_ite (fun h => Ev.bind (Ev.of toponymlaw09_awake.mono (k := 30) (by decide +kernel)) (Ev.now _)) (fun h => ?_)
  refine Ev.bind (map_ev b l (by omega)) ?_
  have := fMap_length b l
  have r := again_loop b [] (fMap b l) (by simpa using fMap_firm hw) (by simp; omega)
  simpa using r
end Go.Proofs.Ytobfngikgfjaoaa.Pure
