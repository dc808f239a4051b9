import Derived.Test.YthlejpbdmgcgbaaQGuardText
import Derived.Test.YthlejpbdmgcgbaaP8
import Derived.Test.YthlejpbdmgcgbaaP15
/- GuardKinds: a text that has some fit kinds alone is fit; one that has none of a kind has it not alone, if it has a character; no condition. -/
namespace Go.Proofs.Ythlejpbdmgcgbaa.Pure
open Go.RowKit Go.Proofs.Ythlejpbdmgcgbaa.P Go.Proofs.YthlejpbdmgcgbaaW.PrintWords Go.Proofs.YthlejpbdmgcgbaaW.PrintLast
open Utf
set_option maxRecDepth 100000
set_option linter.unusedVariables false
set_option linter.unusedSimpArgs false
theorem cKind_range (r : Int) : cKind r ∈ ([0, 1, 2, 3, 4, 5, 6, 7] : List Int) := by
  unfold cKind
  repeat' split
  all_goals simp
theorem fit_all {l : List Int} (h : ∀ r ∈ l, fitK r = true) : fitN l = l.length := by
  induction l with
  | nil => rfl
  | cons a t ih => rw [fitN_yes t (h a (by simp)), ih (fun r hr => h r (by simp [hr])), List.length_cons]
theorem GuardKinds : toponymlaw10_GuardKinds.Pure := by
  intro S K h1 hw
  have hk := wf64 hw
  refine Ev.rounds ?_
  have aw : Ev (fun k => (toponymlaw10_awake.f k).bind fun t => some t) true := Ev.bind (Ev.of toponymlaw10_awake.mono (k := 60) (by decide +kernel)) (Ev.now _)
  unfold toponymlaw10_GuardKinds.f
  refine ev_ite (fun _ => aw) (fun h => ?_)
  have hall : gOnly S [0, 1, 2, 3, 4, 5, 6, 7] = ((gText S).2 != 10) := by
    unfold gOnly gText
    rcases rdS_form S with ⟨l, g1, g2, g3, g4⟩ | ⟨l, q, g1, g2, g3, g4, g5⟩
    · rw [g4]
      have e : l.all (fun r => decide (cKind r ∈ ([0, 1, 2, 3, 4, 5, 6, 7] : List Int))) = true := List.all_eq_true.2 (fun r _ => decide_eq_true (cKind_range r))
      have e2 : (chkV l).2 = 30 ∨ (chkV l).2 = 0 := by unfold chkV; simp only; split <;> simp
      simp only [e, ↓reduceIte]
      rcases e2 with e2 | e2 <;> rw [e2] <;> rfl
    · rw [g5]; rfl
  have last : Ev (fun k => (guard_Only.f k S [0, 1, 2, 3, 4, 5, 6, 7]).bind fun t => if (t == ((gText S).2 != 10)) = true then ((toponymlaw10_awake.f k).bind fun t => some t) else some false) true :=
    Ev.bind (gonly_ev S _ (by omega) (by simp)) (ev_pos (by rw [hall]; simp) aw)
  have fin : ∀ b : Bool, (b = true → S.toList ≠ [] → gOnly S [wrap64 (K + 1)] = false) → Ev (fun k => toponymlaw10_GuardKinds.j0 k S K (gText S).2 b false) true := by
    intro b hb
    refine Ev.step (fun k => by simp only [toponymlaw10_GuardKinds.j0]; rfl) ?_
    refine ev_neg (by simp) ?_
    refine ev_ite (fun g => ?_) (fun _ => last)
    refine ev_ite (fun _ => last) (fun g2 => ?_)
    refine Ev.bind (gonly_ev S _ (by omega) (by simp)) ?_
    rw [hb g g2]
    exact ev_neg (by simp) last
  refine Ev.bind (gtext_ev S (by omega)) (Ev.bind (gonly_ev S [K] (by omega) (by simp)) ?_)
  refine ev_ite (fun g => ?_) (fun g => ?_)
  · -- all have the kind
    have hS : ∃ l, rdS S = (l, (S.size : Int), 0) ∧ ints S = enc l ∧ ∀ r ∈ l, cKind r = K := by
      unfold gOnly at g
      rcases rdS_form S with ⟨l, g1, g2, g3, g4⟩ | ⟨l, q, g1, g2, g3, g4, g5⟩
      · rw [g4] at g
        refine ⟨l, g4, g2, fun r hr => ?_⟩
        simp only [decide_true, Bool.true_and, List.all_eq_true, decide_eq_true_eq, List.mem_singleton] at g
        exact g r hr
      · rw [g5] at g; simp at g
    obtain ⟨l, e1, e2, e3⟩ := hS
    have next : S.toList ≠ [] → gOnly S [wrap64 (K + 1)] = false := by
      intro hne
      have hl : l ≠ [] := by
        rintro rfl
        apply hne
        have : S = ⟨#[]⟩ := ints_inj (by rw [e2]; rfl)
        rw [this]; decide +kernel
      obtain ⟨a, t, rfl⟩ := List.exists_cons_of_ne_nil hl
      have ha := e3 a (by simp)
      have hr := cKind_range a
      unfold gOnly
      rw [e1]
      simp only [List.all_cons]
      rw [decide_eq_false (show ¬ cKind a ∈ [wrap64 (K + 1)] from by
        rw [ha] at hr ⊢
        simp only [List.mem_cons, List.not_mem_nil, or_false] at hr ⊢
        rw [w64 (by omega) (by omega)]
        omega)]
      simp
    rw [g]
    refine ev_ite (fun _ => fin true (fun _ => next)) (fun hne => ?_)
    -- the text has a character
    have hl : l ≠ [] := by
      rintro rfl
      apply hne
      have : S = ⟨#[]⟩ := ints_inj (by rw [e2]; rfl)
      rw [this]; decide +kernel
    have he : (gText S).2 = if fitN l < l.length then 30 else 0 := by
      unfold gText
      rw [e1]
      rfl
    obtain ⟨a, t, hat⟩ := List.exists_cons_of_ne_nil hl
    have bad : (K = 0 ∨ K = 7) → (gText S).2 = 30 := by
      intro hK
      rw [he, if_pos]
      have ha := e3 a (by rw [hat]; simp)
      have hf : fitK a = false := by
        unfold fitK
        rw [ha]
        rcases hK with rfl | rfl <;> rfl
      rw [hat, fitN_no t hf]
      simp
    have good : ¬ (K = 0 ∨ K = 7) → (gText S).2 = 0 := by
      intro hK
      rw [he, if_neg]
      have : fitN l = l.length := fit_all (fun r hr => by
        have := e3 r hr
        unfold fitK
        rw [this]
        simp only [not_or] at hK
        simp [hK.1, hK.2])
      omega
    refine ev_ite (fun hK => ?_) (fun hK => ?_)
    · rw [bad (Or.inl hK)]
      have := fin true (fun _ => next)
      rw [bad (Or.inl hK)] at this
      exact this
    · by_cases h7 : K = 7
      · have := fin true (fun _ => next)
        rw [bad (Or.inr h7)] at this ⊢
        rw [h7] at this ⊢
        exact this
      · have := fin true (fun _ => next)
        rw [good (fun e => e.elim hK h7)] at this ⊢
        rw [beq_eq_false_iff_ne.2 h7]
        exact this
  · rw [(Bool.not_eq_true _).mp g]
    exact fin false (fun e => by cases e)
end Go.Proofs.Ythlejpbdmgcgbaa.Pure
