import Derived.Test.YtobfngikgfjaoaaQFoldMap
import Derived.Test.YtobfngikgfjaoaaP8
import Derived.Test.YtobfngikgfjaoaaP10
/- FoldMaps: any numbers of 32 bits (at most 2000, as the statement has it) are mapped, and told to be folded, as the reference does; no condition. -/
namespace Go.Proofs.Ytobfngikgfjaoaa.Pure
open Go.RowKit Go.Proofs.Ytobfngikgfjaoaa.P Go.Proofs.YtobfngikgfjaoaaW.PrintWords Go.Proofs.YtobfngikgfjaoaaW.PrintLast
theorem rmap_loop (b : Bool) (acc pre suf : List Int) (hw : ∀ x ∈ suf, -2147483648 ≤ x ∧ x ≤ 2147483647) (hb : pre.length + suf.length < 9000000000000000000) (ha : acc.length + 3 * suf.length < 35184372088832) :
    Ev (fun k => toponymref09_Map.l0 k b (pre ++ suf) acc (pre.length : Int)) (acc ++ fMap b suf) := by
  induction suf generalizing pre acc with
  | nil =>
    refine Ev.step (fun k => by simp only [toponymref09_Map.l0]; rfl) ?_
    exact ev_neg (by simp) (ev_some (by simp [fMap]))
  | cons a t ih =>
    refine Ev.step (fun k => by simp only [toponymref09_Map.l0]; rfl) ?_
    refine ev_pos (mid_lt pre a t) (ev_pos (by omega) ?_)
    rw [rd_mid]
    simp only [List.length_cons] at hb ha
    have hm := mOne_length b a
    obtain ⟨hw0, hw1⟩ := hw a (by simp)
    rw [fMap_cons]
    have next : ∀ x : List Int, x = mOne b a → Ev (fun k => toponymref09_Map.l0 k b (pre ++ a :: t) (acc ++ x) (wrap64 ((pre.length : Int) + 1))) (acc ++ (mOne b a ++ fMap b t)) := by
      intro x hx
      rw [w64 (by omega) (by omega), mid_snoc pre, ← len_snoc pre a]
      refine ev_eq (ih (acc ++ x) (pre ++ [a]) (fun y hy => hw y (by simp [hy])) (by simp; omega) (by rw [hx]; simp; omega)) ?_
      rw [hx, List.append_assoc]
    refine Ev.bind (rkind_ev a) ?_
    rw [rKind_cKind]
    refine ev_ite (fun h => ?_) (fun h6 => ?_)
    · have e : mOne b a = [] := by unfold mOne; rw [if_pos h]
      simpa using next [] e.symm
    refine ev_ite (fun h => ?_) (fun h5 => ?_)
    · have e : mOne b a = [32] := by unfold mOne; rw [if_neg h6, if_pos h]
      exact ev_pos (by omega) (next _ e.symm)
    refine ev_ite (fun hb => ?_) (fun hb => ?_)
    · have e : mOne b a = fOne a := by unfold mOne; rw [if_neg h6, if_neg h5, if_pos hb]
      refine Ev.bind (rone_ev a) ?_
      rw [← fOne_rOne hw0 hw1]
      have := fOne_length a
      exact ev_pos (by omega) (next _ e.symm)
    · have e : mOne b a = [a] := by unfold mOne; rw [if_neg h6, if_neg h5, if_neg hb]
      exact ev_pos (by omega) (next _ e.symm)
theorem rfolded_loop (pre suf : List Int) (hw : ∀ x ∈ suf, -2147483648 ≤ x ∧ x ≤ 2147483647) (hb : pre.length + suf.length < 9000000000000000000) :
    Ev (fun k => toponymref09_Folded.l0 k (pre ++ suf) (pre.length : Int)) (fFolded suf) := by
  induction suf generalizing pre with
  | nil =>
    refine Ev.step (fun k => by simp only [toponymref09_Folded.l0]; rfl) ?_
    exact ev_neg (by simp) (ev_some rfl)
  | cons a t ih =>
    refine Ev.step (fun k => by simp only [toponymref09_Folded.l0]; rfl) ?_
    refine ev_pos (mid_lt pre a t) (ev_pos (by omega) ?_)
    rw [rd_mid]
    simp only [List.length_cons] at hb
    obtain ⟨hw0, hw1⟩ := hw a (by simp)
    have e : fFolded (a :: t) = ((decide (fUp a = 0) && decide (fMore a = [])) && fFolded t) := rfl
    rw [e]
    refine Ev.bind (rone_ev a) ?_
    rw [← fOne_rOne hw0 hw1]
    have hs := fOne_self hw0 hw1
    by_cases c : fOne a = [a]
    · rw [c]
      refine ev_pos (by simp) (ev_pos (by simp) (ev_pos (by simp [rd]) ?_))
      rw [w64 (by omega) (by omega), mid_snoc pre, ← len_snoc pre a]
      refine ev_eq (ih (pre ++ [a]) (fun y hy => hw y (by simp [hy])) (by simp; omega)) ?_
      simp [(hs.1 c).1, (hs.1 c).2]
    · have hf : (decide (fUp a = 0) && decide (fMore a = [])) = false := by
        rw [Bool.eq_false_iff]
        intro x
        simp only [Bool.and_eq_true, decide_eq_true_eq] at x
        exact c (hs.2 x)
      rw [hf, Bool.false_and]
      refine ev_ite (fun h => ?_) (fun h => Ev.now _)
      refine ev_pos (by omega) (ev_neg ?_ (Ev.now _))
      intro x
      obtain ⟨y, hy⟩ := List.length_eq_one_iff.1 (show (fOne a).length = 1 by omega)
      rw [hy] at x c
      simp [rd] at x
      exact c (by rw [x])
theorem FoldMaps : toponymlaw09_FoldMaps.Pure := by
  intro b l h1 h2 h3
  have hw : ∀ x ∈ l, -2147483648 ≤ x ∧ x ≤ 2147483647 := fun x hx => wf32 (h3 x hx)
  refine Ev.rounds ?_
  unfold toponymlaw09_FoldMaps.f
  have aw : Ev (fun k => (toponymlaw09_awake.f k).bind fun t => some t) true := Ev.bind (Ev.of toponymlaw09_awake.mono (k := 30) (by decide +kernel)) (Ev.now _)
  refine ev_ite (fun h => aw) (fun h => ?_)
  refine Ev.bind (map_ev b l (by omega)) ?_
  have rm := rmap_loop b [] [] l hw (by simp; omega) (by simp; omega)
  have rf := rfolded_loop [] l hw (by simp; omega)
  refine Ev.bind (show Ev (fun k => toponymref09_Map.f k b l) (fMap b l) from by unfold toponymref09_Map.f; simpa using rm) ?_
  have := fMap_length b l
  refine Ev.bind (same_ev _ _ (by omega)) (ev_pos (by simp) ?_)
  refine Ev.bind (folded_ev l (by omega)) ?_
  refine Ev.bind (show Ev (fun k => toponymref09_Folded.f k l) (fFolded l) from by unfold toponymref09_Folded.f; simpa using rf) ?_
  exact ev_pos (by simp) aw
end Go.Proofs.Ytobfngikgfjaoaa.Pure
