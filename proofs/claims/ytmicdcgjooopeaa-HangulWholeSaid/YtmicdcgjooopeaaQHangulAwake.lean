import Derived.Test.YtmicdcgjooopeaaQHangulRef
import Derived.Test.YtmicdcgjooopeaaP2
import Derived.Test.YtmicdcgjooopeaaP3
/- Layer 4 (hangul): the probes, and the reference's Whole. -/
namespace Go.Proofs.Ytmicdcgjooopeaa.Pure
open Go.RowKit Go.Proofs.Ytmicdcgjooopeaa.P Go.Proofs.YtmicdcgjooopeaaW.PrintWords Go.Proofs.YtmicdcgjooopeaaW.PrintLast
open Hangul
set_option linter.unusedVariables false
theorem awake04_ev : Ev (fun k => toponymlaw04_awake.f k) true := by
  refine Ev.of toponymlaw04_awake.mono (k := 12) ?_
  decide +kernel
theorem rwhole_loop (pre suf out : List Int) (hl : pre.length + suf.length ≤ 1000000) (ho : out.length ≤ pre.length) :
    Ev (fun k => toponymref04_Whole.l0 k (pre ++ suf) out (pre.length : Int)) (suf.foldl hStep out) := by
  induction suf generalizing pre out with
  | nil =>
    refine Ev.step (fun k => by simp only [toponymref04_Whole.l0]; rfl) ?_
    exact ev_neg (by simp) (Ev.now _)
  | cons a suf ih =>
    refine Ev.step (fun k => by simp only [toponymref04_Whole.l0]; rfl) ?_
    simp only [List.length_cons] at hl
    have hw : wrap64 ((pre.length : Int) + 1) = ((pre ++ [a]).length : Int) := by rw [w64 (by omega) (by omega), len_snoc]
    refine ev_pos (mid_lt pre a suf) ?_
    have hw2 : wrap64 ((out.length : Int) - 1) = (out.length : Int) - 1 := w64 (by omega) (by omega)
    have hnext : ∀ out', out'.length ≤ out.length + 1 → out' = hStep out a → Ev (fun k => toponymref04_Whole.l0 k (pre ++ a :: suf) out' (wrap64 ((pre.length : Int) + 1))) ((a :: suf).foldl hStep out) := by
      intro out' h1 h2
      rw [hw, mid_snoc, List.foldl_cons, ← h2]
      exact ih (pre ++ [a]) out' (by simp; omega) (by simp; omega)
    rw [hw2, rd_mid]
    rcases List.eq_nil_or_concat out with rfl | ⟨o, h, rfl⟩
    · refine ev_neg (by simp) (ev_pos (by omega) (ev_pos (by simp) ?_))
      exact hnext _ (by simp) (by simp [hStep])
    · have e1 : rd (o ++ [h]) (((o ++ [h]).length : Int) - 1) = h := by
        have e0 : ((o ++ [h]).length : Int) - 1 = o.length := by simp
        rw [e0]
        exact rd_mid o h []
      simp only [List.concat_eq_append] at *
      refine ev_pos (by simp <;> omega) (ev_pos (by simp <;> omega) (ev_pos (by simp <;> omega) (ev_pos (by omega) ?_)))
      rw [e1]
      refine Ev.bind (rjoin_ev h a) ?_
      refine ev_bool (fun hj => ?_) (fun hj => ?_)
      · have e2 : (o ++ [h]).take (((o ++ [h]).length : Int) - 1).toNat = o := by
          have : (((o ++ [h]).length : Int) - 1).toNat = o.length := by simp
          rw [this]; simp
        refine ev_bind0 rfl (ev_pos (by omega) (ev_bind0 rfl ?_))
        rw [e2]
        refine ev_pos (by simp at ho ⊢; omega) (ev_bind0 rfl (ev_pos (by simp at ho ⊢; omega) ?_))
        exact hnext _ (by simp) (by simp [hStep, hj])
      · refine ev_pos (by simp at ho ⊢; omega) ?_
        exact hnext _ (by simp) (by simp [hStep, hj])
theorem rwhole_ev (l : List Int) (hl : l.length ≤ 1000000) : Ev (fun k => toponymref04_Whole.f k l) (hWhole l) := by
  unfold toponymref04_Whole.f
  exact rwhole_loop [] l [] (by simpa using hl) (by simp)
theorem foldl_length (l out : List Int) : (l.foldl hStep out).length ≤ out.length + l.length := by
  induction l generalizing out with
  | nil => simp
  | cons a l ih =>
    have h1 := ih (hStep out a)
    have h2 := hStep_length out a
    simp only [List.foldl_cons, List.length_cons]
    omega
theorem hWhole_length (l : List Int) : (hWhole l).length ≤ l.length := by
  have := foldl_length l []
  simpa [hWhole] using this
end Go.Proofs.Ytmicdcgjooopeaa.Pure
