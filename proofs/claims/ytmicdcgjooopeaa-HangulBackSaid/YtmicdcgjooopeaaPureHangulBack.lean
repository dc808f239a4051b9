import Derived.Test.YtmicdcgjooopeaaQHangulMath
import Derived.Test.YtmicdcgjooopeaaQSame
import Derived.Test.YtmicdcgjooopeaaT1
/- HangulBack: of any two numbers of 32 bits: a syllable's parts make it; what joins is, apart, the parts of the first, and then the second; no condition. -/
namespace Go.Proofs.Ytmicdcgjooopeaa.Pure
open Go.RowKit Go.Proofs.Ytmicdcgjooopeaa.P Go.Proofs.YtmicdcgjooopeaaW.PrintWords Go.Proofs.YtmicdcgjooopeaaW.PrintLast
open Hangul
theorem awakeB_ev : Ev (fun k => toponymlaw04_awake.f k) true := by
 refine Ev.of toponymlaw04_awake.mono (k := 12) ?_
 decide +kernel
theorem back_go (a b : Int) : Ev (fun k => toponymlaw04_HangulBack.j0 k a b (hApart a) false) true := by
 have fin : Ev (fun k => (toponymlaw04_awake.f k).bind fun t => some t) true := Ev.bind awakeB_ev (Ev.now _)
 refine Ev.step (fun k => by simp only [toponymlaw04_HangulBack.j0]; rfl) (ev_neg (by simp) ?_)
 refine Ev.bind (join_ev a b) ?_
 have hl := hApart_length a
 cases hj : (hJoin a b).2 with
 | true =>
  obtain ⟨h1, _, h3⟩ := hJoin_apart hj
  refine ev_pos rfl (ev_bind0 (syl_ev _) (ev_pos ?_ ?_))
  ·unfold hSyl
   exact decide_eq_true h3
  refine ev_bind0 (apart_ev _) (ev_pos (by omega) ?_)
  have hl2 := hApart_length (hJoin a b).1
  refine Ev.bind (same_ev _ _ (by omega)) (ev_pos ?_ fin)
  exact decide_eq_true h1
 | false =>
  refine ev_neg (by simp) (ev_pos ?_ fin)
  rw [hJoin_no hj]
theorem HangulBack : toponymlaw04_HangulBack.Pure := by
 intro a b _ _
 refine Ev.rounds ?_
 unfold toponymlaw04_HangulBack.f
 have hl := hApart_length a
 refine ev_bind0 (apart_ev a) (Ev.bind (whole_ev (hApart a) (by omega)) ?_)
 have hw : hWhole (hApart a) = [a] := foldl_part_nil a
 rw [hw]
 refine ev_pos rfl (ev_pos (by simp) (ev_pos rfl (ev_bind0 (syl_ev a) ?_)))
 have hb : (hSyl a != decide (((hApart a).length : Int) > 1)) = false := by
  have : hSyl a = decide (((hApart a).length : Int) > 1) := by
   unfold hSyl hApart
   by_cases c : 44032 ≤ a ∧ a ≤ 55203
   ·rw [if_pos c, decide_eq_true c]
    split <;> simp
   ·rw [if_neg c, decide_eq_false c]
    simp
  rw [this]
  simp
 rw [hb]
 exact back_go a b
end Go.Proofs.Ytmicdcgjooopeaa.Pure
