import Derived.Test.YtmicdcgjooopeaaQHangulAwake
import Derived.Test.YtmicdcgjooopeaaQHangulMath
import Derived.Test.YtmicdcgjooopeaaP3
/- HangulWhole: of any list of numbers of 32 bits (of at most 5000, as the statement has it): what is whole is so, its parts made whole are the same, and no part is lost; no condition. -/
namespace Go.Proofs.Ytmicdcgjooopeaa.Pure
open Go.RowKit Go.Proofs.Ytmicdcgjooopeaa.P Go.Proofs.YtmicdcgjooopeaaW.PrintWords Go.Proofs.YtmicdcgjooopeaaW.PrintLast
open Hangul
theorem parts_loop (pre suf out : List Int) (hl : pre.length + suf.length ≤ 1000000) (ho : out.length ≤ 3 * pre.length) :
    Ev (fun k => toponymlaw04_apart.l0 k (pre ++ suf) out (pre.length : Int)) (out ++ parts suf) := by
  induction suf generalizing pre out with
  | nil =>
    refine Ev.step (fun k => by simp only [toponymlaw04_apart.l0]; rfl) ?_
    exact ev_neg (by simp) (ev_some (by simp [parts]))
  | cons a suf ih =>
    refine Ev.step (fun k => by simp only [toponymlaw04_apart.l0]; rfl) ?_
    simp only [List.length_cons] at hl
    refine ev_pos (mid_lt pre a suf) (ev_pos (by omega) ?_)
    rw [rd_mid]
    have h3 := (hApart_length a).2
    refine ev_bind0 (apart_ev a) (ev_pos (by omega) ?_)
    rw [w64 (by omega) (by omega), ← len_snoc pre a, mid_snoc]
    refine ev_eq (ih (pre ++ [a]) (out ++ hApart a) (by simp; omega) (by simp; omega)) ?_
    simp [parts, List.append_assoc]
theorem parts_ev (l : List Int) (hl : l.length ≤ 1000000) : Ev (fun k => toponymlaw04_apart.f k l) (parts l) := by
  unfold toponymlaw04_apart.f
  have := parts_loop [] l [] (by simpa using hl) (by simp)
  simpa using this
theorem HangulWhole : toponymlaw04_HangulWhole.Pure := by
  intro l h1 h2 h3
  refine Ev.rounds ?_
  unfold toponymlaw04_HangulWhole.f
  refine ev_ite (fun h => Ev.bind awake04_ev (Ev.now _)) (fun h => ?_)
  have hw := hWhole_length l
  have hp := parts_length (hWhole l)
  have hq := parts_length l
  refine Ev.bind (whole_ev l (by omega)) (Ev.bind (whole_ev _ (by omega)) ?_)
  refine Ev.bind (same_ev _ _ (by rw [whole_whole]; omega)) (ev_pos (by simp [whole_whole]) ?_)
  refine Ev.bind (parts_ev _ (by omega)) (Ev.bind (whole_ev _ (by omega)) ?_)
  rw [whole_parts (apart_whole l)]
  refine Ev.bind (same_ev _ _ (by omega)) (ev_pos (by simp) ?_)
  refine Ev.bind (parts_ev _ (by omega)) (Ev.bind (parts_ev _ (by omega)) ?_)
  refine Ev.bind (same_ev _ _ (by omega)) (ev_pos (by simp [parts_whole]) ?_)
  exact Ev.bind awake04_ev (Ev.now _)
end Go.Proofs.Ytmicdcgjooopeaa.Pure
