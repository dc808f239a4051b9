import Derived.Test.YtddmaioalilhmaaQBlankMath
import Derived.Test.YtddmaioalilhmaaP12
/- solid, starts: of the laws. -/
namespace Go.Proofs.Ytddmaioalilhmaa.Pure
open Go.RowKit Go.Proofs.Ytddmaioalilhmaa.P Go.Proofs.YtddmaioalilhmaaW.PrintWords Go.Proofs.YtddmaioalilhmaaW.PrintLast
set_option linter.unusedVariables false
set_option linter.unusedSimpArgs false
theorem solid_loop (acc pre suf : List Int) (hb : pre.length + suf.length < 900000) (ha : acc.length ≤ pre.length) :
    Ev (fun k => toponymlaw11_solid.l0 k (pre ++ suf) acc (pre.length : Int)) (acc ++ leftS (S := sp) (mk := mkc) suf) := by
  induction suf generalizing pre acc with
  | nil =>
    refine Ev.step (fun k => by simp only [toponymlaw11_solid.l0]; rfl) ?_
    exact ev_neg (by simp) (ev_some (by simp [leftS, tgS]))
  | cons a t ih =>
    refine Ev.step (fun k => by simp only [toponymlaw11_solid.l0]; rfl) ?_
    simp only [List.length_cons] at hb
    refine ev_pos (mid_lt pre a t) ?_
    rw [rd_mid, leftS_cons, w64 (x := (pre.length : Int) + 1) (by omega) (by omega)]
    refine Ev.bind (space_at pre a t (by omega)) ?_
    have next : ∀ acc' : List Int, acc'.length ≤ pre.length + 1 → Ev (fun k => toponymlaw11_solid.l0 k (pre ++ a :: t) acc' ((pre.length : Int) + 1)) (acc' ++ leftS (S := sp) (mk := mkc) t) := by
      intro acc' h'
      rw [mid_snoc pre, ← len_snoc pre a]
      exact ih acc' (pre ++ [a]) (by simp; omega) (by simpa using h')
    refine ev_ite (fun h => ?_) (fun h => ?_)
    · rw [if_pos h]
      exact next acc (by omega)
    · rw [if_neg h]
      refine ev_pos (by omega) (ev_pos (by omega) ?_)
      have := next (acc ++ [a]) (by simp; omega)
      simpa using this
theorem solid_ev (l : List Int) (hb : l.length < 900000) : Ev (fun k => toponymlaw11_solid.f k l) (leftS (S := sp) (mk := mkc) l) := by
  unfold toponymlaw11_solid.f
  have := solid_loop [] [] l (by simpa using hb) (by simp)
  simpa using this
end Go.Proofs.Ytddmaioalilhmaa.Pure
