import Derived.Test.YtkdabdgofnaplaaQApart
import Derived.Test.YtkdabdgofnaplaaP7
import Derived.Test.YtkdabdgofnaplaaP8
/- DecompWhole: what was taken apart is apart, in the other way too, and no shorter, and at most four times as long; no condition. -/
namespace Go.Proofs.Ytkdabdgofnaplaa.Pure
open Go.RowKit Go.Proofs.Ytkdabdgofnaplaa.P Go.Proofs.YtkdabdgofnaplaaW.PrintWords Go.Proofs.YtkdabdgofnaplaaW.PrintLast
theorem equal_loop (pre suf : List Int) (hb : pre.length + suf.length < 9000000000000000000) :
    Ev (fun k => slices_Equal_rune_rune.l0 k (pre ++ suf) (pre ++ suf) ((pre ++ suf).length : Int) (pre.length : Int)) true := by
  induction suf generalizing pre with
  | nil =>
    refine Ev.step (fun k => by simp only [slices_Equal_rune_rune.l0]; rfl) ?_
    exact ev_neg (by simp) (ev_some rfl)
  | cons a t ih =>
    refine Ev.step (fun k => by simp only [slices_Equal_rune_rune.l0]; rfl) ?_
    refine ev_pos (mid_lt pre a t) (ev_pos (by omega) (ev_pos (mid_lt pre a t) (ev_pos (mid_lt pre a t) (ev_pos (by simp) ?_))))
    simp only [List.length_cons] at hb
    rw [w64 (by omega) (by omega), mid_snoc pre, ← len_snoc pre a]
    exact ih (pre ++ [a]) (by simp; omega)
theorem apart_ev (b : Bool) (l : List Int) (h : dAll b l = l) (hb : l.length < 1000000) : Ev (fun k => decomp_Apart.f k b l) true := by
  unfold decomp_Apart.f
  refine Ev.bind (dec_all_ev b l (by omega)) ?_
  rw [h]
  have := equal_loop [] l (by simp; omega)
  refine Ev.bind (show Ev (fun k => slices_Equal_rune_rune.f k l l) true from ?_) (Ev.now _)
  unfold slices_Equal_rune_rune.f
  refine ev_pos rfl ?_
  simpa using this
theorem DecompWhole : toponymlaw05_DecompWhole.Pure := by
  intro b l h1 h2 h3
  refine Ev.rounds ?_
  unfold toponymlaw05_DecompWhole.f
  have aw : Ev (fun k => (toponymlaw05_awake.f k).bind fun t => some t) true := Ev.bind (Ev.of toponymlaw05_awake.mono (k := 60) (by decide +kernel)) (Ev.now _)
  refine ev_ite (fun h => aw) (fun h => ?_)
  have e1 := dAll_lens b l
  have e2 := dAll_twice b l
  refine Ev.bind (dec_all_ev b l (by omega)) ?_
  refine Ev.bind (apart_ev b _ e2.1 (by omega)) (ev_pos rfl ?_)
  refine Ev.bind (apart_ev false _ e2.2 (by omega)) (ev_pos rfl ?_)
  refine ev_pos (by omega) (ev_pos ?_ aw)
  rw [w64 (by omega) (by omega)]
  omega
end Go.Proofs.Ytkdabdgofnaplaa.Pure
