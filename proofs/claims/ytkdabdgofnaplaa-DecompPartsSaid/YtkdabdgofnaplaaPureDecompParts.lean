import Derived.Test.YtkdabdgofnaplaaQDecompRef
import Derived.Test.YtkdabdgofnaplaaQSame
import Derived.Test.YtkdabdgofnaplaaP9
import Derived.Test.YtkdabdgofnaplaaP10
/- DecompParts: what the program's five say of a number is what the reference says; no condition. -/
namespace Go.Proofs.Ytkdabdgofnaplaa.Pure
open Go.RowKit Go.Proofs.Ytkdabdgofnaplaa.P Go.Proofs.YtkdabdgofnaplaaW.PrintWords Go.Proofs.YtkdabdgofnaplaaW.PrintLast
theorem DecompParts : toponymlaw05_DecompParts.Pure := by
  intro a0 hw
  have hb := wf32 hw
  refine Ev.rounds ?_
  have aw : Ev (fun k => (toponymlaw05_awake.f k).bind fun t => some t) true := Ev.bind (Ev.of toponymlaw05_awake.mono (k := 60) (by decide +kernel)) (Ev.now _)
  obtain ⟨p, hp1, hp2⟩ := pair_both a0
  obtain ⟨s, hs1, hs2⟩ := single_both a0 hb
  obtain ⟨L, hL, hl1, hl2⟩ := loose_both a0 hb
  unfold toponymlaw05_DecompParts.f
  refine Ev.bind hp1 (Ev.bind hp2 (Ev.bind hs1 (ev_bind0 hs2 ?_)))
  refine ev_pos rfl (ev_pos rfl (ev_pos (by simp) (ev_pos rfl (ev_pos (by simp) ?_))))
  refine Ev.bind hl1 (Ev.bind hl2 (Ev.bind (same_ev L L (by omega)) (ev_pos (by simp) ?_)))
  have ht := dOne_length true a0
  have hf := dOne_length false a0
  refine Ev.bind (dec_one_ev a0 true) (Ev.bind (rone_ev a0 true hb) (Ev.bind (same_ev _ _ (by omega)) (ev_pos (by simp) ?_)))
  refine Ev.bind (dec_one_ev a0 false) (Ev.bind (rone_ev a0 false hb) (Ev.bind (same_ev _ _ (by omega)) (ev_pos (by simp) aw)))
end Go.Proofs.Ytkdabdgofnaplaa.Pure
