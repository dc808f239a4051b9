import Derived.Test.YtoaikbfngeopgaaQUtfRef2
import Derived.Test.YtoaikbfngeopgaaQUtfAwake
import Derived.Test.YtoaikbfngeopgaaP5
/- UtfRunes: any bytes (of at most 50000, as the statement has it) are the same code points for the program as for the reference, up to the same place; no condition. -/
namespace Go.Proofs.Ytoaikbfngeopgaa.Pure
open Go.RowKit Go.Proofs.Ytoaikbfngeopgaa.P Go.Proofs.YtoaikbfngeopgaaW.PrintWords Go.Proofs.YtoaikbfngeopgaaW.PrintLast
open Utf
theorem UtfRunes : toponymlaw01_UtfRunes.Pure := by
  intro s h1
  refine Ev.rounds ?_
  unfold toponymlaw01_UtfRunes.f
  refine ev_ite (fun h => Ev.bind awake01_ev (Ev.now _)) (fun h => ?_)
  refine Ev.bind (runes_ev (by omega)) (Ev.bind (rrunes_ev (by omega)) ?_)
  refine Ev.bind (same_ev _ _ ?_) (ev_pos (by simp) (ev_pos rfl (ev_pos rfl (Ev.bind awake01_ev (Ev.now _)))))
  have hb : Byte (ints s) := ints_range s
  rcases runes_form (f := s.size) 0 [] hb (by rw [ints_length]; omega) with ⟨l, g1, g2, g3⟩ | ⟨l, q, g1, g2, g3, g4, g5⟩
  · rw [g3]
    have := runes_few l g1
    rw [← g2, ints_length] at this
    simp only [List.nil_append]
    omega
  · rw [g5]
    simp
end Go.Proofs.Ytoaikbfngeopgaa.Pure
