import Derived.Test.YtoaikbfngeopgaaQUtfRef2
import Derived.Test.YtoaikbfngeopgaaQUtfAwake
import Derived.Test.YtoaikbfngeopgaaP4
/- UtfDecodes: at any place of any bytes the program's Decode takes the code point that the reference's takes, or none; no condition. -/
namespace Go.Proofs.Ytoaikbfngeopgaa.Pure
open Go.RowKit Go.Proofs.Ytoaikbfngeopgaa.P Go.Proofs.YtoaikbfngeopgaaW.PrintWords Go.Proofs.YtoaikbfngeopgaaW.PrintLast
open Utf
theorem UtfDecodes : toponymlaw01_UtfDecodes.Pure := by
  intro s at_ h1 h2
  refine Ev.rounds ?_
  unfold toponymlaw01_UtfDecodes.f
  by_cases ho : at_ < 0 ∨ (s.size : Int) ≤ at_
  · refine Ev.bind (decode_out s at_ ho) (Ev.bind (rdecode_out s at_ ho) ?_)
    exact ev_pos rfl (ev_pos rfl (ev_pos rfl (Ev.bind awake01_ev (Ev.now _))))
  · have hS : ints s = (ints s).take at_.toNat ++ (ints s).drop at_.toNat := (List.take_append_drop _ _).symm
    have hl := ints_length s
    have e : (((ints s).take at_.toNat).length : Int) = at_ := by rw [List.length_take]; omega
    have h0 : (ints s).drop at_.toNat ≠ [] := by
      intro h
      have := congrArg List.length h
      rw [List.length_drop, List.length_nil] at this
      omega
    have a := decode_ev hS h0 (by omega)
    have b := rdecode_ev hS h0 (by omega)
    rw [e] at a b
    refine Ev.bind a (Ev.bind b ?_)
    exact ev_pos rfl (ev_pos rfl (ev_pos rfl (Ev.bind awake01_ev (Ev.now _))))
end Go.Proofs.Ytoaikbfngeopgaa.Pure
