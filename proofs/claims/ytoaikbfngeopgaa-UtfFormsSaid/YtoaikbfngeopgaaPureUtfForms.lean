import Derived.Test.YtoaikbfngeopgaaQUtfRef2
import Derived.Test.YtoaikbfngeopgaaQUtfAwake
import Derived.Test.YtoaikbfngeopgaaP5
/- UtfForms: of any bytes (of at most 50000, as the statement has it): what is read, laid, is these bytes; where nothing is read on, the bytes ahead are some code points', and no code point's stand there; no condition. -/
namespace Go.Proofs.Ytoaikbfngeopgaa.Pure
open Go.RowKit Go.Proofs.Ytoaikbfngeopgaa.P Go.Proofs.YtoaikbfngeopgaaW.PrintWords Go.Proofs.YtoaikbfngeopgaaW.PrintLast
open Utf
theorem UtfForms : toponymlaw01_UtfForms.Pure := by
  intro s h1
  refine Ev.rounds ?_
  unfold toponymlaw01_UtfForms.f
  refine ev_ite (fun h => Ev.bind awake01_ev (Ev.now _)) (fun h => ?_)
  have hb : Byte (ints s) := ints_range s
  have hl := ints_length s
  have hr := runes_ev (S := s) (by omega)
  rcases runes_form (f := s.size) 0 [] hb (by rw [ints_length]; omega) with ⟨l, g1, g2, g3⟩ | ⟨l, q, g1, g2, g3, g4, g5⟩
  · rw [g3] at hr
    refine Ev.bind hr (ev_pos rfl ?_)
    have hf := runes_few l g1
    have hla : laid l = (strOfNums (enc l), 0) := by unfold laid; rw [if_pos g1]
    have he := encode_ev ([] ++ l) (by rw [← g2] at hf; simp only [List.nil_append]; omega)
    simp only [List.nil_append] at he ⊢
    refine Ev.bind he ?_
    rw [hla]
    refine ev_pos ?_ (ev_pos rfl (ev_pos (by omega) (Ev.bind awake01_ev (Ev.now _))))
    rw [toList_iff, ints_laid g1, g2]
  · rw [g5] at hr
    have hq : 0 < q.length := List.length_pos_iff.2 g3
    have hz := congrArg List.length g2
    rw [List.length_append] at hz
    refine Ev.bind hr (ev_neg (by simp) (ev_neg (by simp) (ev_neg (by simp only; omega) ?_)))
    refine Ev.step (fun k => by simp only [toponymlaw01_UtfForms.j0]; rfl) ?_
    refine ev_neg (by simp only [decide_eq_true_eq]; omega) (ev_pos (by omega) (ev_pos (by omega) ?_))
    have e1 : ((0 : Int) + (enc l).length).toNat = (enc l).length := by omega
    have hx : ints (s.extract 0 (enc l).length) = enc l := by
      rw [ints_extract, g2, List.drop_zero, Nat.sub_zero, List.take_left]
    have hxs : (s.extract 0 (enc l).length).size = (enc l).length := by rw [← ints_length, hx]
    have hr2 := runes_ev (S := s.extract 0 (enc l).length) (by omega)
    rw [hx, hxs, runes_enc g1 _ _ _ (Nat.le_refl _)] at hr2
    simp only [e1]
    refine Ev.bind hr2 ?_
    have hd := decode_ev (S := s) (pre := enc l) (s := q) g2 g3 (by omega)
    have e2 : (0 : Int) + (enc l).length = (enc l).length := by omega
    rw [e2]
    unfold told at hd
    rw [g4] at hd
    refine Ev.bind hd (ev_pos (by simp) (ev_pos (by simp) (ev_pos (by simp) (ev_pos (by simp) (Ev.bind awake01_ev (Ev.now _))))))
end Go.Proofs.Ytoaikbfngeopgaa.Pure
