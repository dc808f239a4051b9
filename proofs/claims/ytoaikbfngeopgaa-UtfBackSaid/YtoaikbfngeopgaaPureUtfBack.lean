import Derived.Test.YtoaikbfngeopgaaQUtfRef2
import Derived.Test.YtoaikbfngeopgaaQUtfAwake
import Derived.Test.YtoaikbfngeopgaaP5
/- UtfBack: of any list of numbers of 32 bits (of at most 20000, as the statement has it): if all are code points, they are read as they were laid; no condition. -/
namespace Go.Proofs.Ytoaikbfngeopgaa.Pure
open Go.RowKit Go.Proofs.Ytoaikbfngeopgaa.P Go.Proofs.YtoaikbfngeopgaaW.PrintWords Go.Proofs.YtoaikbfngeopgaaW.PrintLast
open Utf
theorem back_loop (l : List Int) (hl : l.length ≤ 20000) (pre suf : List Int) (n : Int) (he : l = pre ++ suf) (hp : ∀ r ∈ pre, pt r) (hn : n = (enc pre).length) :
    Ev (fun k => toponymlaw01_UtfBack.l0 k (pre ++ suf) n (pre.length : Int)) true := by
  induction suf generalizing pre n with
  | nil =>
    subst he
    simp only [List.append_nil] at hl ⊢
    refine Ev.step (fun k => by simp only [toponymlaw01_UtfBack.l0]; rfl) ?_
    refine ev_neg (by omega) ?_
    have hla : laid pre = (strOfNums (enc pre), 0) := by unfold laid; rw [if_pos hp]
    have hsz : (strOfNums (enc pre)).size = (enc pre).length := by rw [← ints_length, ints_laid hp]
    have h4 := enc_len4 pre
    refine Ev.bind (encode_ev pre (by omega)) ?_
    rw [hla]
    have hr := runes_ev (S := strOfNums (enc pre)) (by omega)
    rw [ints_laid hp, hsz, runes_enc hp _ _ _ (Nat.le_refl _)] at hr
    refine Ev.bind hr ?_
    refine ev_pos rfl (ev_pos rfl (ev_pos (by simp only; rw [hsz, hn]) (ev_pos (by simp only; omega) ?_)))
    refine Ev.bind (same_ev _ _ (by omega)) (ev_pos (by simp) (Ev.bind awake01_ev (Ev.now _)))
  | cons r suf ih =>
    have hl2 := congrArg List.length he
    simp only [List.length_append, List.length_cons] at hl2
    refine Ev.step (fun k => by simp only [toponymlaw01_UtfBack.l0]; rfl) ?_
    refine ev_pos (mid_lt pre r suf) (ev_pos (by omega) ?_)
    rw [rd_mid]
    refine ev_bind0 (point_ev r) ?_
    refine ev_bool (fun h => ?_) (fun h => Ev.bind awake01_ev (Ev.now _))
    simp only [decide_eq_true_eq] at h
    refine ev_bind0 (length_ev r) ?_
    have h4 := enc_len4 pre
    have h5 := enc1_length h
    have h6 := len_pos h
    rw [w64 (by omega) (by omega), w64 (by omega) (by omega), ← len_snoc pre r, mid_snoc]
    refine ih (pre ++ [r]) _ (by rw [he, mid_snoc]) ?_ ?_
    · intro x hx
      rcases List.mem_append.1 hx with hx | hx
      · exact hp x hx
      · simp at hx; rw [hx]; exact h
    · rw [enc_snoc, List.length_append]
      omega
theorem UtfBack : toponymlaw01_UtfBack.Pure := by
  intro l h1 h2 h3
  refine Ev.rounds ?_
  unfold toponymlaw01_UtfBack.f
  refine ev_ite (fun h => Ev.bind awake01_ev (Ev.now _)) (fun h => ?_)
  exact back_loop l (by omega) [] l 0 rfl (by simp) (by simp [enc])
end Go.Proofs.Ytoaikbfngeopgaa.Pure
