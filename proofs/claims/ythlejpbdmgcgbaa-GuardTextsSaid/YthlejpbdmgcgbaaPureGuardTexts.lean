import Derived.Test.YthlejpbdmgcgbaaQGuardText
import Derived.Test.YthlejpbdmgcgbaaQGuardRef
import Derived.Test.YthlejpbdmgcgbaaQUtfRef2
import Derived.Test.YthlejpbdmgcgbaaP8
import Derived.Test.YthlejpbdmgcgbaaP13
import Derived.Test.YthlejpbdmgcgbaaP14
/- GuardTexts: any text is fit, or not, from the document's place on, and has some kinds alone, or not; no condition. -/
namespace Go.Proofs.Ythlejpbdmgcgbaa.Pure
open Go.RowKit Go.Proofs.Ythlejpbdmgcgbaa.P Go.Proofs.YthlejpbdmgcgbaaW.PrintWords Go.Proofs.YthlejpbdmgcgbaaW.PrintLast
open Utf
set_option maxRecDepth 100000
set_option linter.unusedVariables false
set_option linter.unusedSimpArgs false
theorem ris_loop (x : Int) (pre suf : List Int) (hb : pre.length + suf.length < 9000000000000000000) : Ev (fun k => toponymref03_Is.l0 k (pre ++ suf) x (pre.length : Int)) (decide (x ∈ suf)) := by
  induction suf generalizing pre with
  | nil =>
    refine Ev.step (fun k => by simp only [toponymref03_Is.l0]; rfl) ?_
    exact ev_neg (by simp) (ev_some (by simp))
  | cons a t ih =>
    refine Ev.step (fun k => by simp only [toponymref03_Is.l0]; rfl) ?_
    refine ev_pos (mid_lt pre a t) (ev_pos (by omega) ?_)
    rw [rd_mid]
    simp only [List.length_cons] at hb
    refine ev_ite (fun h => ev_some (by simp [h])) (fun h => ?_)
    rw [w64 (by omega) (by omega), mid_snoc pre, ← len_snoc pre a]
    refine ev_eq (ih (pre ++ [a]) (by simp; omega)) ?_
    have h' : ¬ x = a := fun e => h e.symm
    simp [h']
theorem ris_ev (r : Int) (K : List Int) (hK : K.length < 1000000) : Ev (fun k => toponymref03_Is.f k r K) (decide (cKind r ∈ K)) := by
  unfold toponymref03_Is.f
  refine Ev.bind (rkind_ev r) ?_
  rw [rKind_cKind]
  have := ris_loop (cKind r) [] K (by simp; omega)
  simpa using this
theorem ronly_loop (K pre suf : List Int) (e : Int) (hK : K.length < 1000000) (hb : pre.length + suf.length < 9000000000000000000) : Ev (fun k => toponymref10_Only.l0 k K (pre ++ suf) e (pre.length : Int)) (suf.all (fun r => decide (cKind r ∈ K)) && (e == 0)) := by
  induction suf generalizing pre with
  | nil =>
    refine Ev.step (fun k => by simp only [toponymref10_Only.l0]; rfl) ?_
    exact ev_neg (by simp) (ev_some (by simp))
  | cons a t ih =>
    refine Ev.step (fun k => by simp only [toponymref10_Only.l0]; rfl) ?_
    refine ev_pos (mid_lt pre a t) (ev_pos (by omega) ?_)
    rw [rd_mid]
    simp only [List.length_cons] at hb
    refine Ev.bind (ris_ev a K hK) ?_
    refine ev_ite (fun h => ?_) (fun h => ev_some ?_)
    · rw [w64 (by omega) (by omega), mid_snoc pre, ← len_snoc pre a]
      refine ev_eq (ih (pre ++ [a]) (by simp; omega)) ?_
      rw [List.all_cons, h, Bool.true_and]
    · rw [List.all_cons, (Bool.not_eq_true _).mp h]
      simp
theorem ronly_ev (S : ByteArray) (K : List Int) (hs : S.size < 100000000) (hK : K.length < 1000000) : Ev (fun k => toponymref10_Only.f k S K) (gOnly S K) := by
  unfold toponymref10_Only.f gOnly
  refine Ev.bind (show Ev (fun k => toponymref01_Runes.f k S) (rdS S) from rrunes_ev (by omega)) ?_
  rcases rdS_form S with ⟨l, g1, g2, g3, g4⟩ | ⟨l, q, g1, g2, g3, g4, g5⟩
  · rw [g4]
    have := ronly_loop K [] l 0 hK (by simp; omega)
    refine ev_eq (by simpa using this) (by simp)
  · rw [g5]
    have := ronly_loop K [] [] 10 hK (by simp)
    refine ev_eq (by simpa using this) (by simp)
theorem rtext_loop {S : ByteArray} (hs : S.size < 100000000) (d rest : List Int) (hp : ∀ r ∈ rest, pt r) (hS : ints S = enc d ++ enc rest) :
    Ev (fun k => toponymref10_Text.l0 k S ((enc d).length : Int)) (((enc d).length : Int) + (enc (rest.take (fitN rest))).length, if fitN rest < rest.length then 30 else 0) := by
  have hl := congrArg List.length hS
  rw [ints_length, List.length_append] at hl
  induction rest generalizing d with
  | nil =>
    refine Ev.step (fun k => by simp only [toponymref10_Text.l0]; rfl) ?_
    have : (enc ([] : List Int)).length = 0 := rfl
    exact ev_neg (by omega) (ev_some (by simp [fitN, enc]))
  | cons a t ih =>
    have ha := hp a (by simp)
    have e1 : enc (a :: t) = enc1 a ++ enc t := by simp [enc]
    have h1 := enc1_length ha
    have h2 := len_pos ha
    refine Ev.step (fun k => by simp only [toponymref10_Text.l0]; rfl) ?_
    rw [e1, List.length_append] at hl
    refine ev_pos (by omega) ?_
    have hd := rdecode_ev (S := S) (pre := enc d) (s := enc (a :: t)) hS (by rw [e1]; intro h0; have := congrArg List.length h0; rw [List.length_append, List.length_nil] at this; omega) (by omega)
    rw [show told ((enc d).length : Int) (enc (a :: t)) = (a, ((enc d).length : Int) + len a, 0) from by unfold told; rw [e1, dec_enc ha]] at hd
    refine Ev.bind hd (Ev.bind (rfit_ev a) ?_)
    refine ev_ite (fun h => ?_) (fun h => ?_)
    · have hn : enc (d ++ [a]) = enc d ++ enc1 a := by simp [enc]
      have hx : ((enc (d ++ [a])).length : Int) = ((enc d).length : Int) + len a := by rw [hn, List.length_append]; omega
      have := ih (d ++ [a]) (fun r hr => hp r (by simp [hr])) (by rw [hS, e1, hn, List.append_assoc]) (by rw [hn, List.length_append]; omega)
      rw [hx] at this
      refine ev_eq this ?_
      rw [fitN_yes t h, List.take_succ_cons, List.length_cons]
      have e3 : enc (a :: t.take (fitN t)) = enc1 a ++ enc (t.take (fitN t)) := by simp [enc]
      refine Prod.ext ?_ ?_
      · simp only [e3, List.length_append]
        omega
      · simp only
        by_cases g : fitN t < t.length
        · rw [if_pos g, if_pos (by omega)]
        · rw [if_neg g, if_neg (by omega)]
    · rw [fitN_no t ((Bool.not_eq_true _).mp h)]
      refine ev_some ?_
      rw [if_pos (by simp)]
      simp [enc]
theorem rgtext_ev (S : ByteArray) (hs : S.size < 100000000) : Ev (fun k => toponymref10_Text.f k S) (gText S) := by
  unfold toponymref10_Text.f gText
  refine Ev.bind (show Ev (fun k => toponymref01_Runes.f k S) (rdS S) from rrunes_ev (by omega)) ?_
  rcases rdS_form S with ⟨l, g1, g2, g3, g4⟩ | ⟨l, q, g1, g2, g3, g4, g5⟩
  · rw [g4]
    refine ev_pos rfl ?_
    have := rtext_loop hs [] l g1 (by rw [g2]; rfl)
    refine ev_eq (show Ev _ _ from this) ?_
    rw [if_pos rfl]
    unfold chkV
    simp [enc]
  · rw [g5]
    rw [if_neg (show ¬ (10 : Int) = 0 by omega)]
    exact ev_neg (show ¬ (10 : Int) = 0 by omega) (Ev.now _)
theorem GuardTexts : toponymlaw10_GuardTexts.Pure := by
  intro S K h1 h2 h3 h4
  refine Ev.rounds ?_
  have aw : Ev (fun k => (toponymlaw10_awake.f k).bind fun t => some t) true := Ev.bind (Ev.of toponymlaw10_awake.mono (k := 60) (by decide +kernel)) (Ev.now _)
  have yes : Ev (fun k => toponymlaw10_GuardTexts.j0 k S K true) true := by
    refine Ev.step (fun k => by simp only [toponymlaw10_GuardTexts.j0]; rfl) ?_
    exact ev_pos (by first | rfl | trivial) aw
  unfold toponymlaw10_GuardTexts.f
  refine ev_ite (fun _ => yes) (fun h => ?_)
  by_cases g : (K.length : Int) > 100
  · rw [decide_eq_true g]; exact yes
  rw [decide_eq_false g]
  refine Ev.step (fun k => by simp only [toponymlaw10_GuardTexts.j0]; rfl) ?_
  refine ev_neg (by simp) ?_
  refine Ev.bind (gtext_ev S (by omega)) (Ev.bind (rgtext_ev S (by omega)) (ev_pos rfl (ev_pos rfl ?_)))
  exact Ev.bind (gonly_ev S K (by omega) (by omega)) (Ev.bind (ronly_ev S K (by omega) (by omega)) (ev_pos (by simp) aw))
end Go.Proofs.Ythlejpbdmgcgbaa.Pure
