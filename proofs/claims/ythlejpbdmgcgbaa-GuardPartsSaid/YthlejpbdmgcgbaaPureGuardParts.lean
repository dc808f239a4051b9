import Derived.Test.YthlejpbdmgcgbaaQGuardText
import Derived.Test.YthlejpbdmgcgbaaP8
import Derived.Test.YthlejpbdmgcgbaaP14
/- GuardParts: texts one behind the other are fit just if each is, up to the first that is not; no condition. -/
namespace Go.Proofs.Ythlejpbdmgcgbaa.Pure
open Go.RowKit Go.Proofs.Ythlejpbdmgcgbaa.P Go.Proofs.YthlejpbdmgcgbaaW.PrintWords Go.Proofs.YthlejpbdmgcgbaaW.PrintLast
open Utf
set_option maxRecDepth 100000
set_option linter.unusedVariables false
set_option linter.unusedSimpArgs false
theorem rdS_enc {S : ByteArray} {l : List Int} (h : ∀ r ∈ l, pt r) (e : ints S = enc l) : rdS S = (l, (S.size : Int), 0) := by
  have h1 := congrArg List.length e
  rw [ints_length] at h1
  unfold rdS
  rw [e, runes_enc h S.size 0 [] (by omega)]
  simp
  omega
theorem enc_app (l m : List Int) : enc (l ++ m) = enc l ++ enc m := by simp [enc]
theorem fitN_app (l m : List Int) : fitN (l ++ m) = if fitN l = l.length then l.length + fitN m else fitN l := by
  induction l with
  | nil => simp [fitN]
  | cons a t ih =>
    cases h : fitK a with
    | true =>
      rw [List.cons_append, fitN_yes _ h, fitN_yes _ h, ih, List.length_cons]
      by_cases g : fitN t = t.length
      · rw [if_pos g, if_pos (by omega)]; omega
      · rw [if_neg g, if_neg (by omega)]
    | false =>
      rw [List.cons_append, fitN_no _ h, fitN_no _ h, List.length_cons, if_neg (by omega)]
theorem gText_of {S : ByteArray} {l : List Int} (h : ∀ r ∈ l, pt r) (e : ints S = enc l) : gText S = (((enc (l.take (fitN l))).length : Int), if fitN l < l.length then 30 else 0) := by
  unfold gText
  rw [rdS_enc h e]
  rfl
theorem GuardParts : toponymlaw10_GuardParts.Pure := by
  intro S T h1 h2
  refine Ev.rounds ?_
  have aw : Ev (fun k => (toponymlaw10_awake.f k).bind fun t => some t) true := Ev.bind (Ev.of toponymlaw10_awake.mono (k := 60) (by decide +kernel)) (Ev.now _)
  have yes : Ev (fun k => toponymlaw10_GuardParts.j0 k S T true) true := by
    refine Ev.step (fun k => by simp only [toponymlaw10_GuardParts.j0]; rfl) ?_
    exact ev_pos (by first | rfl | trivial) aw
  unfold toponymlaw10_GuardParts.f
  refine ev_ite (fun _ => yes) (fun h => ?_)
  by_cases g : (T.size : Int) > 5000
  · rw [decide_eq_true g]; exact yes
  rw [decide_eq_false g]
  refine Ev.step (fun k => by simp only [toponymlaw10_GuardParts.j0]; rfl) ?_
  refine ev_neg (by simp) ?_
  have hsz : (S ++ T).size = S.size + T.size := by
    have := congrArg List.length (ints_append S T)
    rw [List.length_append, ints_length, ints_length, ints_length] at this
    exact this
  refine Ev.bind (gtext_ev S (by omega)) (Ev.bind (gtext_ev T (by omega)) (ev_pos (by omega) (Ev.bind (gtext_ev (S ++ T) (by omega)) ?_)))
  have out : ∀ a b c d e f : Int, Ev (fun k => toponymlaw10_GuardParts.j1 k S a b c d e f true) true := by
    intro a b c d e f
    refine Ev.step (fun k => by simp only [toponymlaw10_GuardParts.j1]; rfl) ?_
    exact ev_pos (by first | rfl | trivial) aw
  refine ev_ite (fun _ => out _ _ _ _ _ _) (fun e1 => ?_)
  by_cases e2 : (gText T).2 = 10
  · rw [show ((gText T).2 == 10) = true from by rw [e2]; rfl]
    exact out _ _ _ _ _ _
  rw [beq_eq_false_iff_ne.2 e2]
  rcases rdS_form S with ⟨l, g1, g2, g3, g4⟩ | ⟨l, q, g1, g2, g3, g4, g5⟩
  · rcases rdS_form T with ⟨m, k1, k2, k3, k4⟩ | ⟨m, q, k1, k2, k3, k4, k5⟩
    · have hlm : ∀ r ∈ l ++ m, pt r := fun r hr => by
        rcases List.mem_append.1 hr with hr | hr
        · exact g1 r hr
        · exact k1 r hr
      have eS := gText_of g1 g2
      have eT := gText_of k1 k2
      have eST := gText_of hlm (show ints (S ++ T) = enc (l ++ m) by rw [ints_append, g2, k2, enc_app])
      have fl := fitN_le l
      have fm := fitN_le m
      have lS := congrArg List.length g2
      rw [ints_length] at lS
      refine Ev.step (fun k => by simp only [toponymlaw10_GuardParts.j1]; rfl) ?_
      refine ev_neg (by simp) ?_
      rw [fitN_app] at eST
      by_cases c : fitN l = l.length
      · rw [if_pos c] at eST
        rw [if_neg (by omega), c, List.take_length] at eS
        rw [List.take_append, List.take_of_length_le (by omega), Nat.add_sub_cancel_left, enc_app, List.length_append, List.length_append] at eST
        have lT := (congrArg List.length k2)
        rw [ints_length] at lT
        have hle : (enc (m.take (fitN m))).length ≤ 4 * m.length := by
          have := enc_len4 (m.take (fitN m))
          rw [List.length_take] at this
          omega
        refine ev_pos (by rw [eS]) (ev_pos (by rw [eS]; simp only; omega) (ev_pos ?_ (ev_pos ?_ aw)))
        · rw [eST, eS, eT]
          simp only
          rw [w64 (by omega) (by omega)]
          omega
        · rw [eST, eT]
          simp only
          by_cases d : fitN m < m.length
          · rw [if_pos d, if_pos (by omega)]
          · rw [if_neg d, if_neg (by omega)]
      · rw [if_neg c] at eST
        rw [if_pos (show fitN l < l.length by omega)] at eS
        rw [List.length_append, if_pos (show fitN l < l.length + m.length by omega), List.take_append_of_le_length fl] at eST
        refine ev_neg (by rw [eS]; simp) (ev_pos (by rw [eST, eS]) (ev_pos (by rw [eST, eS]) aw))
    · exact absurd (by unfold gText; rw [k5]; rfl) e2
  · exact absurd (by unfold gText; rw [g5]; rfl) e1
end Go.Proofs.Ythlejpbdmgcgbaa.Pure
