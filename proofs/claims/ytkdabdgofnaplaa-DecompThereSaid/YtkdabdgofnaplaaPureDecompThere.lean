import Derived.Test.YtkdabdgofnaplaaQApart
import Derived.Test.YtkdabdgofnaplaaQChars
import Derived.Test.YtkdabdgofnaplaaP8
import Derived.Test.YtkdabdgofnaplaaP12
/- DecompThere: what a character is made of are characters, from one to four; what is no character is made of itself; no condition. -/
namespace Go.Proofs.Ytkdabdgofnaplaa.Pure
open Go.RowKit Go.Proofs.Ytkdabdgofnaplaa.P Go.Proofs.YtkdabdgofnaplaaW.PrintWords Go.Proofs.YtkdabdgofnaplaaW.PrintLast
set_option maxRecDepth 100000
def noC (x : Int) : Bool := decide (cKind x ∈ [0, 7])
def chkT (r : Int) : Bool := if noC r then decide (dOne true r = [r]) else (dOne true r).all (fun x => !noC x) && decide (1 ≤ (dOne true r).length)
theorem chkT_list : dLIST.all chkT = true := by decide +kernel
theorem letter_no {x : Int} (h : inR cLET x = true) : noC x = false := by
  unfold noC cKind
  rw [if_pos h]
  decide
theorem chkT_all (r : Int) : chkT r = true := by
  by_cases c : 44032 ≤ r ∧ r ≤ 55203
  · have l1 : inR cLET r = true := by
      simp only [inR, cLET, List.any_cons, List.any_nil, Bool.or_eq_true, Bool.and_eq_true, decide_eq_true_eq, Bool.false_eq_true, or_false]
      omega
    have k : ∀ x : Int, (4352 ≤ x ∧ x ≤ 4370) ∨ (4449 ≤ x ∧ x ≤ 4469) ∨ (4520 ≤ x ∧ x ≤ 4546) → noC x = false := fun x h => letter_no (by
      simp only [inR, cLET, List.any_cons, List.any_nil, Bool.or_eq_true, Bool.and_eq_true, decide_eq_true_eq, Bool.false_eq_true, or_false]
      omega)
    unfold chkT
    rw [letter_no l1]
    have e : dOne true r = hParts r := by unfold dOne; rw [if_pos c]
    have a := k (4352 + (r - 44032) / 28 / 21) (by omega)
    have b := k (4449 + (r - 44032) / 28 % 21) (by omega)
    rw [e]
    unfold hParts
    by_cases d : (r - 44032) % 28 = 0
    · rw [if_pos d]; simp [a, b]
    · have t := k (4519 + (r - 44032) % 28) (by omega)
      rw [if_neg d]; simp [a, b, t]
  by_cases d : inR dR r = true
  · exact List.all_eq_true.1 chkT_list r (mem_dLIST d)
  · have e : dOne true r = [r] := by unfold dOne; rw [if_neg c, if_neg d]
    unfold chkT
    rw [e]
    cases h : noC r <;> simp [h]
theorem there_loop (aw : Ev (fun k => (toponymlaw05_awake.f k).bind fun t => some t) true) (pre suf : List Int) (hs : ∀ x ∈ suf, noC x = false) (hb : pre.length + suf.length < 1000000) :
    Ev (fun k => toponymlaw05_DecompThere.l0 k (pre ++ suf) (pre.length : Int)) true := by
  induction suf generalizing pre with
  | nil =>
    refine Ev.step (fun k => by simp only [toponymlaw05_DecompThere.l0]; rfl) ?_
    exact ev_neg (by simp) aw
  | cons a t ih =>
    refine Ev.step (fun k => by simp only [toponymlaw05_DecompThere.l0]; rfl) ?_
    refine ev_pos (mid_lt pre a t) (ev_pos (by omega) ?_)
    rw [rd_mid]
    simp only [List.length_cons] at hb
    refine Ev.bind (is_ev a [0, 7] (by simp)) (ev_neg (by have := hs a (by simp); unfold noC at this; simpa using this) ?_)
    rw [w64 (by omega) (by omega), mid_snoc pre, ← len_snoc pre a]
    exact ih (pre ++ [a]) (fun x hx => hs x (by simp [hx])) (by simp; omega)
theorem DecompThere : toponymlaw05_DecompThere.Pure := by
  intro r h
  refine Ev.rounds ?_
  unfold toponymlaw05_DecompThere.f
  have aw : Ev (fun k => (toponymlaw05_awake.f k).bind fun t => some t) true := Ev.bind (Ev.of toponymlaw05_awake.mono (k := 60) (by decide +kernel)) (Ev.now _)
  have hl := dOne_length true r
  have hc := chkT_all r
  unfold chkT at hc
  refine Ev.bind (dec_one_ev r true) ?_
  cases hn : noC r
  · rw [hn] at hc
    simp only [Bool.false_eq_true, if_false, Bool.and_eq_true, decide_eq_true_eq, List.all_eq_true] at hc
    refine ev_neg (by omega) ?_
    rw [show decide (((dOne true r).length : Int) > 4) = false from by simp; omega]
    refine Ev.step (fun k => by simp only [toponymlaw05_DecompThere.j0]; rfl) ?_
    refine ev_neg (by simp) ?_
    refine Ev.bind (is_ev r [0, 7] (by simp)) (ev_neg (by unfold noC at hn; simpa using hn) ?_)
    exact there_loop aw [] (dOne true r) (fun x hx => by simpa using hc.1 x hx) (by simp only [List.length_nil]; omega)
  · rw [hn] at hc
    simp only [if_true, decide_eq_true_eq] at hc
    rw [hc]
    refine ev_neg (by simp) ?_
    refine Ev.step (fun k => by simp only [toponymlaw05_DecompThere.j0]; rfl) ?_
    refine ev_neg (by simp) ?_
    refine Ev.bind (is_ev r [0, 7] (by simp)) (ev_pos hn ?_)
    exact ev_pos (by simp) (ev_pos (by simp) (ev_pos (by simp [rd]) aw))
end Go.Proofs.Ytkdabdgofnaplaa.Pure
