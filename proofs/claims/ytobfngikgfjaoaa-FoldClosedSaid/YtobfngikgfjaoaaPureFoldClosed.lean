import Derived.Test.YtobfngikgfjaoaaQFoldMap
import Derived.Test.YtobfngikgfjaoaaQDecomp
import Derived.Test.YtobfngikgfjaoaaR7
import Derived.Test.YtobfngikgfjaoaaR11
/- FoldClosed: what a number of 32 bits is folded to is folded, and so is what that is made of; no condition. -/
namespace Go.Proofs.Ytobfngikgfjaoaa.Pure
open Go.RowKit Go.Proofs.Ytobfngikgfjaoaa.P Go.Proofs.YtobfngikgfjaoaaW.PrintWords Go.Proofs.YtobfngikgfjaoaaW.PrintLast
set_option maxRecDepth 100000
def Fo (x : Int) : Bool := decide (fUp x = 0) && decide (fMore x = [])
theorem fFolded_def (l : List Int) : fFolded l = l.all Fo := rfl
theorem fo_gap {r : Int} (h : r < 65 ∨ (1072 ≤ r ∧ r < 8486) ∨ (8556 ≤ r ∧ r < 64256) ∨ (64262 ≤ r ∧ r < 65313) ∨ 65339 ≤ r) : Fo r = true := by
  have e1 : fMore r = [] := by
    unfold fMore
    repeat rw [if_neg (by omega)]
  have e2 : fUp r = 0 := by
    unfold fUp
    repeat rw [if_neg (by omega)]
  simp [Fo, e1, e2]
theorem fOne_fo {r : Int} (h0 : -2147483648 ≤ r) (h1 : r ≤ 2147483647) : ((fOne r).all Fo && decide (1 ≤ (fOne r).length)) = true := by
  revert h0 h1
  refine by_ranges (p := fun r => -2147483648 ≤ r → r ≤ 2147483647 → ((fOne r).all Fo && decide (1 ≤ (fOne r).length)) = true) (fun r h h0 h1 => ?_) ?_ ?_ ?_ ?_ r
  · rw [fOne_gap h0 h1 h]
    simp [fo_gap h]
  · have : ∀ n : Fin 1072, ((fOne ((n.val : Nat) : Int)).all Fo && decide (1 ≤ (fOne ((n.val : Nat) : Int)).length)) = true := by decide +kernel
    exact fun n _ _ => this n
  · have : ∀ n : Fin 70, ((fOne ((n.val + 8486 : Nat) : Int)).all Fo && decide (1 ≤ (fOne ((n.val + 8486 : Nat) : Int)).length)) = true := by decide +kernel
    exact fun n _ _ => this n
  · have : ∀ n : Fin 6, ((fOne ((n.val + 64256 : Nat) : Int)).all Fo && decide (1 ≤ (fOne ((n.val + 64256 : Nat) : Int)).length)) = true := by decide +kernel
    exact fun n _ _ => this n
  · have : ∀ n : Fin 26, ((fOne ((n.val + 65313 : Nat) : Int)).all Fo && decide (1 ≤ (fOne ((n.val + 65313 : Nat) : Int)).length)) = true := by decide +kernel
    exact fun n _ _ => this n
theorem dOne_fo_chk : dLIST.all (fun r => !Fo r || ((decomp_One.f 60 r true).getD []).all Fo) = true := by decide +kernel
theorem dStep_fo {x : Int} (h : Fo x = true) : (dStep true x).all Fo = true := by
  have h1 : ([x] : List Int).all Fo = true := by simp [h]
  unfold dStep
  split
  · exact h1
  split
  · exact h1
  unfold dOne
  by_cases c : 44032 ≤ x ∧ x ≤ 55203
  · rw [if_pos c]
    have a : Fo (4352 + (x - 44032) / 28 / 21) = true := fo_gap (by omega)
    have b : Fo (4449 + (x - 44032) / 28 % 21) = true := fo_gap (by omega)
    have d : Fo (4519 + (x - 44032) % 28) = true := fo_gap (by omega)
    unfold hParts
    split <;> simp [a, b, d]
  rw [if_neg c]
  by_cases d : inR dR x = true
  · rw [if_pos d]
    have := List.all_eq_true.1 dOne_fo_chk x (mem_dLIST d)
    rw [h] at this
    simpa using this
  · rw [if_neg d]
    exact h1
theorem dAll_fo {l : List Int} (h : l.all Fo = true) : (dAll true l).all Fo = true := by
  rw [List.all_eq_true] at h ⊢
  intro x hx
  obtain ⟨r, hr, hx⟩ := List.mem_flatMap.1 hx
  exact List.all_eq_true.1 (dStep_fo (h r hr)) x hx
theorem dAll_length (b : Bool) (l : List Int) : (dAll b l).length ≤ 4 * l.length := by
  induction l with
  | nil => simp [dAll]
  | cons a t ih =>
    have := dStep_length b a
    rw [dAll_cons]
    simp only [List.length_append, List.length_cons]
    omega
theorem FoldClosed : toponymlaw09_FoldClosed.Pure := by
  intro r h
  obtain ⟨h0, h1⟩ := wf32 h
  refine Ev.rounds ?_
  unfold toponymlaw09_FoldClosed.f
  have aw : Ev (fun k => (toponymlaw09_awake.f k).bind fun t => some t) true := Ev.bind (Ev.of toponymlaw09_awake.mono (k := 30) (by decide +kernel)) (Ev.now _)
  have hl := fOne_length r
  have hd := dAll_length true (fOne r)
  have ho := fOne_fo h0 h1
  simp only [Bool.and_eq_true, decide_eq_true_eq] at ho
  have hs := fOne_self h0 h1
  refine Ev.bind (one_ev r) (Ev.bind (dec_all_ev true _ (by omega)) ?_)
  refine ev_pos (by omega) (ev_pos (by omega) ?_)
  refine Ev.bind (folded_ev _ (by omega)) (ev_pos ho.1 ?_)
  refine Ev.bind (folded_ev _ (by omega)) (ev_pos (dAll_fo ho.1) ?_)
  refine Ev.bind (folded_ev _ (by simp)) ?_
  have e : fFolded [r] = decide (fOne r = [r]) := by
    rw [Bool.eq_iff_iff]
    simp [fFolded, hs]
  rw [e]
  refine ev_ite (fun g => ?_) (fun g => ?_)
  · refine ev_pos (by omega) (ev_pos ?_ aw)
    obtain ⟨y, hy⟩ := List.length_eq_one_iff.1 (show (fOne r).length = 1 by omega)
    rw [hy]
    by_cases c : y = r <;> simp [rd, c]
  · refine ev_pos ?_ aw
    have : ¬ fOne r = [r] := fun x => g (by rw [x]; rfl)
    simp [this]
end Go.Proofs.Ytobfngikgfjaoaa.Pure
