import Derived.Test.YtddmaioalilhmaaQSolid
import Derived.Test.YtddmaioalilhmaaQSame
import Derived.Test.YtddmaioalilhmaaP8
import Derived.Test.YtddmaioalilhmaaP16
/- BlanksKeep: all that is no space stays, in its order (a space comes ahead of a mark that stands first); one space more where there is one changes nothing in a value; no condition. -/
namespace Go.Proofs.Ytddmaioalilhmaa.Pure
open Go.RowKit Go.Proofs.Ytddmaioalilhmaa.P Go.Proofs.YtddmaioalilhmaaW.PrintWords Go.Proofs.YtddmaioalilhmaaW.PrintLast
set_option maxRecDepth 100000
theorem BlanksKeep : toponymlaw11_BlanksKeep.Pure := by
  intro l i h1 h2 h3 h4
  refine Ev.rounds ?_
  unfold toponymlaw11_BlanksKeep.f
  have aw : Ev (fun k => (toponymlaw11_awake.f k).bind fun t => some t) true := Ev.bind (Ev.of toponymlaw11_awake.mono (k := 100) (by decide +kernel)) (Ev.now _)
  refine ev_ite (fun _ => aw) (fun h => ?_)
  have e1 := vVal_length l
  have e3 := leftS_length (S := sp) (mk := mkc) l
  have e4 := leftS_length (S := sp) (mk := mkc) (vVal l)
  refine Ev.bind (value_ev l (by omega)) (Ev.bind (solid_ev l (by omega)) ?_)
  have fin : ∀ keeps, keeps = leftS (S := sp) (mk := mkc) (vFirm l) → Ev (fun k => toponymlaw11_BlanksKeep.j1 k l i (vVal l) keeps) true := by
    intro keeps hk
    refine Ev.step (fun k => by simp only [toponymlaw11_BlanksKeep.j1]; rfl) ?_
    refine Ev.bind (solid_ev _ (by omega)) (Ev.bind (same_ev _ _ (by omega)) (ev_pos (by rw [hk, leftS_value]; simp) ?_))
    refine Ev.bind (numeric_ev l (by omega)) (Ev.bind (solid_ev l (by omega)) (Ev.bind (same_ev _ _ (by omega)) ?_))
    refine Ev.step (fun k => by simp only [toponymlaw11_BlanksKeep.j2]; rfl) ?_
    refine ev_neg (by simp) ?_
    refine Ev.bind (space_ev l i (by omega)) ?_
    refine ev_ite (fun g => ?_) (fun g => aw)
    have hi : 0 ≤ i ∧ i < (l.length : Int) := by
      unfold atS at g
      split at g
      · assumption
      · cases g
    obtain ⟨pre, es, hp⟩ := split_at l i hi.1 hi.2
    unfold atS at g
    rw [if_pos hi] at g
    simp only [Bool.and_eq_true, sp, decide_eq_true_eq] at g
    rw [g.1] at es
    have hl := congrArg List.length es
    simp only [List.length_append, List.length_cons] at hl
    have et : l.take i.toNat = pre := by
      rw [es, show i.toNat = pre.length from by omega, List.take_left]
    have ed : l.drop i.toNat = 32 :: l.drop (i.toNat + 1) := by
      conv => lhs; rw [es]
      rw [show i.toNat = pre.length from by omega, List.drop_left]
    refine ev_bind0 rfl (ev_pos hi.1 (ev_pos (by omega) ?_))
    rw [et, ed]
    refine ev_pos (by simp; omega) (ev_bind0 rfl (ev_bind0 rfl (ev_pos (by simp; omega) (ev_bind0 rfl (ev_pos (by simp; omega) ?_)))))
    have em : ([] ++ pre ++ [32] ++ 32 :: l.drop (i.toNat + 1)) = pre ++ 32 :: 32 :: l.drop (i.toNat + 1) := by simp
    rw [em]
    have e5 := vVal_length (pre ++ 32 :: 32 :: l.drop (i.toNat + 1))
    simp only [List.length_append, List.length_cons] at e5
    refine Ev.bind (value_ev _ (by simp; omega)) (Ev.bind (same_ev _ _ (by omega)) (ev_pos ?_ aw))
    rw [vVal_more _ _ g.2, ← es]
    simp
  have hfirm := leftS_firm l
  cases l with
  | nil =>
    refine ev_neg (by simp) ?_
    refine Ev.step (fun k => by simp only [toponymlaw11_BlanksKeep.j0]; rfl) ?_
    exact ev_neg (by simp) (fin _ hfirm.symm)
  | cons a t =>
    simp only [List.length_cons] at e3 h
    refine ev_pos (by simp <;> omega) (ev_pos (by simp <;> omega) ?_)
    have e : rd (a :: t) 0 = a := rd_mid [] a t
    rw [e]
    refine Ev.bind (is3_ev a) ?_
    refine Ev.step (fun k => by simp only [toponymlaw11_BlanksKeep.j0]; rfl) ?_
    refine ev_ite (fun g => ?_) (fun g => ?_)
    · refine ev_bind0 rfl (ev_pos (by simp; omega) (fin _ ?_))
      rw [hfirm, if_neg (by simp [bareL, g])]
      rfl
    · refine fin _ ?_
      rw [hfirm, if_pos (by simp [bareL, g])]
end Go.Proofs.Ytddmaioalilhmaa.Pure
