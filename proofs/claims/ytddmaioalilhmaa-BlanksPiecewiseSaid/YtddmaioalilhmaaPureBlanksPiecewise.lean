import Derived.Test.YtddmaioalilhmaaQSolid
import Derived.Test.YtddmaioalilhmaaQSame
import Derived.Test.YtddmaioalilhmaaP8
import Derived.Test.YtddmaioalilhmaaP12
import Derived.Test.YtddmaioalilhmaaP13
/- BlanksPiecewise: if characters are a beginning, a midst and an end, each with a word, parted by spaces: the value of all begins with the one's piece, ends with the other's, and the midst's stands in it; no condition. -/
namespace Go.Proofs.Ytddmaioalilhmaa.Pure
open Go.RowKit Go.Proofs.Ytddmaioalilhmaa.P Go.Proofs.YtddmaioalilhmaaW.PrintWords Go.Proofs.YtddmaioalilhmaaW.PrintLast
set_option maxRecDepth 100000
set_option linter.unusedVariables false
theorem starts_ev (l p : List Int) (hl : l.length < 900000) (hp : p.length < 900000) : Ev (fun k => toponymlaw11_starts.f k l p) (decide (p.length ≤ l.length ∧ l.take p.length = p)) := by
  unfold toponymlaw11_starts.f
  refine ev_ite (fun h => ?_) (fun h => ev_some ?_)
  · have hle : p.length ≤ l.length := by omega
    refine ev_eq (same_ev (l.take p.length) p (by simp; omega)) ?_
    simp [hle]
  · have : ¬ p.length ≤ l.length := by omega
    simp [this]
theorem starts_yes (p r : List Int) (hl : (p ++ r).length < 900000) : Ev (fun k => toponymlaw11_starts.f k (p ++ r) p) true := by
  simp only [List.length_append] at hl
  refine ev_eq (starts_ev (p ++ r) p (by simp; omega) (by omega)) ?_
  simp
theorem find_loop_b (aw : Ev (fun k => (toponymlaw11_awake.f k).bind fun t => some t) true) (y : List Int) (hy : y.length < 900000) (pre q r : List Int) (hb : pre.length + (q ++ y ++ r).length < 900000) (h0 : 0 < (q ++ y ++ r).length) :
    Ev (fun k => toponymlaw11_BlanksPiecewise.l0 k (pre ++ (q ++ y ++ r)) y (pre.length : Int)) true := by
  induction q generalizing pre with
  | nil =>
    refine Ev.step (fun k => by simp only [toponymlaw11_BlanksPiecewise.l0]; rfl) ?_
    refine ev_pos (by simp at h0 ⊢; omega) (ev_pos (by omega) (ev_pos (by simp; omega) ?_))
    have e : (pre ++ ([] ++ y ++ r)).drop (pre.length : Int).toNat = y ++ r := by simp
    rw [e]
    simp only [List.nil_append] at hb
    exact Ev.bind (starts_yes y r (by omega)) (ev_pos rfl aw)
  | cons a q ih =>
    simp only [List.cons_append, List.length_cons] at hb
    refine Ev.step (fun k => by simp only [toponymlaw11_BlanksPiecewise.l0]; rfl) ?_
    refine ev_pos (by simp; omega) (ev_pos (by omega) (ev_pos (by simp; omega) ?_))
    have e : (pre ++ (a :: q ++ y ++ r)).drop (pre.length : Int).toNat = a :: q ++ y ++ r := by
      rw [Int.toNat_natCast, List.drop_left]
    rw [e]
    refine Ev.bind (starts_ev (a :: q ++ y ++ r) y (by simp at hb ⊢; omega) hy) ?_
    refine ev_ite (fun _ => aw) (fun _ => ?_)
    rw [w64 (by omega) (by omega)]
    by_cases hz : 0 < (q ++ y ++ r).length
    · have := ih (pre ++ [a]) (by simp at hb ⊢; omega) hz
      simpa using this
    · have hz' : q = [] ∧ y = [] ∧ r = [] := by
        have := List.eq_nil_of_length_eq_zero (by omega : (q ++ y ++ r).length = 0)
        simp at this
        exact ⟨this.1, this.2.1, this.2.2⟩
      obtain ⟨rfl, rfl, rfl⟩ := hz'
      rename_i hno
      simp at hno
theorem solid_pos {l : List Int} (h : leftS (S := sp) (mk := mkc) l ≠ []) : wds (tg mkc l) ≠ [] ∧ l ≠ [] := by
  constructor
  · intro e
    rw [← wds_flat, e] at h
    exact h rfl
  · rintro rfl
    exact h rfl
theorem BlanksPiecewise : toponymlaw11_BlanksPiecewise.Pure := by
  intro a b c a1 a2 a3 b1 b2 b3 c1 c2 c3
  refine Ev.rounds ?_
  have aw : Ev (fun k => (toponymlaw11_awake.f k).bind fun t => some t) true := Ev.bind (Ev.of toponymlaw11_awake.mono (k := 100) (by decide +kernel)) (Ev.now _)
  have yes : Ev (fun k => toponymlaw11_BlanksPiecewise.j0 k a b c true) true := by
    refine Ev.step (fun k => by simp only [toponymlaw11_BlanksPiecewise.j0]; rfl) ?_
    exact ev_pos (by first | rfl | trivial) aw
  have yes1 : Ev (fun k => toponymlaw11_BlanksPiecewise.j1 k a b c true) true := by
    refine Ev.step (fun k => by simp only [toponymlaw11_BlanksPiecewise.j1]; rfl) ?_
    exact ev_pos (by first | rfl | trivial) aw
  unfold toponymlaw11_BlanksPiecewise.f
  refine ev_ite (fun _ => yes) (fun ha => ev_ite (fun _ => yes) (fun hb => ev_ite (fun _ => yes) (fun hc => ?_)))
  refine Ev.bind (solid_ev a (by omega)) (ev_ite (fun _ => yes) (fun ga => ?_))
  refine Ev.bind (solid_ev b (by omega)) (ev_ite (fun _ => yes) (fun gb => ?_))
  refine Ev.bind (solid_ev c (by omega)) ?_
  by_cases gc : ((leftS (S := sp) (mk := mkc) c).length : Int) = 0
  · rw [show ((((leftS (S := sp) (mk := mkc) c).length : Int) == 0)) = true from by simp [gc]]
    exact yes
  rw [show ((((leftS (S := sp) (mk := mkc) c).length : Int) == 0)) = false from by simpa using gc]
  refine Ev.step (fun k => by simp only [toponymlaw11_BlanksPiecewise.j0]; rfl) ?_
  refine ev_neg (by simp) ?_
  obtain ⟨wa, na⟩ := solid_pos (l := a) (by rintro e; rw [e] at ga; exact ga rfl)
  obtain ⟨wb, nb⟩ := solid_pos (l := b) (by rintro e; rw [e] at gb; exact gb rfl)
  obtain ⟨wc, nc⟩ := solid_pos (l := c) (by rintro e; rw [e] at gc; exact gc rfl)
  have pa := List.length_pos_iff.2 na
  have pb := List.length_pos_iff.2 nb
  have pc := List.length_pos_iff.2 nc
  have rb : rd b 0 = b.headD 0 ∧ bareL mkc b = !mkc (b.headD 0) := by
    cases b with
    | nil => exact absurd rfl nb
    | cons x t => exact ⟨rd_mid [] x t, rfl⟩
  have rc : rd c 0 = c.headD 0 ∧ bareL mkc c = !mkc (c.headD 0) := by
    cases c with
    | nil => exact absurd rfl nc
    | cons x t => exact ⟨rd_mid [] x t, rfl⟩
  refine ev_pos (by omega) ?_
  rw [rb.1]
  refine Ev.bind (is3_ev _) (ev_ite (fun _ => yes1) (fun mb => ?_))
  refine ev_pos (by omega) ?_
  rw [rc.1]
  refine Ev.bind (is3_ev _) ?_
  cases mc : mkc (c.headD 0) with
  | true => exact yes1
  | false =>
  have bb : bareL mkc b = true := by rw [rb.2]; simpa using mb
  have bc : bareL mkc c = true := by rw [rc.2, mc]; rfl
  refine Ev.step (fun k => by simp only [toponymlaw11_BlanksPiecewise.j1]; rfl) ?_
  refine ev_neg (by simp) (ev_bind0 rfl (ev_pos (by simp; omega) (ev_bind0 rfl (ev_pos (by simp; omega) (ev_bind0 rfl (ev_pos (by simp; omega) (ev_bind0 rfl (ev_pos (by simp; omega) (ev_bind0 rfl (ev_pos (by simp; omega) ?_))))))))))
  have eall : ([] ++ a ++ [32] ++ b ++ [32] ++ c : List Int) = a ++ 32 :: (b ++ 32 :: c) := by simp
  rw [eall]
  have el : (a ++ 32 :: (b ++ 32 :: c)).length = a.length + b.length + c.length + 2 := by simp; omega
  -- the value's words
  have hfirm : vFirm (a ++ 32 :: (b ++ 32 :: c)) = vFirm a ++ 32 :: (b ++ 32 :: c) := by
    unfold vFirm
    rw [bareL_app a _ (bare32 _)]
    split <;> simp
  have ew : wds (tg mkc (vFirm (a ++ 32 :: (b ++ 32 :: c)))) = wds (tg mkc (vFirm a)) ++ (wds (tg mkc b) ++ wds (tg mkc c)) := by
    have e1 : bareL mkc (b ++ 32 :: c) = true := by rw [bareL_app b _ (bare32 _)]; exact bb
    rw [hfirm, show tg mkc (vFirm a ++ 32 :: (b ++ 32 :: c)) = tg mkc (vFirm a) ++ tg mkc (32 :: (b ++ 32 :: c)) from tgS_app _ _ (bare32 _), tg32 _ e1,
      show tg mkc (b ++ 32 :: c) = tg mkc b ++ tg mkc (32 :: c) from tgS_app _ _ (bare32 _), tg32 _ bc, wds_app_sp, wds_app_sp]
  have wA : wds (tg mkc (vFirm a)) ≠ [] := by
    have h1 : leftS (S := sp) (mk := mkc) (vFirm a) ≠ [] := by
      rw [leftS_firm]
      split
      · intro e; rw [e] at ga; exact ga rfl
      · simp
    exact (solid_pos h1).1
  have sA := join2_size (vFirm a)
  have sB := join2_size b
  have sC := join2_size c
  have fa := vFirm_length a
  have vl := vVal_length (a ++ 32 :: (b ++ 32 :: c))
  have xl := vPiece_length 1 a
  have yl := vPiece_length 2 b
  have zl := vPiece_length 3 c
  generalize hA : wds (tg mkc (vFirm a)) = A at ew wA
  generalize hB : wds (tg mkc b) = B at ew wb
  generalize hC : wds (tg mkc c) = C at ew wc
  have ev : vVal (a ++ 32 :: (b ++ 32 :: c)) = 32 :: (join2 A ++ 32 :: 32 :: (join2 B ++ 32 :: 32 :: (join2 C ++ [32]))) := by
    unfold vVal
    rw [ew, join2_app A _ wA, tails_app, tails_join B wb, tails_join C wc]
    simp
  have ex : ∃ r, 32 :: (join2 A ++ 32 :: 32 :: (join2 B ++ 32 :: 32 :: (join2 C ++ [32]))) = vPiece 1 a ++ r := by
    have e : vPiece 1 a = pieceB (vFirm a) true (atS sp (vFirm a) ((vFirm a).length - 1)) := by unfold vPiece; simp
    rw [e, piece_some _ _ _ (by rw [hA]; exact wA), hA]
    cases atS sp (vFirm a) ((vFirm a).length - 1)
    · exact ⟨32 :: 32 :: (join2 B ++ 32 :: 32 :: (join2 C ++ [32])), by simp [vEdge]⟩
    · exact ⟨32 :: (join2 B ++ 32 :: 32 :: (join2 C ++ [32])), by simp [vEdge]⟩
  have ez : ∃ q, 32 :: (join2 A ++ 32 :: 32 :: (join2 B ++ 32 :: 32 :: (join2 C ++ [32]))) = q ++ vPiece 3 c := by
    have e : vPiece 3 c = pieceB c (atS sp c 0) true := by unfold vPiece; simp
    rw [e, piece_some _ _ _ (by rw [hC]; exact wc), hC]
    cases atS sp c 0
    · exact ⟨32 :: (join2 A ++ 32 :: 32 :: (join2 B ++ [32, 32])), by simp [vEdge]⟩
    · exact ⟨32 :: (join2 A ++ 32 :: 32 :: (join2 B ++ [32])), by simp [vEdge]⟩
  have ey : ∃ q r, 32 :: (join2 A ++ 32 :: 32 :: (join2 B ++ 32 :: 32 :: (join2 C ++ [32]))) = q ++ vPiece 2 b ++ r := by
    have e : vPiece 2 b = pieceB b (atS sp b 0) (atS sp b (b.length - 1)) := by unfold vPiece; simp
    rw [e, piece_some _ _ _ (by rw [hB]; exact wb), hB]
    cases atS sp b 0 <;> cases atS sp b (b.length - 1)
    · exact ⟨32 :: (join2 A ++ [32, 32]), 32 :: 32 :: (join2 C ++ [32]), by simp [vEdge]⟩
    · exact ⟨32 :: (join2 A ++ [32, 32]), 32 :: (join2 C ++ [32]), by simp [vEdge]⟩
    · exact ⟨32 :: (join2 A ++ [32]), 32 :: 32 :: (join2 C ++ [32]), by simp [vEdge]⟩
    · exact ⟨32 :: (join2 A ++ [32]), 32 :: (join2 C ++ [32]), by simp [vEdge]⟩
  rw [← ev] at ex ez ey
  refine Ev.bind (value_ev _ (by omega)) (Ev.bind (piece_ev 1 a (by omega)) (Ev.bind (piece_ev 2 b (by omega)) (Ev.bind (piece_ev 3 c (by omega)) ?_)))
  obtain ⟨r, hr⟩ := ex
  have h1 : Ev (fun k => toponymlaw11_starts.f k (vVal (a ++ 32 :: (b ++ 32 :: c))) (vPiece 1 a)) true := by
    rw [hr]
    exact starts_yes _ _ (by rw [← hr]; omega)
  refine Ev.bind h1 (ev_pos rfl ?_)
  obtain ⟨q, hq⟩ := ez
  have hql := congrArg List.length hq
  simp only [List.length_append] at hql
  refine ev_neg (by omega) ?_
  rw [w64 (by omega) (by omega)]
  refine ev_pos (by omega) (ev_pos (by omega) ?_)
  have hd : (vVal (a ++ 32 :: (b ++ 32 :: c))).drop (((vVal (a ++ 32 :: (b ++ 32 :: c))).length : Int) - (vPiece 3 c).length).toNat = vPiece 3 c := by
    rw [show (((vVal (a ++ 32 :: (b ++ 32 :: c))).length : Int) - (vPiece 3 c).length).toNat = q.length from by omega]
    conv => lhs; rw [hq]
    rw [List.drop_left]
  rw [hd]
  refine Ev.bind (same_ev _ _ (by omega)) ?_
  simp only [decide_true, Bool.not_true]
  refine Ev.step (fun k => by simp only [toponymlaw11_BlanksPiecewise.j2]; rfl) ?_
  refine ev_neg (by simp) ?_
  obtain ⟨q2, r2, hy⟩ := ey
  rw [hy]
  have hyl := congrArg List.length hy
  refine find_loop_b aw (vPiece 2 b) (by omega) [] q2 r2 (by simp only [List.length_nil]; omega) ?_
  rw [← hy, show vVal (a ++ 32 :: (b ++ 32 :: c)) = 32 :: (join2 (wds (tg mkc (vFirm (a ++ 32 :: (b ++ 32 :: c))))) ++ [32]) from rfl]
  simp
end Go.Proofs.Ytddmaioalilhmaa.Pure
