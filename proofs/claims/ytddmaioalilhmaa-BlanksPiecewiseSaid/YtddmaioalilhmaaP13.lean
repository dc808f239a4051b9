-- Printed by wip/mk.py (this session's driver over the kit's print) and from wip/manual.
import Derived.Test.YtddmaioalilhmaaP0
import Derived.Test.YtddmaioalilhmaaP1
import Derived.Test.YtddmaioalilhmaaP6
import Derived.Test.YtddmaioalilhmaaP7
import Derived.Test.YtddmaioalilhmaaP8
import Derived.Test.YtddmaioalilhmaaP12
namespace Go.Proofs.Ytddmaioalilhmaa.P
open Go.RowKit Go.Proofs.YtddmaioalilhmaaW.PrintWords Go.Proofs.YtddmaioalilhmaaW.PrintLast Go.Proofs.YtddmaioalilhmaaW.PrintMore
attribute [local go_sem] max2_int min2_int max_two min_two max_three min_three max_four min_four   -- for this text's walks alone
set_option linter.unusedVariables false
set_option linter.unusedSimpArgs false

/-! ### toponymlaw11_BlanksPiecewise: function 4 -/
mutual
def toponymlaw11_BlanksPiecewise.j0 : Nat → List Int → List Int → List Int → Bool → Option (Bool)
  | 0, _, _, _, _ => none
  | k + 1, x0, x1, x2, x43 => if x43 = true then ((toponymlaw11_awake.f k).bind fun t400 => (some t400)) else (if 0 < (x1.length : Int) then ((chars_Is.f k (rd x1 0) (([3] : List Int))).bind fun t405 => (if t405 = true then (toponymlaw11_BlanksPiecewise.j1 k x0 x1 x2 true) else (if 0 < (x2.length : Int) then ((chars_Is.f k (rd x2 0) (([3] : List Int))).bind fun t410 => (toponymlaw11_BlanksPiecewise.j1 k x0 x1 x2 t410)) else (none)))) else (none))
def toponymlaw11_BlanksPiecewise.j1 : Nat → List Int → List Int → List Int → Bool → Option (Bool)
  | 0, _, _, _, _ => none
  | k + 1, x0, x1, x2, x56 => if x56 = true then ((toponymlaw11_awake.f k).bind fun t411 => (some t411)) else ((some (([] : List Int) : List Int)).bind fun y412 => (if y412.length + x0.length < 35184372088832 then ((some (y412 ++ x0 : List Int)).bind fun y415 => (if y415.length < 35184372088832 then ((some (y415 ++ [32] : List Int)).bind fun y418 => (if y418.length + x1.length < 35184372088832 then ((some (y418 ++ x1 : List Int)).bind fun y421 => (if y421.length < 35184372088832 then ((some (y421 ++ [32] : List Int)).bind fun y424 => (if y424.length + x2.length < 35184372088832 then ((blanks_Value.f k (y424 ++ x2)).bind fun t430 => ((blanks_Piece.f k 1 x0).bind fun t433 => ((blanks_Piece.f k 2 x1).bind fun t436 => ((blanks_Piece.f k 3 x2).bind fun t439 => ((toponymlaw11_starts.f k t430 t433).bind fun t442 => (if t442 = true then (if (t439.length : Int) > (t430.length : Int) then (toponymlaw11_BlanksPiecewise.j2 k t430 t436 true) else (if 0 ≤ (wrap64 ((t430.length : Int) - (t439.length : Int))) then (if (wrap64 ((t430.length : Int) - (t439.length : Int))) ≤ (t430.length : Int) then ((toponymref01_Same.f k (t430.drop ((wrap64 ((t430.length : Int) - (t439.length : Int))) : Int).toNat) t439).bind fun t447 => (toponymlaw11_BlanksPiecewise.j2 k t430 t436 (!t447))) else (none)) else (none))) else (toponymlaw11_BlanksPiecewise.j2 k t430 t436 true))))))) else (none))) else (none))) else (none))) else (none))) else (none)))
def toponymlaw11_BlanksPiecewise.j2 : Nat → List Int → List Int → Bool → Option (Bool)
  | 0, _, _, _ => none
  | k + 1, x8, x10, x99 => if x99 = true then (some false) else (toponymlaw11_BlanksPiecewise.l0 k x8 x10 0)
def toponymlaw11_BlanksPiecewise.l0 : Nat → List Int → List Int → Int → Option (Bool)
  | 0, _, _, _ => none
  | k + 1, x8, x10, x12 => if x12 < (x8.length : Int) then (if 0 ≤ x12 then (if x12 ≤ (x8.length : Int) then ((toponymlaw11_starts.f k (x8.drop (x12 : Int).toNat) x10).bind fun t452 => (if t452 = true then ((toponymlaw11_awake.f k).bind fun t453 => (some t453)) else (toponymlaw11_BlanksPiecewise.l0 k x8 x10 (wrap64 (x12 + 1))))) else (none)) else (none)) else (some false)
end
def toponymlaw11_BlanksPiecewise.f (k : Nat) (l0 : List Int) (l1 : List Int) (l2 : List Int) : Option (Bool) := if (l0.length : Int) > 300 then (toponymlaw11_BlanksPiecewise.j0 k l0 l1 l2 true) else (if (l1.length : Int) > 300 then (toponymlaw11_BlanksPiecewise.j0 k l0 l1 l2 true) else (if (l2.length : Int) > 300 then (toponymlaw11_BlanksPiecewise.j0 k l0 l1 l2 true) else ((toponymlaw11_solid.f k l0).bind fun t391 => (if (t391.length : Int) = 0 then (toponymlaw11_BlanksPiecewise.j0 k l0 l1 l2 true) else ((toponymlaw11_solid.f k l1).bind fun t394 => (if (t394.length : Int) = 0 then (toponymlaw11_BlanksPiecewise.j0 k l0 l1 l2 true) else ((toponymlaw11_solid.f k l2).bind fun t397 => (toponymlaw11_BlanksPiecewise.j0 k l0 l1 l2 ((t397.length : Int) == 0)))))))))
theorem toponymlaw11_BlanksPiecewise.mono_l : ∀ k, (∀ y0 y1 y2 y3, LeO (toponymlaw11_BlanksPiecewise.j0 k y0 y1 y2 y3) (toponymlaw11_BlanksPiecewise.j0 (k + 1) y0 y1 y2 y3)) ∧ (∀ y0 y1 y2 y3, LeO (toponymlaw11_BlanksPiecewise.j1 k y0 y1 y2 y3) (toponymlaw11_BlanksPiecewise.j1 (k + 1) y0 y1 y2 y3)) ∧ (∀ y0 y1 y2, LeO (toponymlaw11_BlanksPiecewise.j2 k y0 y1 y2) (toponymlaw11_BlanksPiecewise.j2 (k + 1) y0 y1 y2)) ∧ (∀ y0 y1 y2, LeO (toponymlaw11_BlanksPiecewise.l0 k y0 y1 y2) (toponymlaw11_BlanksPiecewise.l0 (k + 1) y0 y1 y2))
  | 0 => ⟨fun _ _ _ _ r h => by simp [toponymlaw11_BlanksPiecewise.j0] at h, fun _ _ _ _ r h => by simp [toponymlaw11_BlanksPiecewise.j1] at h, fun _ _ _ r h => by simp [toponymlaw11_BlanksPiecewise.j2] at h, fun _ _ _ r h => by simp [toponymlaw11_BlanksPiecewise.l0] at h⟩
  | k + 1 => by
    obtain ⟨ih0, ih1, ih2, ih3⟩ := toponymlaw11_BlanksPiecewise.mono_l k
    refine ⟨?_, ?_, ?_, ?_⟩
    · intro y0 y1 y2 y3
      unfold toponymlaw11_BlanksPiecewise.j0
      repeat' first
      | (with_reducible exact ih0 _ _ _ _)
      | (with_reducible exact ih1 _ _ _ _)
      | (with_reducible exact ih2 _ _ _)
      | (with_reducible exact ih3 _ _ _)
      | (with_reducible exact blanks_Piece.mono _ _ _)
      | (with_reducible exact blanks_Value.mono _ _)
      | (with_reducible exact chars_Is.mono _ _ _)
      | (with_reducible exact toponymlaw11_awake.mono _)
      | (with_reducible exact toponymlaw11_solid.mono _ _)
      | (with_reducible exact toponymlaw11_starts.mono _ _ _)
      | (with_reducible exact toponymref01_Same.mono _ _ _)
      | (with_reducible exact LeO.refl _)
      | (with_reducible exact LeO.none _)
      | (with_reducible refine LeO.ite ?_ ?_)
      | (with_reducible refine LeO.bind ?_ (fun _ => ?_))
      | exact ih0 _ _ _ _
      | exact ih1 _ _ _ _
      | exact ih2 _ _ _
      | exact ih3 _ _ _
      | exact blanks_Piece.mono _ _ _
      | exact blanks_Value.mono _ _
      | exact chars_Is.mono _ _ _
      | exact toponymlaw11_awake.mono _
      | exact toponymlaw11_solid.mono _ _
      | exact toponymlaw11_starts.mono _ _ _
      | exact toponymref01_Same.mono _ _ _
      | exact LeO.none _
      | refine LeO.ite ?_ ?_
      | refine LeO.bind ?_ (fun _ => ?_)
    · intro y0 y1 y2 y3
      unfold toponymlaw11_BlanksPiecewise.j1
      repeat' first
      | (with_reducible exact ih0 _ _ _ _)
      | (with_reducible exact ih1 _ _ _ _)
      | (with_reducible exact ih2 _ _ _)
      | (with_reducible exact ih3 _ _ _)
      | (with_reducible exact blanks_Piece.mono _ _ _)
      | (with_reducible exact blanks_Value.mono _ _)
      | (with_reducible exact chars_Is.mono _ _ _)
      | (with_reducible exact toponymlaw11_awake.mono _)
      | (with_reducible exact toponymlaw11_solid.mono _ _)
      | (with_reducible exact toponymlaw11_starts.mono _ _ _)
      | (with_reducible exact toponymref01_Same.mono _ _ _)
      | (with_reducible exact LeO.refl _)
      | (with_reducible exact LeO.none _)
      | (with_reducible refine LeO.ite ?_ ?_)
      | (with_reducible refine LeO.bind ?_ (fun _ => ?_))
      | exact ih0 _ _ _ _
      | exact ih1 _ _ _ _
      | exact ih2 _ _ _
      | exact ih3 _ _ _
      | exact blanks_Piece.mono _ _ _
      | exact blanks_Value.mono _ _
      | exact chars_Is.mono _ _ _
      | exact toponymlaw11_awake.mono _
      | exact toponymlaw11_solid.mono _ _
      | exact toponymlaw11_starts.mono _ _ _
      | exact toponymref01_Same.mono _ _ _
      | exact LeO.none _
      | refine LeO.ite ?_ ?_
      | refine LeO.bind ?_ (fun _ => ?_)
    · intro y0 y1 y2
      unfold toponymlaw11_BlanksPiecewise.j2
      repeat' first
      | (with_reducible exact ih0 _ _ _ _)
      | (with_reducible exact ih1 _ _ _ _)
      | (with_reducible exact ih2 _ _ _)
      | (with_reducible exact ih3 _ _ _)
      | (with_reducible exact blanks_Piece.mono _ _ _)
      | (with_reducible exact blanks_Value.mono _ _)
      | (with_reducible exact chars_Is.mono _ _ _)
      | (with_reducible exact toponymlaw11_awake.mono _)
      | (with_reducible exact toponymlaw11_solid.mono _ _)
      | (with_reducible exact toponymlaw11_starts.mono _ _ _)
      | (with_reducible exact toponymref01_Same.mono _ _ _)
      | (with_reducible exact LeO.refl _)
      | (with_reducible exact LeO.none _)
      | (with_reducible refine LeO.ite ?_ ?_)
      | (with_reducible refine LeO.bind ?_ (fun _ => ?_))
      | exact ih0 _ _ _ _
      | exact ih1 _ _ _ _
      | exact ih2 _ _ _
      | exact ih3 _ _ _
      | exact blanks_Piece.mono _ _ _
      | exact blanks_Value.mono _ _
      | exact chars_Is.mono _ _ _
      | exact toponymlaw11_awake.mono _
      | exact toponymlaw11_solid.mono _ _
      | exact toponymlaw11_starts.mono _ _ _
      | exact toponymref01_Same.mono _ _ _
      | exact LeO.none _
      | refine LeO.ite ?_ ?_
      | refine LeO.bind ?_ (fun _ => ?_)
    · intro y0 y1 y2
      unfold toponymlaw11_BlanksPiecewise.l0
      repeat' first
      | (with_reducible exact ih0 _ _ _ _)
      | (with_reducible exact ih1 _ _ _ _)
      | (with_reducible exact ih2 _ _ _)
      | (with_reducible exact ih3 _ _ _)
      | (with_reducible exact blanks_Piece.mono _ _ _)
      | (with_reducible exact blanks_Value.mono _ _)
      | (with_reducible exact chars_Is.mono _ _ _)
      | (with_reducible exact toponymlaw11_awake.mono _)
      | (with_reducible exact toponymlaw11_solid.mono _ _)
      | (with_reducible exact toponymlaw11_starts.mono _ _ _)
      | (with_reducible exact toponymref01_Same.mono _ _ _)
      | (with_reducible exact LeO.refl _)
      | (with_reducible exact LeO.none _)
      | (with_reducible refine LeO.ite ?_ ?_)
      | (with_reducible refine LeO.bind ?_ (fun _ => ?_))
      | exact ih0 _ _ _ _
      | exact ih1 _ _ _ _
      | exact ih2 _ _ _
      | exact ih3 _ _ _
      | exact blanks_Piece.mono _ _ _
      | exact blanks_Value.mono _ _
      | exact chars_Is.mono _ _ _
      | exact toponymlaw11_awake.mono _
      | exact toponymlaw11_solid.mono _ _
      | exact toponymlaw11_starts.mono _ _ _
      | exact toponymref01_Same.mono _ _ _
      | exact LeO.none _
      | refine LeO.ite ?_ ?_
      | refine LeO.bind ?_ (fun _ => ?_)
theorem toponymlaw11_BlanksPiecewise.mono : ∀ a0 a1 a2 k, LeO (toponymlaw11_BlanksPiecewise.f k a0 a1 a2) (toponymlaw11_BlanksPiecewise.f (k + 1) a0 a1 a2) := by
  intro a0 a1 a2 k
  obtain ⟨ih0, ih1, ih2, ih3⟩ := toponymlaw11_BlanksPiecewise.mono_l k
  unfold toponymlaw11_BlanksPiecewise.f
  repeat' first
      | (with_reducible exact ih0 _ _ _ _)
      | (with_reducible exact ih1 _ _ _ _)
      | (with_reducible exact ih2 _ _ _)
      | (with_reducible exact ih3 _ _ _)
      | (with_reducible exact blanks_Piece.mono _ _ _)
      | (with_reducible exact blanks_Value.mono _ _)
      | (with_reducible exact chars_Is.mono _ _ _)
      | (with_reducible exact toponymlaw11_awake.mono _)
      | (with_reducible exact toponymlaw11_solid.mono _ _)
      | (with_reducible exact toponymlaw11_starts.mono _ _ _)
      | (with_reducible exact toponymref01_Same.mono _ _ _)
      | (with_reducible exact LeO.refl _)
      | (with_reducible exact LeO.none _)
      | (with_reducible refine LeO.ite ?_ ?_)
      | (with_reducible refine LeO.bind ?_ (fun _ => ?_))
      | exact ih0 _ _ _ _
      | exact ih1 _ _ _ _
      | exact ih2 _ _ _
      | exact ih3 _ _ _
      | exact blanks_Piece.mono _ _ _
      | exact blanks_Value.mono _ _
      | exact chars_Is.mono _ _ _
      | exact toponymlaw11_awake.mono _
      | exact toponymlaw11_solid.mono _ _
      | exact toponymlaw11_starts.mono _ _ _
      | exact toponymref01_Same.mono _ _ _
      | exact LeO.none _
      | refine LeO.ite ?_ ?_
      | refine LeO.bind ?_ (fun _ => ?_)
set_option maxHeartbeats 8000000 in
set_option maxRecDepth 100000 in
theorem toponymlaw11_BlanksPiecewise.calls (k : Nat) (A0 : Option Addr) (c0 : Nat) (l0 : List Int) (A1 : Option Addr) (c1 : Nat) (l1 : List Int) (A2 : Option Addr) (c2 : Nat) (l2 : List Int) (r : Bool) (w : World) (hr0 : Kd.C (Kd.int .i32) w A0 l0.length l0) (hc0 : l0.length ≤ c0) (hr1 : Kd.C (Kd.int .i32) w A1 l1.length l1) (hc1 : l1.length ≤ c1) (hr2 : Kd.C (Kd.int .i32) w A2 l2.length l2) (hc2 : l2.length ≤ c2) (h : toponymlaw11_BlanksPiecewise.f k l0 l1 l2 = some r) :
    Calls Try.prog 4 #[.slice A0 l0.length c0, .slice A1 l1.length c1, .slice A2 l2.length c2] w fun e w' => e = .returned (.bool r) ∧ Below w.heap.size w w' := by
  have HR0 := Aside0.mk hr0
  have HC0 := Aside0.mk hc0
  clear hr0 hc0
  have HR1 := Aside0.mk hr1
  have HC1 := Aside0.mk hc1
  clear hr1 hc1
  have HR2 := Aside0.mk hr2
  have HC2 := Aside0.mk hc2
  clear hr2 hc2
  have HB := Aside0.mk (Below.refl w.heap.size w)
  have H : (if (l0.length : Int) > 300 then (toponymlaw11_BlanksPiecewise.j0 k l0 l1 l2 true) else (if (l1.length : Int) > 300 then (toponymlaw11_BlanksPiecewise.j0 k l0 l1 l2 true) else (if (l2.length : Int) > 300 then (toponymlaw11_BlanksPiecewise.j0 k l0 l1 l2 true) else ((toponymlaw11_solid.f k l0).bind fun t391 => (if (t391.length : Int) = 0 then (toponymlaw11_BlanksPiecewise.j0 k l0 l1 l2 true) else ((toponymlaw11_solid.f k l1).bind fun t394 => (if (t394.length : Int) = 0 then (toponymlaw11_BlanksPiecewise.j0 k l0 l1 l2 true) else ((toponymlaw11_solid.f k l2).bind fun t397 => (toponymlaw11_BlanksPiecewise.j0 k l0 l1 l2 ((t397.length : Int) == 0)))))))))) = some r := h
  clear h
  have HC4 := Aside0.mk H
  clear H
  go_enter Try.func4, Try.ntmps4
  go_upto_region 1 with (fail)
  go_cut [43] (fun v43 wc => ∃ (kq : Nat) (x43_3 : Bool), v43 = .bool x43_3 ∧ Aside0 (toponymlaw11_BlanksPiecewise.j0 kq l0 l1 l2 x43_3 = some r) ∧ Aside0 (kq ≤ k) ∧ Aside0 (Below w.heap.size w wc))
  case first =>
    have H := HC4.out
    clear HC4
    by_cases c5 : (l0.length : Int) > 300
    · rw [if_pos c5] at H
      have c5b0 : decide (300 < (l0.length : Int)) = true := decide_eq_true c5
      have c5b1 : decide (300 < l0.length) = true := decide_eq_true (by omega)
      clear c5
      (first | rw [c5b0] | (simp only [i64_w, i32_w]; rw [c5b0]) | skip)
      have H' := Aside0.mk H
      clear H
      go_wp2
      go_meet
      case rel => exact ⟨_, (true), (by first | rfl | (simp; done) | (simp [*]; done)), H', ⟨by first | omega | exact Nat.le_refl _⟩, ⟨by repeat (first | (with_reducible first | exact HB.out | apply below_alloc | apply pw_below_drewN | apply below_drew1) | exact HB.out)⟩⟩
    · rw [if_neg c5] at H
      have c5b0 : decide (300 < (l0.length : Int)) = false := decide_eq_false c5
      have c5b1 : decide (300 < l0.length) = false := decide_eq_false (by omega)
      clear c5
      (first | rw [c5b0] | (simp only [i64_w, i32_w]; rw [c5b0]) | skip)
      by_cases c6 : (l1.length : Int) > 300
      · rw [if_pos c6] at H
        have c6b0 : decide (300 < (l1.length : Int)) = true := decide_eq_true c6
        have c6b1 : decide (300 < l1.length) = true := decide_eq_true (by omega)
        clear c6
        have H' := Aside0.mk H
        clear H
        go_wp2
        go_meet
        case rel => exact ⟨_, (true), (by first | rfl | (simp; done) | (simp [*]; done)), H', ⟨by first | omega | exact Nat.le_refl _⟩, ⟨by repeat (first | (with_reducible first | exact HB.out | apply below_alloc | apply pw_below_drewN | apply below_drew1) | exact HB.out)⟩⟩
      · rw [if_neg c6] at H
        have c6b0 : decide (300 < (l1.length : Int)) = false := decide_eq_false c6
        have c6b1 : decide (300 < l1.length) = false := decide_eq_false (by omega)
        clear c6
        by_cases c7 : (l2.length : Int) > 300
        · rw [if_pos c7] at H
          have c7b0 : decide (300 < (l2.length : Int)) = true := decide_eq_true c7
          have c7b1 : decide (300 < l2.length) = true := decide_eq_true (by omega)
          clear c7
          have H' := Aside0.mk H
          clear H
          go_wp2
          go_meet
          case rel => exact ⟨_, (true), (by first | rfl | (simp; done) | (simp [*]; done)), H', ⟨by first | omega | exact Nat.le_refl _⟩, ⟨by repeat (first | (with_reducible first | exact HB.out | apply below_alloc | apply pw_below_drewN | apply below_drew1) | exact HB.out)⟩⟩
        · rw [if_neg c7] at H
          have c7b0 : decide (300 < (l2.length : Int)) = false := decide_eq_false c7
          have c7b1 : decide (300 < l2.length) = false := decide_eq_false (by omega)
          clear c7
          replace H := Option.bind_eq_some_iff.mp H
          obtain ⟨t391, A80, H⟩ := H
          replace H : (if (t391.length : Int) = 0 then (toponymlaw11_BlanksPiecewise.j0 k l0 l1 l2 true) else ((toponymlaw11_solid.f k l1).bind fun t394 => (if (t394.length : Int) = 0 then (toponymlaw11_BlanksPiecewise.j0 k l0 l1 l2 true) else ((toponymlaw11_solid.f k l2).bind fun t397 => (toponymlaw11_BlanksPiecewise.j0 k l0 l1 l2 ((t397.length : Int) == 0)))))) = some r := H
          have A8 := Aside0.mk A80
          clear A80
          by_cases c9 : (t391.length : Int) = 0
          · rw [if_pos c9] at H
            have c9b0 : ((t391.length : Int) == 0) = true := beq_iff_eq.mpr c9
            have c9b1 : ((t391.length : Int) != 0) = false := bne_eq_false_iff_eq.mpr c9
            clear c9
            have H' := Aside0.mk H
            clear H
            go_wp2_with (first | (go_at_call 16; (with_reducible refine (toponymlaw11_solid.calls k _ _ l0 t391 _ ?side1 ?side2 A8.out).mono ?_); (case side1 => repeat (first | exact (Kd.C_below HR0.out HB.out) | (with_reducible refine Kd.C_alloc ?_ _) | (with_reducible refine Kd.C_drewN ?_ _) | (with_reducible refine Kd.C_drew ?_))); (case side2 => exact HC0.out); rintro e w10 ⟨v392, rfl, ho0, hb⟩; (try clear A8); have n0_ := Aside0.mk (Kd.R_lower ho0 (below_size (by repeat (first | (with_reducible first | exact HB.out | apply below_alloc | apply pw_below_drewN | apply below_drew1) | exact HB.out)))); have n1_ := Aside0.mk (below_step (by repeat (first | (with_reducible first | exact HB.out | apply below_alloc | apply pw_below_drewN | apply below_drew1) | exact HB.out)) hb); clear HB; have HO393 := n0_; have HB := n1_; clear n0_ n1_; (try clear hb); (try clear hb2); (try clear hk); (try clear hi); (try clear ho0); obtain ⟨Ao11, co11, eo11⟩ := Kd.R_slice HO393.out; subst eo11))
            go_meet
            case rel => exact ⟨_, (true), (by first | rfl | (simp; done) | (simp [*]; done)), H', ⟨by first | omega | exact Nat.le_refl _⟩, ⟨by repeat (first | (with_reducible first | exact HB.out | apply below_alloc | apply pw_below_drewN | apply below_drew1) | exact HB.out)⟩⟩
          · rw [if_neg c9] at H
            have c9b0 : ((t391.length : Int) == 0) = false := beq_eq_false_iff_ne.mpr c9
            have c9b1 : ((t391.length : Int) != 0) = true := bne_iff_ne.mpr c9
            have c9b2 : ¬ (t391 = []) := fun h_ => c9 (by rw [h_]; rfl)
            replace H := Option.bind_eq_some_iff.mp H
            obtain ⟨t394, A120, H⟩ := H
            replace H : (if (t394.length : Int) = 0 then (toponymlaw11_BlanksPiecewise.j0 k l0 l1 l2 true) else ((toponymlaw11_solid.f k l2).bind fun t397 => (toponymlaw11_BlanksPiecewise.j0 k l0 l1 l2 ((t397.length : Int) == 0)))) = some r := H
            have A12 := Aside0.mk A120
            clear A120
            by_cases c13 : (t394.length : Int) = 0
            · rw [if_pos c13] at H
              have c13b0 : ((t394.length : Int) == 0) = true := beq_iff_eq.mpr c13
              have c13b1 : ((t394.length : Int) != 0) = false := bne_eq_false_iff_eq.mpr c13
              clear c13
              have H' := Aside0.mk H
              clear H
              go_wp2_with (first | (go_at_call 16; (with_reducible refine (toponymlaw11_solid.calls k _ _ l0 t391 _ ?side1 ?side2 A8.out).mono ?_); (case side1 => repeat (first | exact (Kd.C_below HR0.out HB.out) | (with_reducible refine Kd.C_alloc ?_ _) | (with_reducible refine Kd.C_drewN ?_ _) | (with_reducible refine Kd.C_drew ?_))); (case side2 => exact HC0.out); rintro e w14 ⟨v392, rfl, ho0, hb⟩; (try clear A8); have n0_ := Aside0.mk (Kd.R_lower ho0 (below_size (by repeat (first | (with_reducible first | exact HB.out | apply below_alloc | apply pw_below_drewN | apply below_drew1) | exact HB.out)))); have n1_ := Aside0.mk (below_step (by repeat (first | (with_reducible first | exact HB.out | apply below_alloc | apply pw_below_drewN | apply below_drew1) | exact HB.out)) hb); clear HB; have HO393 := n0_; have HB := n1_; clear n0_ n1_; (try clear hb); (try clear hb2); (try clear hk); (try clear hi); (try clear ho0); obtain ⟨Ao15, co15, eo15⟩ := Kd.R_slice HO393.out; subst eo15) | (go_at_call 16; (with_reducible refine (toponymlaw11_solid.calls k _ _ l1 t394 _ ?side1 ?side2 A12.out).mono ?_); (case side1 => repeat (first | exact (Kd.C_below HR1.out HB.out) | (with_reducible refine Kd.C_alloc ?_ _) | (with_reducible refine Kd.C_drewN ?_ _) | (with_reducible refine Kd.C_drew ?_))); (case side2 => exact HC1.out); rintro e w16 ⟨v395, rfl, ho0, hb⟩; (try clear A12); have n0_ := Aside0.mk (Kd.R_elder' (by (with_reducible repeat (first | apply Kd.R_alloc | apply Kd.R_drewN | apply Kd.R_drew)); exact HO393.out) (Kd.R_base ho0) hb); have n1_ := Aside0.mk (Kd.R_lower (Kd.R_new' ho0 (Kd.R_lt (by (with_reducible repeat (first | apply Kd.R_alloc | apply Kd.R_drewN | apply Kd.R_drew)); exact HO393.out))) (below_size (by repeat (first | (with_reducible first | exact HB.out | apply below_alloc | apply pw_below_drewN | apply below_drew1) | exact HB.out)))); have n2_ := Aside0.mk (below_step (by repeat (first | (with_reducible first | exact HB.out | apply below_alloc | apply pw_below_drewN | apply below_drew1) | exact HB.out)) hb); clear HO393; clear HB; have HO393 := n0_; have HO396 := n1_; have HB := n2_; clear n0_ n1_ n2_; (try clear hb); (try clear hb2); (try clear hk); (try clear hi); (try clear ho0); obtain ⟨Ao17, co17, eo17⟩ := Kd.R_slice HO396.out; subst eo17))
              go_meet
              case rel => exact ⟨_, (true), (by first | rfl | (simp; done) | (simp [*]; done)), H', ⟨by first | omega | exact Nat.le_refl _⟩, ⟨by repeat (first | (with_reducible first | exact HB.out | apply below_alloc | apply pw_below_drewN | apply below_drew1) | exact HB.out)⟩⟩
            · rw [if_neg c13] at H
              have c13b0 : ((t394.length : Int) == 0) = false := beq_eq_false_iff_ne.mpr c13
              have c13b1 : ((t394.length : Int) != 0) = true := bne_iff_ne.mpr c13
              have c13b2 : ¬ (t394 = []) := fun h_ => c13 (by rw [h_]; rfl)
              replace H := Option.bind_eq_some_iff.mp H
              obtain ⟨t397, A180, H⟩ := H
              replace H : (toponymlaw11_BlanksPiecewise.j0 k l0 l1 l2 ((t397.length : Int) == 0)) = some r := H
              have A18 := Aside0.mk A180
              clear A180
              have H' := Aside0.mk H
              clear H
              go_wp2_with (first | (go_at_call 16; (with_reducible refine (toponymlaw11_solid.calls k _ _ l0 t391 _ ?side1 ?side2 A8.out).mono ?_); (case side1 => repeat (first | exact (Kd.C_below HR0.out HB.out) | (with_reducible refine Kd.C_alloc ?_ _) | (with_reducible refine Kd.C_drewN ?_ _) | (with_reducible refine Kd.C_drew ?_))); (case side2 => exact HC0.out); rintro e w19 ⟨v392, rfl, ho0, hb⟩; (try clear A8); have n0_ := Aside0.mk (Kd.R_lower ho0 (below_size (by repeat (first | (with_reducible first | exact HB.out | apply below_alloc | apply pw_below_drewN | apply below_drew1) | exact HB.out)))); have n1_ := Aside0.mk (below_step (by repeat (first | (with_reducible first | exact HB.out | apply below_alloc | apply pw_below_drewN | apply below_drew1) | exact HB.out)) hb); clear HB; have HO393 := n0_; have HB := n1_; clear n0_ n1_; (try clear hb); (try clear hb2); (try clear hk); (try clear hi); (try clear ho0); obtain ⟨Ao20, co20, eo20⟩ := Kd.R_slice HO393.out; subst eo20) | (go_at_call 16; (with_reducible refine (toponymlaw11_solid.calls k _ _ l1 t394 _ ?side1 ?side2 A12.out).mono ?_); (case side1 => repeat (first | exact (Kd.C_below HR1.out HB.out) | (with_reducible refine Kd.C_alloc ?_ _) | (with_reducible refine Kd.C_drewN ?_ _) | (with_reducible refine Kd.C_drew ?_))); (case side2 => exact HC1.out); rintro e w21 ⟨v395, rfl, ho0, hb⟩; (try clear A12); have n0_ := Aside0.mk (Kd.R_elder' (by (with_reducible repeat (first | apply Kd.R_alloc | apply Kd.R_drewN | apply Kd.R_drew)); exact HO393.out) (Kd.R_base ho0) hb); have n1_ := Aside0.mk (Kd.R_lower (Kd.R_new' ho0 (Kd.R_lt (by (with_reducible repeat (first | apply Kd.R_alloc | apply Kd.R_drewN | apply Kd.R_drew)); exact HO393.out))) (below_size (by repeat (first | (with_reducible first | exact HB.out | apply below_alloc | apply pw_below_drewN | apply below_drew1) | exact HB.out)))); have n2_ := Aside0.mk (below_step (by repeat (first | (with_reducible first | exact HB.out | apply below_alloc | apply pw_below_drewN | apply below_drew1) | exact HB.out)) hb); clear HO393; clear HB; have HO393 := n0_; have HO396 := n1_; have HB := n2_; clear n0_ n1_ n2_; (try clear hb); (try clear hb2); (try clear hk); (try clear hi); (try clear ho0); obtain ⟨Ao22, co22, eo22⟩ := Kd.R_slice HO396.out; subst eo22) | (go_at_call 16; (with_reducible refine (toponymlaw11_solid.calls k _ _ l2 t397 _ ?side1 ?side2 A18.out).mono ?_); (case side1 => repeat (first | exact (Kd.C_below HR2.out HB.out) | (with_reducible refine Kd.C_alloc ?_ _) | (with_reducible refine Kd.C_drewN ?_ _) | (with_reducible refine Kd.C_drew ?_))); (case side2 => exact HC2.out); rintro e w23 ⟨v398, rfl, ho0, hb⟩; (try clear A18); have n0_ := Aside0.mk (Kd.R_elder' (by (with_reducible repeat (first | apply Kd.R_alloc | apply Kd.R_drewN | apply Kd.R_drew)); exact HO393.out) (Kd.R_base ho0) hb); have n1_ := Aside0.mk (Kd.R_elder' (by (with_reducible repeat (first | apply Kd.R_alloc | apply Kd.R_drewN | apply Kd.R_drew)); exact HO396.out) (Kd.R_base ho0) hb); have n2_ := Aside0.mk (Kd.R_lower (Kd.R_new' (Kd.R_new' ho0 (Kd.R_lt (by (with_reducible repeat (first | apply Kd.R_alloc | apply Kd.R_drewN | apply Kd.R_drew)); exact HO393.out))) (Kd.R_lt (by (with_reducible repeat (first | apply Kd.R_alloc | apply Kd.R_drewN | apply Kd.R_drew)); exact HO396.out))) (below_size (by repeat (first | (with_reducible first | exact HB.out | apply below_alloc | apply pw_below_drewN | apply below_drew1) | exact HB.out)))); have n3_ := Aside0.mk (below_step (by repeat (first | (with_reducible first | exact HB.out | apply below_alloc | apply pw_below_drewN | apply below_drew1) | exact HB.out)) hb); clear HO393; clear HO396; clear HB; have HO393 := n0_; have HO396 := n1_; have HO399 := n2_; have HB := n3_; clear n0_ n1_ n2_ n3_; (try clear hb); (try clear hb2); (try clear hk); (try clear hi); (try clear ho0); obtain ⟨Ao24, co24, eo24⟩ := Kd.R_slice HO399.out; subst eo24))
              go_meet
              case rel => exact ⟨_, (((t397.length : Int) == 0)), (by first | rfl | (simp; done) | (simp [*]; done)), H', ⟨by first | omega | exact Nat.le_refl _⟩, ⟨by repeat (first | (with_reducible first | exact HB.out | apply below_alloc | apply pw_below_drewN | apply below_drew1) | exact HB.out)⟩⟩
  case rest =>
    clear HC4
    try clear c1
    try clear c2
    try clear p2
    try clear c4
    try clear c5
    try clear c5b0
    try clear c5b1
    try clear c6
    try clear c6b0
    try clear c6b1
    try clear c7
    try clear c7b0
    try clear c7b1
    try clear c9
    try clear c9b0
    try clear c9b1
    try clear c9b2
    try clear c13
    try clear c13b0
    try clear c13b1
    try clear c13b2
    obtain ⟨kq, x43_3, rfl, HA, HJ3, HB⟩ := hcut
    cases kq with
    | zero => exact absurd HA.out (by simp [toponymlaw11_BlanksPiecewise.j0])
    | succ kj3 =>
      have H := HA.out
      clear HA
      simp only [toponymlaw11_BlanksPiecewise.j0] at H
      by_cases c25 : x43_3 = true
      · subst c25
        have H1 : ((toponymlaw11_awake.f kj3).bind fun t400 => (some t400)) = some r := by rw [if_pos rfl] at H; exact H
        clear H
        have H := H1
        clear H1
        replace H := Option.bind_eq_some_iff.mp H
        obtain ⟨t400, A260, H⟩ := H
        replace H : (some t400) = some r := H
        have A26 := Aside0.mk A260
        clear A260
        obtain rfl := Option.some.inj H
        go_wp2_with (first | ((with_reducible refine gate_callee (f := 8) rfl ?_); refine goesL_ (some 44) rfl rfl Try.func8 (by kernel_rfl) rfl #[] rfl (by (try simp only [List.map_toArray, List.map_cons, List.map_nil]); first | done | rfl | (simp only [List.length_drop, List.length_take]; rfl)) ?_; (with_reducible refine (toponymlaw11_awake.calls kj3  t400 _ A26.out).mono ?_); rintro e w27 ⟨rfl, hb⟩; (try clear A26); refine ⟨_, rfl, ?_⟩; have n0_ := Aside0.mk (below_step (by repeat (first | (with_reducible first | exact HB.out | apply below_alloc | apply pw_below_drewN | apply below_drew1) | exact HB.out)) hb); clear HB; have HB := n0_; clear n0_; (try clear hb); (try clear hb2); (try clear hk); (try clear hi)))
        go_ret
        exact ⟨by first | rfl | (simp [errW_none, errW_some] <;> rfl) | (simp [*, errW_none, errW_some] <;> rfl), by repeat (first | (with_reducible first | exact HB.out | apply below_alloc | apply pw_below_drewN | apply below_drew1) | exact HB.out)⟩
      · replace c25 := Bool.eq_false_iff.mpr c25
        subst c25
        have H1 : (if 0 < (l1.length : Int) then ((chars_Is.f kj3 (rd l1 0) (([3] : List Int))).bind fun t405 => (if t405 = true then (toponymlaw11_BlanksPiecewise.j1 kj3 l0 l1 l2 true) else (if 0 < (l2.length : Int) then ((chars_Is.f kj3 (rd l2 0) (([3] : List Int))).bind fun t410 => (toponymlaw11_BlanksPiecewise.j1 kj3 l0 l1 l2 t410)) else (none)))) else (none)) = some r := by rw [if_neg (show ¬ (false = true) by decide)] at H; exact H
        clear H
        have H := H1
        clear H1
        have HC28 := Aside0.mk H
        clear H
        go_upto_region 3 with (fail)
        go_cut [56] (fun v56 wc => ∃ (kq : Nat) (x56_27 : Bool), v56 = .bool x56_27 ∧ Aside0 (toponymlaw11_BlanksPiecewise.j1 kq l0 l1 l2 x56_27 = some r) ∧ Aside0 (kq ≤ kj3) ∧ Aside0 (Below w.heap.size w wc))
        case first =>
          have H := HC28.out
          clear HC28
          by_cases c29 : 0 < (l1.length : Int)
          · rw [if_pos c29] at H
            have c29b0 : decide (0 < (l1.length : Int)) = true := decide_eq_true c29
            have c29b1 : decide (0 < l1.length) = true := decide_eq_true (by omega)
            clear c29
            (first | rw [c29b0] | (simp only [i64_w, i32_w]; rw [c29b0]) | skip)
            obtain ⟨y402, hy402⟩ : ∃ y_ : List Int, y_ = (([3] : List Int)) := ⟨_, rfl⟩
            replace H : ((chars_Is.f kj3 (rd l1 0) y402).bind fun t405 => (if t405 = true then (toponymlaw11_BlanksPiecewise.j1 kj3 l0 l1 l2 true) else (if 0 < (l2.length : Int) then ((chars_Is.f kj3 (rd l2 0) (([3] : List Int))).bind fun t410 => (toponymlaw11_BlanksPiecewise.j1 kj3 l0 l1 l2 t410)) else (none)))) = some r := by first | (rw [hy402]; with_reducible exact H) | (have H2_ := (Option.bind_some _ _).symm.trans H; rw [hy402]; with_reducible exact H2_) | (have H2_ := (Option.bind_some _ _).symm.trans H; with_reducible exact H2_) | with_reducible exact H | (rw [hy402]; exact H) | exact H
            have Ny402 := Aside0.mk hy402
            clear hy402
            replace H := Option.bind_eq_some_iff.mp H
            obtain ⟨t405, A300, H⟩ := H
            replace H : (if t405 = true then (toponymlaw11_BlanksPiecewise.j1 kj3 l0 l1 l2 true) else (if 0 < (l2.length : Int) then ((chars_Is.f kj3 (rd l2 0) (([3] : List Int))).bind fun t410 => (toponymlaw11_BlanksPiecewise.j1 kj3 l0 l1 l2 t410)) else (none))) = some r := H
            have A30 := Aside0.mk A300
            clear A300
            by_cases c31 : t405 = true
            · subst c31
              have H1 : (toponymlaw11_BlanksPiecewise.j1 kj3 l0 l1 l2 true) = some r := by rw [if_pos rfl] at H; exact H
              clear H
              have H := H1
              clear H1
              have H' := Aside0.mk H
              clear H
              have p401 : 0 ≤ (0 : Int) := (by omega)
              have q401 : 0 < (l1.length : Int) := of_decide_eq_true (by first | (with_reducible assumption) | assumption)
              obtain ⟨ad401, e401, hx401_0⟩ := Kd.at_int HR1.out 0 p401 q401
              cases e401
              have qi401 : (0 < l1.length) = True := eq_true (by omega)
              (try rw [show ((0 : Int)).toNat = 0 from rfl] at hx401_0)
              (try rw [Addr.add_zero'] at hx401_0)
              replace hx401_0 := (HB.out.cell (World.block_lt_of_cell? w _ hx401_0)).trans hx401_0
              replace p401 := eq_true p401
              replace q401 := eq_true q401
              go_wp2_with (first | ((with_reducible refine gate_dst (N := 48) rfl ?_); (try (refine gate_guard (by rfl) ?_; dsimp only)); refine Kd.R_lit (Kd.int .i64) _ 3 ?hg (N := 48) ?hd (xs := ([3] : List Int)) (inner := [.int .i64 3]) (ok := fun _ => True) (okp := fun _ => True) ?hr ?hp (fun _ hk => hk) trivial (Below.refl _ _) (Nat.le_refl _) (by simp) ?_; (case hd => rfl); (case hg => rfl); (case hr => first | (go_simp; done) | (go_simp; rfl)); (case hp => exact (Reps.one (show Kd.M (Kd.int .i64) _ _ _ 3 [.int .i64 3] from rfl) (Reps.none _ _))); intro v403 w32 ho33 hb hg_ hnew_; clear hg_ hnew_; (first | rw [← Ny402.out] at ho33 | (simp only [Int.reduceToNat] at ho33; rw [← Ny402.out] at ho33)); have n0_ := Aside0.mk (Kd.R_lower ho33 (below_size (by repeat (first | (with_reducible first | exact HB.out | apply below_alloc | apply pw_below_drewN | apply below_drew1) | exact HB.out)))); have n1_ := Aside0.mk (below_step (by repeat (first | (with_reducible first | exact HB.out | apply below_alloc | apply pw_below_drewN | apply below_drew1) | exact HB.out)) hb); clear HB; have HO404 := n0_; have HB := n1_; clear n0_ n1_; clear hb ho33; obtain ⟨Ao34, co34, eo34⟩ := Kd.R_slice HO404.out; subst eo34) | ((with_reducible refine gate_callee (f := 17) rfl ?_); refine goesL_ (some 49) rfl rfl Try.func17 (by kernel_rfl) rfl #[.int .i32 (rd l1 0), .slice Ao34 y402.length co34] rfl (by (try simp only [List.map_toArray, List.map_cons, List.map_nil]); first | done | rfl | (simp only [List.length_drop, List.length_take]; rfl)) ?_; (with_reducible refine (chars_Is.calls kj3 (rd l1 0) _ _ y402 true _ ?side1 ?side2 A30.out).mono ?_); (case side1 => repeat (first | exact (Kd.R_reads' HO404.out).2.2 | (with_reducible refine Kd.C_alloc ?_ _) | (with_reducible refine Kd.C_drewN ?_ _) | (with_reducible refine Kd.C_drew ?_))); (case side2 => exact (Kd.R_reads' HO404.out).2.1); rintro e w' ⟨rfl, ⟨nd, rfl⟩⟩; (try clear A30); refine ⟨_, rfl, ?_⟩))
              go_meet
              case rel => exact ⟨_, (true), (by first | rfl | (simp; done) | (simp [*]; done)), H', ⟨by have := HJ3.out; first | omega | exact Nat.le_refl _⟩, ⟨by repeat (first | (with_reducible first | exact HB.out | apply below_alloc | apply pw_below_drewN | apply below_drew1) | exact HB.out)⟩⟩
            · replace c31 := Bool.eq_false_iff.mpr c31
              subst c31
              have H1 : (if 0 < (l2.length : Int) then ((chars_Is.f kj3 (rd l2 0) (([3] : List Int))).bind fun t410 => (toponymlaw11_BlanksPiecewise.j1 kj3 l0 l1 l2 t410)) else (none)) = some r := by rw [if_neg (show ¬ (false = true) by decide)] at H; exact H
              clear H
              have H := H1
              clear H1
              by_cases c35 : 0 < (l2.length : Int)
              · rw [if_pos c35] at H
                have c35b0 : decide (0 < (l2.length : Int)) = true := decide_eq_true c35
                have c35b1 : decide (0 < l2.length) = true := decide_eq_true (by omega)
                clear c35
                obtain ⟨y407, hy407⟩ : ∃ y_ : List Int, y_ = (([3] : List Int)) := ⟨_, rfl⟩
                replace H : ((chars_Is.f kj3 (rd l2 0) y407).bind fun t410 => (toponymlaw11_BlanksPiecewise.j1 kj3 l0 l1 l2 t410)) = some r := by first | (rw [hy407]; with_reducible exact H) | (have H2_ := (Option.bind_some _ _).symm.trans H; rw [hy407]; with_reducible exact H2_) | (have H2_ := (Option.bind_some _ _).symm.trans H; with_reducible exact H2_) | with_reducible exact H | (rw [hy407]; exact H) | exact H
                have Ny407 := Aside0.mk hy407
                clear hy407
                replace H := Option.bind_eq_some_iff.mp H
                obtain ⟨t410, A360, H⟩ := H
                replace H : (toponymlaw11_BlanksPiecewise.j1 kj3 l0 l1 l2 t410) = some r := H
                have A36 := Aside0.mk A360
                clear A360
                have H' := Aside0.mk H
                clear H
                have p401 : 0 ≤ (0 : Int) := (by omega)
                have q401 : 0 < (l1.length : Int) := of_decide_eq_true (by first | (with_reducible assumption) | assumption)
                obtain ⟨ad401, e401, hx401_0⟩ := Kd.at_int HR1.out 0 p401 q401
                cases e401
                have qi401 : (0 < l1.length) = True := eq_true (by omega)
                (try rw [show ((0 : Int)).toNat = 0 from rfl] at hx401_0)
                (try rw [Addr.add_zero'] at hx401_0)
                replace hx401_0 := (HB.out.cell (World.block_lt_of_cell? w _ hx401_0)).trans hx401_0
                replace p401 := eq_true p401
                replace q401 := eq_true q401
                go_wp2_with (first | ((with_reducible refine gate_dst (N := 48) rfl ?_); (try (refine gate_guard (by rfl) ?_; dsimp only)); refine Kd.R_lit (Kd.int .i64) _ 3 ?hg (N := 48) ?hd (xs := ([3] : List Int)) (inner := [.int .i64 3]) (ok := fun _ => True) (okp := fun _ => True) ?hr ?hp (fun _ hk => hk) trivial (Below.refl _ _) (Nat.le_refl _) (by simp) ?_; (case hd => rfl); (case hg => rfl); (case hr => first | (go_simp; done) | (go_simp; rfl)); (case hp => exact (Reps.one (show Kd.M (Kd.int .i64) _ _ _ 3 [.int .i64 3] from rfl) (Reps.none _ _))); intro v403 w37 ho38 hb hg_ hnew_; clear hg_ hnew_; (first | rw [← Ny402.out] at ho38 | (simp only [Int.reduceToNat] at ho38; rw [← Ny402.out] at ho38)); have n0_ := Aside0.mk (Kd.R_lower ho38 (below_size (by repeat (first | (with_reducible first | exact HB.out | apply below_alloc | apply pw_below_drewN | apply below_drew1) | exact HB.out)))); have n1_ := Aside0.mk (below_step (by repeat (first | (with_reducible first | exact HB.out | apply below_alloc | apply pw_below_drewN | apply below_drew1) | exact HB.out)) hb); clear HB; have HO404 := n0_; have HB := n1_; clear n0_ n1_; clear hb ho38; obtain ⟨Ao39, co39, eo39⟩ := Kd.R_slice HO404.out; subst eo39) | ((with_reducible refine gate_callee (f := 17) rfl ?_); refine goesL_ (some 49) rfl rfl Try.func17 (by kernel_rfl) rfl #[.int .i32 (rd l1 0), .slice Ao39 y402.length co39] rfl (by (try simp only [List.map_toArray, List.map_cons, List.map_nil]); first | done | rfl | (simp only [List.length_drop, List.length_take]; rfl)) ?_; (with_reducible refine (chars_Is.calls kj3 (rd l1 0) _ _ y402 false _ ?side1 ?side2 A30.out).mono ?_); (case side1 => repeat (first | exact (Kd.R_reads' HO404.out).2.2 | (with_reducible refine Kd.C_alloc ?_ _) | (with_reducible refine Kd.C_drewN ?_ _) | (with_reducible refine Kd.C_drew ?_))); (case side2 => exact (Kd.R_reads' HO404.out).2.1); rintro e w' ⟨rfl, ⟨nd, rfl⟩⟩; (try clear A30); refine ⟨_, rfl, ?_⟩; have p406 : 0 ≤ (0 : Int) := (by omega); have q406 : 0 < (l2.length : Int) := of_decide_eq_true (by first | (with_reducible assumption) | assumption); obtain ⟨ad406, e406, hx406_0⟩ := Kd.at_int HR2.out 0 p406 q406; cases e406; have qi406 : (0 < l2.length) = True := eq_true (by omega); (try rw [show ((0 : Int)).toNat = 0 from rfl] at hx406_0); (try rw [Addr.add_zero'] at hx406_0); replace hx406_0 := (HB.out.cell (World.block_lt_of_cell? w _ hx406_0)).trans hx406_0; replace p406 := eq_true p406; replace q406 := eq_true q406) | ((with_reducible refine gate_dst (N := 54) rfl ?_); (try (refine gate_guard (by rfl) ?_; dsimp only)); refine Kd.R_lit (Kd.int .i64) _ 3 ?hg (N := 54) ?hd (xs := ([3] : List Int)) (inner := [.int .i64 3]) (ok := fun _ => True) (okp := fun _ => True) ?hr ?hp (fun _ hk => hk) trivial (Below.refl _ _) (Nat.le_refl _) (by simp) ?_; (case hd => rfl); (case hg => rfl); (case hr => first | (go_simp; done) | (go_simp; rfl)); (case hp => exact (Reps.one (show Kd.M (Kd.int .i64) _ _ _ 3 [.int .i64 3] from rfl) (Reps.none _ _))); intro v408 w40 ho41 hb hg_ hnew_; clear hg_ hnew_; (first | rw [← Ny407.out] at ho41 | (simp only [Int.reduceToNat] at ho41; rw [← Ny407.out] at ho41)); have n0_ := Aside0.mk (Kd.R_elder' (by (with_reducible repeat (first | apply Kd.R_alloc | apply Kd.R_drewN | apply Kd.R_drew)); exact HO404.out) (Kd.R_base ho41) hb); have n1_ := Aside0.mk (Kd.R_lower (Kd.R_new' ho41 (Kd.R_lt (by (with_reducible repeat (first | apply Kd.R_alloc | apply Kd.R_drewN | apply Kd.R_drew)); exact HO404.out))) (below_size (by repeat (first | (with_reducible first | exact HB.out | apply below_alloc | apply pw_below_drewN | apply below_drew1) | exact HB.out)))); have n2_ := Aside0.mk (below_step (by repeat (first | (with_reducible first | exact HB.out | apply below_alloc | apply pw_below_drewN | apply below_drew1) | exact HB.out)) hb); clear HO404; clear HB; have HO404 := n0_; have HO409 := n1_; have HB := n2_; clear n0_ n1_ n2_; clear hb ho41; obtain ⟨Ao42, co42, eo42⟩ := Kd.R_slice HO409.out; subst eo42) | (go_at_call 17; (with_reducible refine (chars_Is.calls kj3 (rd l2 0) _ _ y407 t410 _ ?side1 ?side2 A36.out).mono ?_); (case side1 => repeat (first | exact (Kd.R_reads' HO409.out).2.2 | (with_reducible refine Kd.C_alloc ?_ _) | (with_reducible refine Kd.C_drewN ?_ _) | (with_reducible refine Kd.C_drew ?_))); (case side2 => exact (Kd.R_reads' HO409.out).2.1); rintro e w' ⟨rfl, ⟨nd, rfl⟩⟩; (try clear A36)))
                go_meet
                case rel => exact ⟨_, (t410), (by first | rfl | (simp; done) | (simp [*]; done)), H', ⟨by have := HJ3.out; first | omega | exact Nat.le_refl _⟩, ⟨by repeat (first | (with_reducible first | exact HB.out | apply below_alloc | apply pw_below_drewN | apply below_drew1) | exact HB.out)⟩⟩
              · rw [if_neg c35] at H
                exact absurd H (by simp)
          · rw [if_neg c29] at H
            exact absurd H (by simp)
        case rest =>
          clear HC28
          try clear c1
          try clear c2
          try clear p2
          try clear c3
          try clear c4
          try clear p4
          try clear q4
          try clear hx4
          try clear qi4
          try clear c5
          try clear c5b0
          try clear c5b1
          try clear c6
          try clear c6b0
          try clear c6b1
          try clear c7
          try clear c7b0
          try clear c7b1
          try clear c8
          try clear c9
          try clear c9b0
          try clear c9b1
          try clear c9b2
          try clear c13
          try clear c13b0
          try clear c13b1
          try clear c13b2
          try clear c17
          try clear c25
          try clear c29
          try clear c29b0
          try clear c29b1
          try clear c31
          try clear c35
          try clear c35b0
          try clear c35b1
          try clear p40
          try clear q40
          try clear hx40
          try clear qi40
          try clear hx401_0
          try clear hx406_0
          try clear p2
          try clear p401
          try clear p406
          try clear q401
          try clear q406
          obtain ⟨kq, x56_27, rfl, HA, HJ27, HB⟩ := hcut
          cases kq with
          | zero => exact absurd HA.out (by simp [toponymlaw11_BlanksPiecewise.j1])
          | succ kj27 =>
            have H := HA.out
            clear HA
            simp only [toponymlaw11_BlanksPiecewise.j1] at H
            by_cases c43 : x56_27 = true
            · subst c43
              have H1 : ((toponymlaw11_awake.f kj27).bind fun t411 => (some t411)) = some r := by rw [if_pos rfl] at H; exact H
              clear H
              have H := H1
              clear H1
              replace H := Option.bind_eq_some_iff.mp H
              obtain ⟨t411, A440, H⟩ := H
              replace H : (some t411) = some r := H
              have A44 := Aside0.mk A440
              clear A440
              obtain rfl := Option.some.inj H
              go_wp2_with (first | ((with_reducible refine gate_callee (f := 8) rfl ?_); refine goesL_ (some 57) rfl rfl Try.func8 (by kernel_rfl) rfl #[] rfl (by (try simp only [List.map_toArray, List.map_cons, List.map_nil]); first | done | rfl | (simp only [List.length_drop, List.length_take]; rfl)) ?_; (with_reducible refine (toponymlaw11_awake.calls kj27  t411 _ A44.out).mono ?_); rintro e w45 ⟨rfl, hb⟩; (try clear A44); refine ⟨_, rfl, ?_⟩; have n0_ := Aside0.mk (below_step (by repeat (first | (with_reducible first | exact HB.out | apply below_alloc | apply pw_below_drewN | apply below_drew1) | exact HB.out)) hb); clear HB; have HB := n0_; clear n0_; (try clear hb); (try clear hb2); (try clear hk); (try clear hi)))
              go_ret
              exact ⟨by first | rfl | (simp [errW_none, errW_some] <;> rfl) | (simp [*, errW_none, errW_some] <;> rfl), by repeat (first | (with_reducible first | exact HB.out | apply below_alloc | apply pw_below_drewN | apply below_drew1) | exact HB.out)⟩
            · replace c43 := Bool.eq_false_iff.mpr c43
              subst c43
              have H1 : ((some (([] : List Int) : List Int)).bind fun y412 => (if y412.length + l0.length < 35184372088832 then ((some (y412 ++ l0 : List Int)).bind fun y415 => (if y415.length < 35184372088832 then ((some (y415 ++ [32] : List Int)).bind fun y418 => (if y418.length + l1.length < 35184372088832 then ((some (y418 ++ l1 : List Int)).bind fun y421 => (if y421.length < 35184372088832 then ((some (y421 ++ [32] : List Int)).bind fun y424 => (if y424.length + l2.length < 35184372088832 then ((blanks_Value.f kj27 (y424 ++ l2)).bind fun t430 => ((blanks_Piece.f kj27 1 l0).bind fun t433 => ((blanks_Piece.f kj27 2 l1).bind fun t436 => ((blanks_Piece.f kj27 3 l2).bind fun t439 => ((toponymlaw11_starts.f kj27 t430 t433).bind fun t442 => (if t442 = true then (if (t439.length : Int) > (t430.length : Int) then (toponymlaw11_BlanksPiecewise.j2 kj27 t430 t436 true) else (if 0 ≤ (wrap64 ((t430.length : Int) - (t439.length : Int))) then (if (wrap64 ((t430.length : Int) - (t439.length : Int))) ≤ (t430.length : Int) then ((toponymref01_Same.f kj27 (t430.drop ((wrap64 ((t430.length : Int) - (t439.length : Int))) : Int).toNat) t439).bind fun t447 => (toponymlaw11_BlanksPiecewise.j2 kj27 t430 t436 (!t447))) else (none)) else (none))) else (toponymlaw11_BlanksPiecewise.j2 kj27 t430 t436 true))))))) else (none))) else (none))) else (none))) else (none))) else (none))) = some r := by rw [if_neg (show ¬ (false = true) by decide)] at H; exact H
              clear H
              have H := H1
              clear H1
              obtain ⟨y412, hy412⟩ : ∃ y_ : List Int, y_ = (([] : List Int)) := ⟨_, rfl⟩
              replace H : (if y412.length + l0.length < 35184372088832 then ((some (y412 ++ l0 : List Int)).bind fun y415 => (if y415.length < 35184372088832 then ((some (y415 ++ [32] : List Int)).bind fun y418 => (if y418.length + l1.length < 35184372088832 then ((some (y418 ++ l1 : List Int)).bind fun y421 => (if y421.length < 35184372088832 then ((some (y421 ++ [32] : List Int)).bind fun y424 => (if y424.length + l2.length < 35184372088832 then ((blanks_Value.f kj27 (y424 ++ l2)).bind fun t430 => ((blanks_Piece.f kj27 1 l0).bind fun t433 => ((blanks_Piece.f kj27 2 l1).bind fun t436 => ((blanks_Piece.f kj27 3 l2).bind fun t439 => ((toponymlaw11_starts.f kj27 t430 t433).bind fun t442 => (if t442 = true then (if (t439.length : Int) > (t430.length : Int) then (toponymlaw11_BlanksPiecewise.j2 kj27 t430 t436 true) else (if 0 ≤ (wrap64 ((t430.length : Int) - (t439.length : Int))) then (if (wrap64 ((t430.length : Int) - (t439.length : Int))) ≤ (t430.length : Int) then ((toponymref01_Same.f kj27 (t430.drop ((wrap64 ((t430.length : Int) - (t439.length : Int))) : Int).toNat) t439).bind fun t447 => (toponymlaw11_BlanksPiecewise.j2 kj27 t430 t436 (!t447))) else (none)) else (none))) else (toponymlaw11_BlanksPiecewise.j2 kj27 t430 t436 true))))))) else (none))) else (none))) else (none))) else (none))) else (none)) = some r := by first | (rw [hy412]; with_reducible exact H) | (have H2_ := (Option.bind_some _ _).symm.trans H; rw [hy412]; with_reducible exact H2_) | (have H2_ := (Option.bind_some _ _).symm.trans H; with_reducible exact H2_) | with_reducible exact H | (rw [hy412]; exact H) | exact H
              have Ny412 := Aside0.mk hy412
              clear hy412
              by_cases c46 : y412.length + l0.length < 35184372088832
              · rw [if_pos c46] at H
                have LMc46 := Aside0.mk c46
                clear c46
                obtain ⟨y415, hy415⟩ : ∃ y_ : List Int, y_ = (y412 ++ l0) := ⟨_, rfl⟩
                replace H : (if y415.length < 35184372088832 then ((some (y415 ++ [32] : List Int)).bind fun y418 => (if y418.length + l1.length < 35184372088832 then ((some (y418 ++ l1 : List Int)).bind fun y421 => (if y421.length < 35184372088832 then ((some (y421 ++ [32] : List Int)).bind fun y424 => (if y424.length + l2.length < 35184372088832 then ((blanks_Value.f kj27 (y424 ++ l2)).bind fun t430 => ((blanks_Piece.f kj27 1 l0).bind fun t433 => ((blanks_Piece.f kj27 2 l1).bind fun t436 => ((blanks_Piece.f kj27 3 l2).bind fun t439 => ((toponymlaw11_starts.f kj27 t430 t433).bind fun t442 => (if t442 = true then (if (t439.length : Int) > (t430.length : Int) then (toponymlaw11_BlanksPiecewise.j2 kj27 t430 t436 true) else (if 0 ≤ (wrap64 ((t430.length : Int) - (t439.length : Int))) then (if (wrap64 ((t430.length : Int) - (t439.length : Int))) ≤ (t430.length : Int) then ((toponymref01_Same.f kj27 (t430.drop ((wrap64 ((t430.length : Int) - (t439.length : Int))) : Int).toNat) t439).bind fun t447 => (toponymlaw11_BlanksPiecewise.j2 kj27 t430 t436 (!t447))) else (none)) else (none))) else (toponymlaw11_BlanksPiecewise.j2 kj27 t430 t436 true))))))) else (none))) else (none))) else (none))) else (none)) = some r := by first | (rw [hy415]; with_reducible exact H) | (have H2_ := (Option.bind_some _ _).symm.trans H; rw [hy415]; with_reducible exact H2_) | (have H2_ := (Option.bind_some _ _).symm.trans H; with_reducible exact H2_) | with_reducible exact H | (rw [hy415]; exact H) | exact H
                have Ny415 := Aside0.mk hy415
                clear hy415
                by_cases c47 : y415.length < 35184372088832
                · rw [if_pos c47] at H
                  have LMc47 := Aside0.mk c47
                  clear c47
                  obtain ⟨y418, hy418⟩ : ∃ y_ : List Int, y_ = (y415 ++ [32]) := ⟨_, rfl⟩
                  replace H : (if y418.length + l1.length < 35184372088832 then ((some (y418 ++ l1 : List Int)).bind fun y421 => (if y421.length < 35184372088832 then ((some (y421 ++ [32] : List Int)).bind fun y424 => (if y424.length + l2.length < 35184372088832 then ((blanks_Value.f kj27 (y424 ++ l2)).bind fun t430 => ((blanks_Piece.f kj27 1 l0).bind fun t433 => ((blanks_Piece.f kj27 2 l1).bind fun t436 => ((blanks_Piece.f kj27 3 l2).bind fun t439 => ((toponymlaw11_starts.f kj27 t430 t433).bind fun t442 => (if t442 = true then (if (t439.length : Int) > (t430.length : Int) then (toponymlaw11_BlanksPiecewise.j2 kj27 t430 t436 true) else (if 0 ≤ (wrap64 ((t430.length : Int) - (t439.length : Int))) then (if (wrap64 ((t430.length : Int) - (t439.length : Int))) ≤ (t430.length : Int) then ((toponymref01_Same.f kj27 (t430.drop ((wrap64 ((t430.length : Int) - (t439.length : Int))) : Int).toNat) t439).bind fun t447 => (toponymlaw11_BlanksPiecewise.j2 kj27 t430 t436 (!t447))) else (none)) else (none))) else (toponymlaw11_BlanksPiecewise.j2 kj27 t430 t436 true))))))) else (none))) else (none))) else (none)) = some r := by first | (rw [hy418]; with_reducible exact H) | (have H2_ := (Option.bind_some _ _).symm.trans H; rw [hy418]; with_reducible exact H2_) | (have H2_ := (Option.bind_some _ _).symm.trans H; with_reducible exact H2_) | with_reducible exact H | (rw [hy418]; exact H) | exact H
                  have Ny418 := Aside0.mk hy418
                  clear hy418
                  by_cases c48 : y418.length + l1.length < 35184372088832
                  · rw [if_pos c48] at H
                    have LMc48 := Aside0.mk c48
                    clear c48
                    obtain ⟨y421, hy421⟩ : ∃ y_ : List Int, y_ = (y418 ++ l1) := ⟨_, rfl⟩
                    replace H : (if y421.length < 35184372088832 then ((some (y421 ++ [32] : List Int)).bind fun y424 => (if y424.length + l2.length < 35184372088832 then ((blanks_Value.f kj27 (y424 ++ l2)).bind fun t430 => ((blanks_Piece.f kj27 1 l0).bind fun t433 => ((blanks_Piece.f kj27 2 l1).bind fun t436 => ((blanks_Piece.f kj27 3 l2).bind fun t439 => ((toponymlaw11_starts.f kj27 t430 t433).bind fun t442 => (if t442 = true then (if (t439.length : Int) > (t430.length : Int) then (toponymlaw11_BlanksPiecewise.j2 kj27 t430 t436 true) else (if 0 ≤ (wrap64 ((t430.length : Int) - (t439.length : Int))) then (if (wrap64 ((t430.length : Int) - (t439.length : Int))) ≤ (t430.length : Int) then ((toponymref01_Same.f kj27 (t430.drop ((wrap64 ((t430.length : Int) - (t439.length : Int))) : Int).toNat) t439).bind fun t447 => (toponymlaw11_BlanksPiecewise.j2 kj27 t430 t436 (!t447))) else (none)) else (none))) else (toponymlaw11_BlanksPiecewise.j2 kj27 t430 t436 true))))))) else (none))) else (none)) = some r := by first | (rw [hy421]; with_reducible exact H) | (have H2_ := (Option.bind_some _ _).symm.trans H; rw [hy421]; with_reducible exact H2_) | (have H2_ := (Option.bind_some _ _).symm.trans H; with_reducible exact H2_) | with_reducible exact H | (rw [hy421]; exact H) | exact H
                    have Ny421 := Aside0.mk hy421
                    clear hy421
                    by_cases c49 : y421.length < 35184372088832
                    · rw [if_pos c49] at H
                      have LMc49 := Aside0.mk c49
                      clear c49
                      obtain ⟨y424, hy424⟩ : ∃ y_ : List Int, y_ = (y421 ++ [32]) := ⟨_, rfl⟩
                      replace H : (if y424.length + l2.length < 35184372088832 then ((blanks_Value.f kj27 (y424 ++ l2)).bind fun t430 => ((blanks_Piece.f kj27 1 l0).bind fun t433 => ((blanks_Piece.f kj27 2 l1).bind fun t436 => ((blanks_Piece.f kj27 3 l2).bind fun t439 => ((toponymlaw11_starts.f kj27 t430 t433).bind fun t442 => (if t442 = true then (if (t439.length : Int) > (t430.length : Int) then (toponymlaw11_BlanksPiecewise.j2 kj27 t430 t436 true) else (if 0 ≤ (wrap64 ((t430.length : Int) - (t439.length : Int))) then (if (wrap64 ((t430.length : Int) - (t439.length : Int))) ≤ (t430.length : Int) then ((toponymref01_Same.f kj27 (t430.drop ((wrap64 ((t430.length : Int) - (t439.length : Int))) : Int).toNat) t439).bind fun t447 => (toponymlaw11_BlanksPiecewise.j2 kj27 t430 t436 (!t447))) else (none)) else (none))) else (toponymlaw11_BlanksPiecewise.j2 kj27 t430 t436 true))))))) else (none)) = some r := by first | (rw [hy424]; with_reducible exact H) | (have H2_ := (Option.bind_some _ _).symm.trans H; rw [hy424]; with_reducible exact H2_) | (have H2_ := (Option.bind_some _ _).symm.trans H; with_reducible exact H2_) | with_reducible exact H | (rw [hy424]; exact H) | exact H
                      have Ny424 := Aside0.mk hy424
                      clear hy424
                      by_cases c50 : y424.length + l2.length < 35184372088832
                      · rw [if_pos c50] at H
                        have LMc50 := Aside0.mk c50
                        clear c50
                        obtain ⟨y427, hy427⟩ : ∃ y_ : List Int, y_ = (y424 ++ l2) := ⟨_, rfl⟩
                        replace H : ((blanks_Value.f kj27 y427).bind fun t430 => ((blanks_Piece.f kj27 1 l0).bind fun t433 => ((blanks_Piece.f kj27 2 l1).bind fun t436 => ((blanks_Piece.f kj27 3 l2).bind fun t439 => ((toponymlaw11_starts.f kj27 t430 t433).bind fun t442 => (if t442 = true then (if (t439.length : Int) > (t430.length : Int) then (toponymlaw11_BlanksPiecewise.j2 kj27 t430 t436 true) else (if 0 ≤ (wrap64 ((t430.length : Int) - (t439.length : Int))) then (if (wrap64 ((t430.length : Int) - (t439.length : Int))) ≤ (t430.length : Int) then ((toponymref01_Same.f kj27 (t430.drop ((wrap64 ((t430.length : Int) - (t439.length : Int))) : Int).toNat) t439).bind fun t447 => (toponymlaw11_BlanksPiecewise.j2 kj27 t430 t436 (!t447))) else (none)) else (none))) else (toponymlaw11_BlanksPiecewise.j2 kj27 t430 t436 true))))))) = some r := by first | (rw [hy427]; with_reducible exact H) | (have H2_ := (Option.bind_some _ _).symm.trans H; rw [hy427]; with_reducible exact H2_) | (have H2_ := (Option.bind_some _ _).symm.trans H; with_reducible exact H2_) | with_reducible exact H | (rw [hy427]; exact H) | exact H
                        have Ny427 := Aside0.mk hy427
                        clear hy427
                        replace H := Option.bind_eq_some_iff.mp H
                        obtain ⟨t430, A510, H⟩ := H
                        replace H : ((blanks_Piece.f kj27 1 l0).bind fun t433 => ((blanks_Piece.f kj27 2 l1).bind fun t436 => ((blanks_Piece.f kj27 3 l2).bind fun t439 => ((toponymlaw11_starts.f kj27 t430 t433).bind fun t442 => (if t442 = true then (if (t439.length : Int) > (t430.length : Int) then (toponymlaw11_BlanksPiecewise.j2 kj27 t430 t436 true) else (if 0 ≤ (wrap64 ((t430.length : Int) - (t439.length : Int))) then (if (wrap64 ((t430.length : Int) - (t439.length : Int))) ≤ (t430.length : Int) then ((toponymref01_Same.f kj27 (t430.drop ((wrap64 ((t430.length : Int) - (t439.length : Int))) : Int).toNat) t439).bind fun t447 => (toponymlaw11_BlanksPiecewise.j2 kj27 t430 t436 (!t447))) else (none)) else (none))) else (toponymlaw11_BlanksPiecewise.j2 kj27 t430 t436 true)))))) = some r := H
                        have A51 := Aside0.mk A510
                        clear A510
                        replace H := Option.bind_eq_some_iff.mp H
                        obtain ⟨t433, A520, H⟩ := H
                        replace H : ((blanks_Piece.f kj27 2 l1).bind fun t436 => ((blanks_Piece.f kj27 3 l2).bind fun t439 => ((toponymlaw11_starts.f kj27 t430 t433).bind fun t442 => (if t442 = true then (if (t439.length : Int) > (t430.length : Int) then (toponymlaw11_BlanksPiecewise.j2 kj27 t430 t436 true) else (if 0 ≤ (wrap64 ((t430.length : Int) - (t439.length : Int))) then (if (wrap64 ((t430.length : Int) - (t439.length : Int))) ≤ (t430.length : Int) then ((toponymref01_Same.f kj27 (t430.drop ((wrap64 ((t430.length : Int) - (t439.length : Int))) : Int).toNat) t439).bind fun t447 => (toponymlaw11_BlanksPiecewise.j2 kj27 t430 t436 (!t447))) else (none)) else (none))) else (toponymlaw11_BlanksPiecewise.j2 kj27 t430 t436 true))))) = some r := H
                        have A52 := Aside0.mk A520
                        clear A520
                        replace H := Option.bind_eq_some_iff.mp H
                        obtain ⟨t436, A530, H⟩ := H
                        replace H : ((blanks_Piece.f kj27 3 l2).bind fun t439 => ((toponymlaw11_starts.f kj27 t430 t433).bind fun t442 => (if t442 = true then (if (t439.length : Int) > (t430.length : Int) then (toponymlaw11_BlanksPiecewise.j2 kj27 t430 t436 true) else (if 0 ≤ (wrap64 ((t430.length : Int) - (t439.length : Int))) then (if (wrap64 ((t430.length : Int) - (t439.length : Int))) ≤ (t430.length : Int) then ((toponymref01_Same.f kj27 (t430.drop ((wrap64 ((t430.length : Int) - (t439.length : Int))) : Int).toNat) t439).bind fun t447 => (toponymlaw11_BlanksPiecewise.j2 kj27 t430 t436 (!t447))) else (none)) else (none))) else (toponymlaw11_BlanksPiecewise.j2 kj27 t430 t436 true)))) = some r := H
                        have A53 := Aside0.mk A530
                        clear A530
                        replace H := Option.bind_eq_some_iff.mp H
                        obtain ⟨t439, A540, H⟩ := H
                        replace H : ((toponymlaw11_starts.f kj27 t430 t433).bind fun t442 => (if t442 = true then (if (t439.length : Int) > (t430.length : Int) then (toponymlaw11_BlanksPiecewise.j2 kj27 t430 t436 true) else (if 0 ≤ (wrap64 ((t430.length : Int) - (t439.length : Int))) then (if (wrap64 ((t430.length : Int) - (t439.length : Int))) ≤ (t430.length : Int) then ((toponymref01_Same.f kj27 (t430.drop ((wrap64 ((t430.length : Int) - (t439.length : Int))) : Int).toNat) t439).bind fun t447 => (toponymlaw11_BlanksPiecewise.j2 kj27 t430 t436 (!t447))) else (none)) else (none))) else (toponymlaw11_BlanksPiecewise.j2 kj27 t430 t436 true))) = some r := H
                        have A54 := Aside0.mk A540
                        clear A540
                        have HC55 := Aside0.mk H
                        clear H
                        go_upto_region 8 with (first | ((with_reducible refine gate_dst (N := 58) rfl ?_); (try (refine gate_guard (by rfl) ?_; dsimp only)); refine Kd.R_lit (Kd.int .i32) _ 21 ?hg (N := 58) ?hd (xs := ([] : List Int)) (inner := []) (ok := fun _ => True) (okp := fun _ => True) ?hr ?hp (fun _ hk => hk) trivial (Below.refl _ _) (Nat.le_refl _) (by simp) ?_; (case hd => rfl); (case hg => rfl); (case hr => first | (go_simp; done) | (go_simp; rfl)); (case hp => exact (Reps.none _ _)); intro v413 w56 ho57 hb hg_ hnew_; clear hg_ hnew_; (first | rw [← Ny412.out] at ho57 | (simp only [Int.reduceToNat] at ho57; rw [← Ny412.out] at ho57)); have n0_ := Aside0.mk (Kd.R_lower ho57 (below_size (by repeat (first | (with_reducible first | exact HB.out | apply below_alloc | apply pw_below_drewN | apply below_drew1) | exact HB.out)))); have n1_ := Aside0.mk (below_step (by repeat (first | (with_reducible first | exact HB.out | apply below_alloc | apply pw_below_drewN | apply below_drew1) | exact HB.out)) hb); clear HB; have HO414 := n0_; have HB := n1_; clear n0_ n1_; clear hb ho57) | ((with_reducible refine gate_builtin (b := .append) (xs := #[.tmp 58, .tmp 59]) rfl ?_); (try (refine gate_guard (by rfl) ?_; dsimp only)); at_builtin; refine Kd.R_append_rows (Kd.int .i32) (w0 := w) w.heap.size rfl (.tmp 58) (.tmp 59) 22 21 (.int .i32 0) 4 rfl Try.underlying22 info21 rfl (by decide) (by omega) v413 y412 l0 _ _ _ (fun _ => True) (fun _ => False) rfl rfl ?aO ?aR (fun _ _ h => h) (fun _ h => h.elim) ?aF ?aB ?aS ?aL ?_; (case aR => repeat (first | exact (Kd.C_below HR0.out HB.out) | (with_reducible refine Kd.C_alloc ?_ _) | (with_reducible refine Kd.C_drewN ?_ _) | (with_reducible refine Kd.C_drew ?_))); (case aB => exact (by repeat (first | (with_reducible first | exact HB.out | apply below_alloc | apply pw_below_drewN | apply below_drew1) | exact HB.out))); (case aF => exact (fun _ _ => trivial)); (case aO => exact (by (with_reducible repeat (first | apply Kd.R_alloc | apply Kd.R_drewN | apply Kd.R_drew)); exact HO414.out)); (case aS => exact (below_size (by repeat (first | (with_reducible first | exact HB.out | apply below_alloc | apply pw_below_drewN | apply below_drew1) | exact HB.out)))); (case aL => have := LMc46.out; omega); intro v416 w58 ho hb hg hat; rw [← Ny415.out] at ho; have n0_ := Aside0.mk (hb); have n1_ := Aside0.mk (ho); clear HB; clear HO414; have HB := n0_; have HO417 := n1_; clear n0_ n1_; clear ho hb hg hat) | ((with_reducible refine gate_builtin (b := .append) (xs := #[.tmp 60, .tmp 61]) rfl ?_); (try (refine gate_guard (by rfl) ?_; dsimp only)); at_builtin; refine Kd.R_append (Kd.int .i32) (w0 := w) w.heap.size rfl (.tmp 60) (.tmp 61) 22 21 (.int .i32 0) 4 rfl Try.underlying22 info21 rfl (by decide) (by omega) v416 y415 32 [.int .i32 32] (fun _ => True) (fun _ => False) rfl rfl ?aP (fun _ hk => hk.elim) ?aF ?aO ?aB ?aS ?aL ?_; (case aP => exact rfl); (case aB => exact (by repeat (first | (with_reducible first | exact HB.out | apply below_alloc | apply pw_below_drewN | apply below_drew1) | exact HB.out))); (case aF => exact (fun _ _ => trivial)); (case aO => exact (by (with_reducible repeat (first | apply Kd.R_alloc | apply Kd.R_drewN | apply Kd.R_drew)); exact HO417.out)); (case aS => exact (below_size (by repeat (first | (with_reducible first | exact HB.out | apply below_alloc | apply pw_below_drewN | apply below_drew1) | exact HB.out)))); (case aL => have := LMc47.out; omega); intro v419 w59 ho hb hg hat; rw [← Ny418.out] at ho; have n0_ := Aside0.mk (hb); have n1_ := Aside0.mk (ho); clear HB; clear HO417; have HB := n0_; have HO420 := n1_; clear n0_ n1_; clear ho hb hg hat) | ((with_reducible refine gate_builtin (b := .append) (xs := #[.tmp 62, .tmp 63]) rfl ?_); (try (refine gate_guard (by rfl) ?_; dsimp only)); at_builtin; refine Kd.R_append_rows (Kd.int .i32) (w0 := w) w.heap.size rfl (.tmp 62) (.tmp 63) 22 21 (.int .i32 0) 4 rfl Try.underlying22 info21 rfl (by decide) (by omega) v419 y418 l1 _ _ _ (fun _ => True) (fun _ => False) rfl rfl ?aO ?aR (fun _ _ h => h) (fun _ h => h.elim) ?aF ?aB ?aS ?aL ?_; (case aR => repeat (first | exact (Kd.C_below HR1.out HB.out) | (with_reducible refine Kd.C_alloc ?_ _) | (with_reducible refine Kd.C_drewN ?_ _) | (with_reducible refine Kd.C_drew ?_))); (case aB => exact (by repeat (first | (with_reducible first | exact HB.out | apply below_alloc | apply pw_below_drewN | apply below_drew1) | exact HB.out))); (case aF => exact (fun _ _ => trivial)); (case aO => exact (by (with_reducible repeat (first | apply Kd.R_alloc | apply Kd.R_drewN | apply Kd.R_drew)); exact HO420.out)); (case aS => exact (below_size (by repeat (first | (with_reducible first | exact HB.out | apply below_alloc | apply pw_below_drewN | apply below_drew1) | exact HB.out)))); (case aL => have := LMc48.out; omega); intro v422 w60 ho hb hg hat; rw [← Ny421.out] at ho; have n0_ := Aside0.mk (hb); have n1_ := Aside0.mk (ho); clear HB; clear HO420; have HB := n0_; have HO423 := n1_; clear n0_ n1_; clear ho hb hg hat) | ((with_reducible refine gate_builtin (b := .append) (xs := #[.tmp 64, .tmp 65]) rfl ?_); (try (refine gate_guard (by rfl) ?_; dsimp only)); at_builtin; refine Kd.R_append (Kd.int .i32) (w0 := w) w.heap.size rfl (.tmp 64) (.tmp 65) 22 21 (.int .i32 0) 4 rfl Try.underlying22 info21 rfl (by decide) (by omega) v422 y421 32 [.int .i32 32] (fun _ => True) (fun _ => False) rfl rfl ?aP (fun _ hk => hk.elim) ?aF ?aO ?aB ?aS ?aL ?_; (case aP => exact rfl); (case aB => exact (by repeat (first | (with_reducible first | exact HB.out | apply below_alloc | apply pw_below_drewN | apply below_drew1) | exact HB.out))); (case aF => exact (fun _ _ => trivial)); (case aO => exact (by (with_reducible repeat (first | apply Kd.R_alloc | apply Kd.R_drewN | apply Kd.R_drew)); exact HO423.out)); (case aS => exact (below_size (by repeat (first | (with_reducible first | exact HB.out | apply below_alloc | apply pw_below_drewN | apply below_drew1) | exact HB.out)))); (case aL => have := LMc49.out; omega); intro v425 w61 ho hb hg hat; rw [← Ny424.out] at ho; have n0_ := Aside0.mk (hb); have n1_ := Aside0.mk (ho); clear HB; clear HO423; have HB := n0_; have HO426 := n1_; clear n0_ n1_; clear ho hb hg hat) | ((with_reducible refine gate_builtin (b := .append) (xs := #[.tmp 66, .tmp 67]) rfl ?_); (try (refine gate_guard (by rfl) ?_; dsimp only)); at_builtin; refine Kd.R_append_rows (Kd.int .i32) (w0 := w) w.heap.size rfl (.tmp 66) (.tmp 67) 22 21 (.int .i32 0) 4 rfl Try.underlying22 info21 rfl (by decide) (by omega) v425 y424 l2 _ _ _ (fun _ => True) (fun _ => False) rfl rfl ?aO ?aR (fun _ _ h => h) (fun _ h => h.elim) ?aF ?aB ?aS ?aL ?_; (case aR => repeat (first | exact (Kd.C_below HR2.out HB.out) | (with_reducible refine Kd.C_alloc ?_ _) | (with_reducible refine Kd.C_drewN ?_ _) | (with_reducible refine Kd.C_drew ?_))); (case aB => exact (by repeat (first | (with_reducible first | exact HB.out | apply below_alloc | apply pw_below_drewN | apply below_drew1) | exact HB.out))); (case aF => exact (fun _ _ => trivial)); (case aO => exact (by (with_reducible repeat (first | apply Kd.R_alloc | apply Kd.R_drewN | apply Kd.R_drew)); exact HO426.out)); (case aS => exact (below_size (by repeat (first | (with_reducible first | exact HB.out | apply below_alloc | apply pw_below_drewN | apply below_drew1) | exact HB.out)))); (case aL => have := LMc50.out; omega); intro v428 w62 ho hb hg hat; rw [← Ny427.out] at ho; have n0_ := Aside0.mk (hb); have n1_ := Aside0.mk (ho); clear HB; clear HO426; have HB := n0_; have HO429 := n1_; clear n0_ n1_; clear ho hb hg hat; obtain ⟨Ao63, co63, eo63⟩ := Kd.R_slice HO429.out; subst eo63) | ((with_reducible refine gate_callee (f := 18) rfl ?_); refine goesL_ (some 70) rfl rfl Try.func18 (by kernel_rfl) rfl #[.slice Ao63 y427.length co63] rfl (by (try simp only [List.map_toArray, List.map_cons, List.map_nil]); first | done | rfl | (simp only [List.length_drop, List.length_take]; rfl)) ?_; (with_reducible refine (blanks_Value.calls kj27 _ _ y427 t430 _ ?side1 ?side2 A51.out).mono ?_); (case side1 => repeat (first | exact (Kd.R_reads' HO429.out).2.2 | (with_reducible refine Kd.C_alloc ?_ _) | (with_reducible refine Kd.C_drewN ?_ _) | (with_reducible refine Kd.C_drew ?_))); (case side2 => exact (Kd.R_reads' HO429.out).2.1); rintro e w64 ⟨v431, rfl, ho0, hb⟩; refine ⟨_, rfl, ?_⟩; have n0_ := Aside0.mk (Kd.R_elder' (by (with_reducible repeat (first | apply Kd.R_alloc | apply Kd.R_drewN | apply Kd.R_drew)); exact HO429.out) (Kd.R_base ho0) hb); have n1_ := Aside0.mk (Kd.R_lower (Kd.R_new' ho0 (Kd.R_lt (by (with_reducible repeat (first | apply Kd.R_alloc | apply Kd.R_drewN | apply Kd.R_drew)); exact HO429.out))) (below_size (by repeat (first | (with_reducible first | exact HB.out | apply below_alloc | apply pw_below_drewN | apply below_drew1) | exact HB.out)))); have n2_ := Aside0.mk (below_step (by repeat (first | (with_reducible first | exact HB.out | apply below_alloc | apply pw_below_drewN | apply below_drew1) | exact HB.out)) hb); clear HO429; clear HB; have HO429 := n0_; have HO432 := n1_; have HB := n2_; clear n0_ n1_ n2_; (try clear hb); (try clear hb2); (try clear hk); (try clear hi); (try clear ho0)) | ((with_reducible refine gate_callee (f := 10) rfl ?_); refine goesL_ (some 72) rfl rfl Try.func10 (by kernel_rfl) rfl #[.int .i64 1, .slice A0 l0.length c0] rfl (by (try simp only [List.map_toArray, List.map_cons, List.map_nil]); first | done | rfl | (simp only [List.length_drop, List.length_take]; rfl)) ?_; (with_reducible refine (blanks_Piece.calls kj27 1 (fun k_ => k_ < w.heap.size) _ _ l0 t433 _ ?side1 A52.out).mono ?_); (case side1 => exact Kd.V_mk HC0.out (Kd.F_below (Kd.C_F (Kd.heap_int .i32) HR0.out) (by repeat (first | (with_reducible first | exact HB.out | apply below_alloc | apply pw_below_drewN | apply below_drew1) | exact HB.out)))); rintro e w65 ⟨v434, rfl, ho0, hb⟩; (try clear A52); refine ⟨_, rfl, ?_⟩; have n0_ := Aside0.mk (Kd.R_elder' (by (with_reducible repeat (first | apply Kd.R_alloc | apply Kd.R_drewN | apply Kd.R_drew)); exact HO429.out) (Kd.R_base ho0) hb); have n1_ := Aside0.mk (Kd.R_elder' (by (with_reducible repeat (first | apply Kd.R_alloc | apply Kd.R_drewN | apply Kd.R_drew)); exact HO432.out) (Kd.R_base ho0) hb); have n2_ := Aside0.mk (Kd.R_lower (Kd.R_new' (Kd.R_new' (Kd.R_mono (ok' := fun k_ => True) ho0 (fun _ hk_ => trivial)) (Kd.R_lt (by (with_reducible repeat (first | apply Kd.R_alloc | apply Kd.R_drewN | apply Kd.R_drew)); exact HO429.out))) (Kd.R_lt (by (with_reducible repeat (first | apply Kd.R_alloc | apply Kd.R_drewN | apply Kd.R_drew)); exact HO432.out))) (below_size (by repeat (first | (with_reducible first | exact HB.out | apply below_alloc | apply pw_below_drewN | apply below_drew1) | exact HB.out)))); have n3_ := Aside0.mk (below_step (by repeat (first | (with_reducible first | exact HB.out | apply below_alloc | apply pw_below_drewN | apply below_drew1) | exact HB.out)) hb); clear HO429; clear HO432; clear HB; have HO429 := n0_; have HO432 := n1_; have HO435 := n2_; have HB := n3_; clear n0_ n1_ n2_ n3_; (try clear hb); (try clear hb2); (try clear hk); (try clear hi); (try clear ho0)) | ((with_reducible refine gate_callee (f := 10) rfl ?_); refine goesL_ (some 74) rfl rfl Try.func10 (by kernel_rfl) rfl #[.int .i64 2, .slice A1 l1.length c1] rfl (by (try simp only [List.map_toArray, List.map_cons, List.map_nil]); first | done | rfl | (simp only [List.length_drop, List.length_take]; rfl)) ?_; (with_reducible refine (blanks_Piece.calls kj27 2 (fun k_ => k_ < w.heap.size) _ _ l1 t436 _ ?side1 A53.out).mono ?_); (case side1 => exact Kd.V_mk HC1.out (Kd.F_below (Kd.C_F (Kd.heap_int .i32) HR1.out) (by repeat (first | (with_reducible first | exact HB.out | apply below_alloc | apply pw_below_drewN | apply below_drew1) | exact HB.out)))); rintro e w66 ⟨v437, rfl, ho0, hb⟩; (try clear A53); refine ⟨_, rfl, ?_⟩; have n0_ := Aside0.mk (Kd.R_elder' (by (with_reducible repeat (first | apply Kd.R_alloc | apply Kd.R_drewN | apply Kd.R_drew)); exact HO429.out) (Kd.R_base ho0) hb); have n1_ := Aside0.mk (Kd.R_elder' (by (with_reducible repeat (first | apply Kd.R_alloc | apply Kd.R_drewN | apply Kd.R_drew)); exact HO432.out) (Kd.R_base ho0) hb); have n2_ := Aside0.mk (Kd.R_elder' (by (with_reducible repeat (first | apply Kd.R_alloc | apply Kd.R_drewN | apply Kd.R_drew)); exact HO435.out) (Kd.R_base ho0) hb); have n3_ := Aside0.mk (Kd.R_lower (Kd.R_new' (Kd.R_new' (Kd.R_new' (Kd.R_mono (ok' := fun k_ => True) ho0 (fun _ hk_ => trivial)) (Kd.R_lt (by (with_reducible repeat (first | apply Kd.R_alloc | apply Kd.R_drewN | apply Kd.R_drew)); exact HO429.out))) (Kd.R_lt (by (with_reducible repeat (first | apply Kd.R_alloc | apply Kd.R_drewN | apply Kd.R_drew)); exact HO432.out))) (Kd.R_lt (by (with_reducible repeat (first | apply Kd.R_alloc | apply Kd.R_drewN | apply Kd.R_drew)); exact HO435.out))) (below_size (by repeat (first | (with_reducible first | exact HB.out | apply below_alloc | apply pw_below_drewN | apply below_drew1) | exact HB.out)))); have n4_ := Aside0.mk (below_step (by repeat (first | (with_reducible first | exact HB.out | apply below_alloc | apply pw_below_drewN | apply below_drew1) | exact HB.out)) hb); clear HO429; clear HO432; clear HO435; clear HB; have HO429 := n0_; have HO432 := n1_; have HO435 := n2_; have HO438 := n3_; have HB := n4_; clear n0_ n1_ n2_ n3_ n4_; (try clear hb); (try clear hb2); (try clear hk); (try clear hi); (try clear ho0)) | ((with_reducible refine gate_callee (f := 10) rfl ?_); refine goesL_ (some 76) rfl rfl Try.func10 (by kernel_rfl) rfl #[.int .i64 3, .slice A2 l2.length c2] rfl (by (try simp only [List.map_toArray, List.map_cons, List.map_nil]); first | done | rfl | (simp only [List.length_drop, List.length_take]; rfl)) ?_; (with_reducible refine (blanks_Piece.calls kj27 3 (fun k_ => k_ < w.heap.size) _ _ l2 t439 _ ?side1 A54.out).mono ?_); (case side1 => exact Kd.V_mk HC2.out (Kd.F_below (Kd.C_F (Kd.heap_int .i32) HR2.out) (by repeat (first | (with_reducible first | exact HB.out | apply below_alloc | apply pw_below_drewN | apply below_drew1) | exact HB.out)))); rintro e w67 ⟨v440, rfl, ho0, hb⟩; (try clear A54); refine ⟨_, rfl, ?_⟩; have n0_ := Aside0.mk (Kd.R_elder' (by (with_reducible repeat (first | apply Kd.R_alloc | apply Kd.R_drewN | apply Kd.R_drew)); exact HO429.out) (Kd.R_base ho0) hb); have n1_ := Aside0.mk (Kd.R_elder' (by (with_reducible repeat (first | apply Kd.R_alloc | apply Kd.R_drewN | apply Kd.R_drew)); exact HO432.out) (Kd.R_base ho0) hb); have n2_ := Aside0.mk (Kd.R_elder' (by (with_reducible repeat (first | apply Kd.R_alloc | apply Kd.R_drewN | apply Kd.R_drew)); exact HO435.out) (Kd.R_base ho0) hb); have n3_ := Aside0.mk (Kd.R_elder' (by (with_reducible repeat (first | apply Kd.R_alloc | apply Kd.R_drewN | apply Kd.R_drew)); exact HO438.out) (Kd.R_base ho0) hb); have n4_ := Aside0.mk (Kd.R_lower (Kd.R_new' (Kd.R_new' (Kd.R_new' (Kd.R_new' (Kd.R_mono (ok' := fun k_ => True) ho0 (fun _ hk_ => trivial)) (Kd.R_lt (by (with_reducible repeat (first | apply Kd.R_alloc | apply Kd.R_drewN | apply Kd.R_drew)); exact HO429.out))) (Kd.R_lt (by (with_reducible repeat (first | apply Kd.R_alloc | apply Kd.R_drewN | apply Kd.R_drew)); exact HO432.out))) (Kd.R_lt (by (with_reducible repeat (first | apply Kd.R_alloc | apply Kd.R_drewN | apply Kd.R_drew)); exact HO435.out))) (Kd.R_lt (by (with_reducible repeat (first | apply Kd.R_alloc | apply Kd.R_drewN | apply Kd.R_drew)); exact HO438.out))) (below_size (by repeat (first | (with_reducible first | exact HB.out | apply below_alloc | apply pw_below_drewN | apply below_drew1) | exact HB.out)))); have n5_ := Aside0.mk (below_step (by repeat (first | (with_reducible first | exact HB.out | apply below_alloc | apply pw_below_drewN | apply below_drew1) | exact HB.out)) hb); clear HO429; clear HO432; clear HO435; clear HO438; clear HB; have HO429 := n0_; have HO432 := n1_; have HO435 := n2_; have HO438 := n3_; have HO441 := n4_; have HB := n5_; clear n0_ n1_ n2_ n3_ n4_ n5_; (try clear hb); (try clear hb2); (try clear hk); (try clear hi); (try clear ho0)))
                        (try simp only [Act.put, List.setIfInBounds_toArray, List.set_cons_zero, List.set_cons_succ])
                        go_cut [99] (fun v99 wc => ∃ (kq : Nat) (x99_54 : Bool), v99 = .bool x99_54 ∧ Aside0 (toponymlaw11_BlanksPiecewise.j2 kq t430 t436 x99_54 = some r) ∧ Aside0 (kq ≤ kj27) ∧ Aside0 (Kd.R (Kd.int .i32) 21 wc w.heap.size (fun k_ => some k_ ≠ (v437 : Value).ownBlock) v431 t430) ∧ Aside0 (Kd.R (Kd.int .i32) 21 wc w.heap.size (fun k_ => some k_ ≠ (v431 : Value).ownBlock) v437 t436) ∧ Aside0 (Below w.heap.size w wc))
                        case first =>
                          have H := HC55.out
                          clear HC55
                          replace H := Option.bind_eq_some_iff.mp H
                          obtain ⟨t442, A680, H⟩ := H
                          replace H : (if t442 = true then (if (t439.length : Int) > (t430.length : Int) then (toponymlaw11_BlanksPiecewise.j2 kj27 t430 t436 true) else (if 0 ≤ (wrap64 ((t430.length : Int) - (t439.length : Int))) then (if (wrap64 ((t430.length : Int) - (t439.length : Int))) ≤ (t430.length : Int) then ((toponymref01_Same.f kj27 (t430.drop ((wrap64 ((t430.length : Int) - (t439.length : Int))) : Int).toNat) t439).bind fun t447 => (toponymlaw11_BlanksPiecewise.j2 kj27 t430 t436 (!t447))) else (none)) else (none))) else (toponymlaw11_BlanksPiecewise.j2 kj27 t430 t436 true)) = some r := H
                          have A68 := Aside0.mk A680
                          clear A680
                          by_cases c69 : t442 = true
                          · subst c69
                            have H1 : (if (t439.length : Int) > (t430.length : Int) then (toponymlaw11_BlanksPiecewise.j2 kj27 t430 t436 true) else (if 0 ≤ (wrap64 ((t430.length : Int) - (t439.length : Int))) then (if (wrap64 ((t430.length : Int) - (t439.length : Int))) ≤ (t430.length : Int) then ((toponymref01_Same.f kj27 (t430.drop ((wrap64 ((t430.length : Int) - (t439.length : Int))) : Int).toNat) t439).bind fun t447 => (toponymlaw11_BlanksPiecewise.j2 kj27 t430 t436 (!t447))) else (none)) else (none))) = some r := by rw [if_pos rfl] at H; exact H
                            clear H
                            have H := H1
                            clear H1
                            by_cases c70 : (t439.length : Int) > (t430.length : Int)
                            · rw [if_pos c70] at H
                              have c70b0 : decide ((t430.length : Int) < (t439.length : Int)) = true := decide_eq_true c70
                              have c70b1 : decide (t430.length < t439.length) = true := decide_eq_true (Int.ofNat_lt.mp c70)
                              clear c70
                              (first | rw [c70b0] | (simp only [i64_w, i32_w]; rw [c70b0]) | skip)
                              have H' := Aside0.mk H
                              clear H
                              obtain ⟨Ao71, co71, eo71⟩ := Kd.R_slice HO432.out
                              subst eo71
                              obtain ⟨Ao72, co72, eo72⟩ := Kd.R_slice HO435.out
                              subst eo72
                              go_wp2_with (first | ((with_reducible refine gate_callee (f := 19) rfl ?_); refine goesL_ (some 79) rfl rfl Try.func19 (by kernel_rfl) rfl #[.slice Ao71 t430.length co71, .slice Ao72 t433.length co72] rfl (by (try simp only [List.map_toArray, List.map_cons, List.map_nil]); first | done | rfl | (simp only [List.length_drop, List.length_take]; rfl)) ?_; (with_reducible refine (toponymlaw11_starts.calls kj27 _ _ t430 _ _ t433 true _ ?side1 ?side2 ?side3 ?side4 A68.out).mono ?_); (case side1 => repeat (first | exact (Kd.R_reads' HO432.out).2.2 | (with_reducible refine Kd.C_alloc ?_ _) | (with_reducible refine Kd.C_drewN ?_ _) | (with_reducible refine Kd.C_drew ?_))); (case side2 => exact (Kd.R_reads' HO432.out).2.1); (case side3 => repeat (first | exact (Kd.R_reads' HO435.out).2.2 | (with_reducible refine Kd.C_alloc ?_ _) | (with_reducible refine Kd.C_drewN ?_ _) | (with_reducible refine Kd.C_drew ?_))); (case side4 => exact (Kd.R_reads' HO435.out).2.1); rintro e w' ⟨rfl, ⟨nd, rfl⟩⟩; (try clear A68); refine ⟨_, rfl, ?_⟩; obtain ⟨Ao73, co73, eo73⟩ := Kd.R_slice HO441.out; subst eo73))
                              go_meet
                              case rel => exact ⟨_, (true), (by first | rfl | (simp; done) | (simp [*]; done)), H', ⟨by have := HJ3.out; have := HJ27.out; first | omega | exact Nat.le_refl _⟩, ⟨by (with_reducible repeat (first | apply Kd.R_alloc | apply Kd.R_drewN | apply Kd.R_drew)); exact Kd.R_mono HO432.out (fun _ hk => hk.1.2)⟩, ⟨by (with_reducible repeat (first | apply Kd.R_alloc | apply Kd.R_drewN | apply Kd.R_drew)); exact Kd.R_mono HO438.out (fun _ hk => hk.1.1.2)⟩, ⟨by repeat (first | (with_reducible first | exact HB.out | apply below_alloc | apply pw_below_drewN | apply below_drew1) | exact HB.out)⟩⟩
                            · rw [if_neg c70] at H
                              have c70b0 : decide ((t430.length : Int) < (t439.length : Int)) = false := decide_eq_false c70
                              have c70b1 : decide (t430.length < t439.length) = false := decide_eq_false (fun h => c70 (Int.ofNat_lt.mpr h))
                              clear c70
                              (first | rw [c70b0] | (simp only [i64_w, i32_w]; rw [c70b0]) | skip)
                              obtain ⟨ji74, hji74⟩ : ∃ j_ : Int, (wrap64 ((t430.length : Int) - (t439.length : Int))) = j_ := ⟨_, rfl⟩
                              replace H : (if 0 ≤ (ji74) then (if (ji74) ≤ (t430.length : Int) then ((toponymref01_Same.f kj27 (t430.drop ((ji74) : Int).toNat) t439).bind fun t447 => (toponymlaw11_BlanksPiecewise.j2 kj27 t430 t436 (!t447))) else (none)) else (none)) = some r := by first | (rw [hji74] at H; exact H) | (simp only [hji74] at H ⊢; exact H)
                              (try rw [hji74] at A68)
                              have hji74w : (IntKind.i64.wrap ((t430.length : Int) - (t439.length : Int))) = ji74 := (i64_w _).trans hji74
                              by_cases c75 : 0 ≤ (ji74)
                              · rw [if_pos c75] at H
                                have c75b0 := eq_true c75
                                have c75b1 : decide (0 ≤ (ji74)) = true := decide_eq_true c75
                                clear c75
                                by_cases c76 : (ji74) ≤ (t430.length : Int)
                                · rw [if_pos c76] at H
                                  have c76b0 := eq_true c76
                                  have c76b1 : decide ((ji74) ≤ (t430.length : Int)) = true := decide_eq_true c76
                                  clear c76
                                  obtain ⟨y443, hy443⟩ : ∃ y_ : List Int, y_ = (t430.drop ((ji74) : Int).toNat) := ⟨_, rfl⟩
                                  replace H : ((toponymref01_Same.f kj27 y443 t439).bind fun t447 => (toponymlaw11_BlanksPiecewise.j2 kj27 t430 t436 (!t447))) = some r := by first | (rw [hy443]; with_reducible exact H) | (have H2_ := (Option.bind_some _ _).symm.trans H; rw [hy443]; with_reducible exact H2_) | (have H2_ := (Option.bind_some _ _).symm.trans H; with_reducible exact H2_) | with_reducible exact H | (rw [hy443]; exact H) | exact H
                                  have Ny443 := Aside0.mk hy443
                                  clear hy443
                                  replace H := Option.bind_eq_some_iff.mp H
                                  obtain ⟨t447, A770, H⟩ := H
                                  replace H : (toponymlaw11_BlanksPiecewise.j2 kj27 t430 t436 (!t447)) = some r := H
                                  have A77 := Aside0.mk A770
                                  clear A770
                                  have H' := Aside0.mk H
                                  clear H
                                  obtain ⟨Ao78, co78, eo78⟩ := Kd.R_slice HO432.out
                                  subst eo78
                                  obtain ⟨Ao79, co79, eo79⟩ := Kd.R_slice HO435.out
                                  subst eo79
                                  go_wp2_with (first | ((with_reducible refine gate_callee (f := 19) rfl ?_); refine goesL_ (some 79) rfl rfl Try.func19 (by kernel_rfl) rfl #[.slice Ao78 t430.length co78, .slice Ao79 t433.length co79] rfl (by (try simp only [List.map_toArray, List.map_cons, List.map_nil]); first | done | rfl | (simp only [List.length_drop, List.length_take]; rfl)) ?_; (with_reducible refine (toponymlaw11_starts.calls kj27 _ _ t430 _ _ t433 true _ ?side1 ?side2 ?side3 ?side4 A68.out).mono ?_); (case side1 => repeat (first | exact (Kd.R_reads' HO432.out).2.2 | (with_reducible refine Kd.C_alloc ?_ _) | (with_reducible refine Kd.C_drewN ?_ _) | (with_reducible refine Kd.C_drew ?_))); (case side2 => exact (Kd.R_reads' HO432.out).2.1); (case side3 => repeat (first | exact (Kd.R_reads' HO435.out).2.2 | (with_reducible refine Kd.C_alloc ?_ _) | (with_reducible refine Kd.C_drewN ?_ _) | (with_reducible refine Kd.C_drew ?_))); (case side4 => exact (Kd.R_reads' HO435.out).2.1); rintro e w' ⟨rfl, ⟨nd, rfl⟩⟩; (try clear A68); refine ⟨_, rfl, ?_⟩; obtain ⟨Ao80, co80, eo80⟩ := Kd.R_slice HO441.out; subst eo80; have q81 : ((ji74) : Int) ≤ ((t430.length : Int) : Int) := of_decide_eq_true (by first | (with_reducible assumption) | assumption); obtain ⟨i081, hi081, _, hsz81, _⟩ := info_parts info21; have hroom81 : t430.length ≤ co78 := (Kd.R_reads' HO432.out).2.1; have hC81 : Kd.C (Kd.int .i32) _ Ao78 t430.length t430 := (Kd.R_reads' HO432.out).2.2; have q081 : (0 : Int) ≤ ((ji74) : Int) := of_decide_eq_true (by first | (with_reducible assumption) | assumption); have hcut81 := cut_from (P := Try.prog) 22 21 .i64 Try.underlying22 hi081 1 hsz81 Ao78 t430.length co78 (ji74) q081 q81; have hr81 := Kd.C_drop (m := ((ji74) : Int).toNat) (c := co78) hC81 (by omega) hroom81; obtain ⟨A81, hA81⟩ : ∃ A1, A1 = (if co78 = ((ji74) : Int).toNat then Ao78 else (Ao78 : Option Addr).map (·.add (((ji74) : Int).toNat * 1))) := ⟨_, rfl⟩; obtain ⟨c81, hc81⟩ : ∃ c1, c1 = co78 - ((ji74) : Int).toNat := ⟨_, rfl⟩; have hy81 : y443.length = t430.length - ((ji74) : Int).toNat := (by rw [Ny443.out, List.length_drop] <;> omega); rw [show (t430).drop ((ji74) : Int).toNat = y443 from Ny443.out.symm] at hr81; replace hr81 : Kd.C (Kd.int .i32) _ A81 y443.length y443 := (by rw [hA81]; exact hr81); rw [← hy81, ← hA81, ← hc81] at hcut81; have HR446 := Aside0.mk hr81; have HC446 := Aside0.mk (show y443.length ≤ c81 from by rw [hy81, hc81]; exact Nat.sub_le_sub_right hroom81 _); clear hr81 hC81 hroom81 hi081 hsz81 hc81; have KY81 := Aside0.mk hy81; have KA81 := Aside0.mk hA81; clear hy81 hA81; have KL81 := Aside0.mk (show ((ji74) : Int).toNat ≤ t430.length from by omega); replace q81 := eq_true q81) | (go_at_call 9; (with_reducible refine (toponymref01_Same.calls kj27 _ _ y443 _ _ t439 t447 _ ?side1 ?side2 ?side3 ?side4 A77.out).mono ?_); (case side1 => repeat (first | exact (by repeat (first | (with_reducible exact HR446.out) | (with_reducible refine Kd.C_alloc ?_ _) | (with_reducible refine Kd.C_drewN ?_ _) | (with_reducible refine Kd.C_drew ?_) | exact HR446.out)) | (with_reducible refine Kd.C_alloc ?_ _) | (with_reducible refine Kd.C_drewN ?_ _) | (with_reducible refine Kd.C_drew ?_))); (case side2 => exact HC446.out); (case side3 => repeat (first | exact (Kd.R_reads' HO441.out).2.2 | (with_reducible refine Kd.C_alloc ?_ _) | (with_reducible refine Kd.C_drewN ?_ _) | (with_reducible refine Kd.C_drew ?_))); (case side4 => exact (Kd.R_reads' HO441.out).2.1); rintro e w' ⟨rfl, ⟨nd, rfl⟩⟩))
                                  go_meet
                                  case rel => exact ⟨_, (!t447), (by first | rfl | (simp; done) | (simp [*]; done)), H', ⟨by have := HJ3.out; have := HJ27.out; first | omega | exact Nat.le_refl _⟩, ⟨by (with_reducible repeat (first | apply Kd.R_alloc | apply Kd.R_drewN | apply Kd.R_drew)); exact Kd.R_mono HO432.out (fun _ hk => hk.1.2)⟩, ⟨by (with_reducible repeat (first | apply Kd.R_alloc | apply Kd.R_drewN | apply Kd.R_drew)); exact Kd.R_mono HO438.out (fun _ hk => hk.1.1.2)⟩, ⟨by repeat (first | (with_reducible first | exact HB.out | apply below_alloc | apply pw_below_drewN | apply below_drew1) | exact HB.out)⟩⟩
                                · rw [if_neg c76] at H
                                  exact absurd H (by simp)
                              · rw [if_neg c75] at H
                                exact absurd H (by simp)
                          · replace c69 := Bool.eq_false_iff.mpr c69
                            subst c69
                            have H1 : (toponymlaw11_BlanksPiecewise.j2 kj27 t430 t436 true) = some r := by rw [if_neg (show ¬ (false = true) by decide)] at H; exact H
                            clear H
                            have H := H1
                            clear H1
                            have H' := Aside0.mk H
                            clear H
                            obtain ⟨Ao82, co82, eo82⟩ := Kd.R_slice HO432.out
                            subst eo82
                            obtain ⟨Ao83, co83, eo83⟩ := Kd.R_slice HO435.out
                            subst eo83
                            go_wp2_with (first | ((with_reducible refine gate_callee (f := 19) rfl ?_); refine goesL_ (some 79) rfl rfl Try.func19 (by kernel_rfl) rfl #[.slice Ao82 t430.length co82, .slice Ao83 t433.length co83] rfl (by (try simp only [List.map_toArray, List.map_cons, List.map_nil]); first | done | rfl | (simp only [List.length_drop, List.length_take]; rfl)) ?_; (with_reducible refine (toponymlaw11_starts.calls kj27 _ _ t430 _ _ t433 false _ ?side1 ?side2 ?side3 ?side4 A68.out).mono ?_); (case side1 => repeat (first | exact (Kd.R_reads' HO432.out).2.2 | (with_reducible refine Kd.C_alloc ?_ _) | (with_reducible refine Kd.C_drewN ?_ _) | (with_reducible refine Kd.C_drew ?_))); (case side2 => exact (Kd.R_reads' HO432.out).2.1); (case side3 => repeat (first | exact (Kd.R_reads' HO435.out).2.2 | (with_reducible refine Kd.C_alloc ?_ _) | (with_reducible refine Kd.C_drewN ?_ _) | (with_reducible refine Kd.C_drew ?_))); (case side4 => exact (Kd.R_reads' HO435.out).2.1); rintro e w' ⟨rfl, ⟨nd, rfl⟩⟩; (try clear A68); refine ⟨_, rfl, ?_⟩))
                            go_meet
                            case rel => exact ⟨_, (true), (by first | rfl | (simp; done) | (simp [*]; done)), H', ⟨by have := HJ3.out; have := HJ27.out; first | omega | exact Nat.le_refl _⟩, ⟨by (with_reducible repeat (first | apply Kd.R_alloc | apply Kd.R_drewN | apply Kd.R_drew)); exact Kd.R_mono HO432.out (fun _ hk => hk.1.2)⟩, ⟨by (with_reducible repeat (first | apply Kd.R_alloc | apply Kd.R_drewN | apply Kd.R_drew)); exact Kd.R_mono HO438.out (fun _ hk => hk.1.1.2)⟩, ⟨by repeat (first | (with_reducible first | exact HB.out | apply below_alloc | apply pw_below_drewN | apply below_drew1) | exact HB.out)⟩⟩
                        case rest =>
                          clear HC55
                          try clear c1
                          try clear c2
                          try clear p2
                          try clear c3
                          try clear c4
                          try clear p4
                          try clear q4
                          try clear hx4
                          try clear qi4
                          try clear c5
                          try clear c5b0
                          try clear c5b1
                          try clear c6
                          try clear c6b0
                          try clear c6b1
                          try clear p6
                          try clear c7
                          try clear c7b0
                          try clear c7b1
                          try clear c8
                          try clear q8
                          try clear c9
                          try clear c9b0
                          try clear c9b1
                          try clear c9b2
                          try clear c10
                          try clear c13
                          try clear c13b0
                          try clear c13b1
                          try clear c13b2
                          try clear c17
                          try clear c18
                          try clear c19
                          try clear c25
                          try clear c29
                          try clear c29b0
                          try clear c29b1
                          try clear c31
                          try clear c35
                          try clear c35b0
                          try clear c35b1
                          try clear p40
                          try clear q40
                          try clear hx40
                          try clear qi40
                          try clear c43
                          try clear c46
                          try clear c47
                          try clear c48
                          try clear c49
                          try clear c50
                          try clear p64
                          try clear c69
                          try clear c70
                          try clear c70b0
                          try clear c70b1
                          try clear c75
                          try clear c75b0
                          try clear c75b1
                          try clear c76
                          try clear c76b0
                          try clear c76b1
                          try clear c81
                          try clear q81
                          try clear hx401_0
                          try clear hx406_0
                          try clear p2
                          try clear p4
                          try clear p40
                          try clear p401
                          try clear p406
                          try clear q081
                          try clear q4
                          try clear q40
                          try clear q401
                          try clear q406
                          try clear q81
                          obtain ⟨kq, x99_54, rfl, HA, HJ54, HO_8, HO_10, HB⟩ := hcut
                          cases kq with
                          | zero => exact absurd HA.out (by simp [toponymlaw11_BlanksPiecewise.j2])
                          | succ kj54 =>
                            have H := HA.out
                            clear HA
                            simp only [toponymlaw11_BlanksPiecewise.j2] at H
                            by_cases c84 : x99_54 = true
                            · subst c84
                              have H1 : (some false) = some r := by rw [if_pos rfl] at H; exact H
                              clear H
                              have H := H1
                              clear H1
                              obtain rfl := Option.some.inj H
                              go_wp2
                              go_ret
                              exact ⟨by first | rfl | (simp [errW_none, errW_some] <;> rfl) | (simp [*, errW_none, errW_some] <;> rfl), by repeat (first | (with_reducible first | exact HB.out | apply below_alloc | apply pw_below_drewN | apply below_drew1) | exact HB.out)⟩
                            · replace c84 := Bool.eq_false_iff.mpr c84
                              subst c84
                              have H1 : (toponymlaw11_BlanksPiecewise.l0 kj54 t430 t436 0) = some r := by rw [if_neg (show ¬ (false = true) by decide)] at H; exact H
                              clear H
                              have H := H1
                              clear H1
                              have H' := Aside0.mk H
                              clear H
                              go_wp2
                              go_loopg [12] kj54 (fun kq v12 w' => ∃ (x12_4 : Int), v12 = .int .i64 x12_4 ∧ Aside0 (toponymlaw11_BlanksPiecewise.l0 kq t430 t436 x12_4 = some r) ∧ Aside0 (kq ≤ kj54) ∧ Aside0 (Kd.R (Kd.int .i32) 21 w' w.heap.size (fun k_ => some k_ ≠ (v437 : Value).ownBlock) v431 t430) ∧ Aside0 (Kd.R (Kd.int .i32) 21 w' w.heap.size (fun k_ => some k_ ≠ (v431 : Value).ownBlock) v437 t436) ∧ Aside0 (Below w.heap.size w w'))
                              case atStart => exact ⟨(0), (by first | rfl | (simp; done) | (simp [*]; done)), H', ⟨Nat.le_refl _⟩, ⟨by (with_reducible repeat (first | apply Kd.R_alloc | apply Kd.R_drewN | apply Kd.R_drew)); exact HO_8.out⟩, ⟨by (with_reducible repeat (first | apply Kd.R_alloc | apply Kd.R_drewN | apply Kd.R_drew)); exact HO_10.out⟩, ⟨by repeat (first | (with_reducible first | exact HB.out | apply below_alloc | apply pw_below_drewN | apply below_drew1) | exact HB.out)⟩⟩
                              case round =>
                                clear H'
                                try clear c1
                                try clear c2
                                try clear p2
                                try clear c3
                                try clear c4
                                try clear p4
                                try clear q4
                                try clear hx4
                                try clear qi4
                                try clear c5
                                try clear c5b0
                                try clear c5b1
                                try clear c6
                                try clear c6b0
                                try clear c6b1
                                try clear p6
                                try clear c7
                                try clear c7b0
                                try clear c7b1
                                try clear c8
                                try clear q8
                                try clear c9
                                try clear c9b0
                                try clear c9b1
                                try clear c9b2
                                try clear c10
                                try clear c13
                                try clear c13b0
                                try clear c13b1
                                try clear c13b2
                                try clear c17
                                try clear c18
                                try clear c19
                                try clear c25
                                try clear c29
                                try clear c29b0
                                try clear c29b1
                                try clear c31
                                try clear c35
                                try clear c35b0
                                try clear c35b1
                                try clear p40
                                try clear q40
                                try clear hx40
                                try clear qi40
                                try clear c43
                                try clear c46
                                try clear c47
                                try clear c48
                                try clear c49
                                try clear c50
                                try clear p64
                                try clear c69
                                try clear c70
                                try clear c70b0
                                try clear c70b1
                                try clear c75
                                try clear c75b0
                                try clear c75b1
                                try clear c76
                                try clear c76b0
                                try clear c76b1
                                try clear c81
                                try clear q81
                                try clear c84
                                try clear hx401_0
                                try clear hx406_0
                                try clear p2
                                try clear p4
                                try clear p40
                                try clear p401
                                try clear p406
                                try clear p6
                                try clear p64
                                try clear q081
                                try clear q4
                                try clear q40
                                try clear q401
                                try clear q406
                                try clear q8
                                try clear q81
                                obtain ⟨x12_4, rfl, HA, HK4, HO_8, HO_10, HB⟩ := hrel
                                cases gk with
                                | zero => exact absurd HA.out (by simp [toponymlaw11_BlanksPiecewise.l0])
                                | succ k4 =>
                                  have H := HA.out
                                  clear HA
                                  simp only [toponymlaw11_BlanksPiecewise.l0] at H
                                  by_cases c85 : x12_4 < (t430.length : Int)
                                  · rw [if_pos c85] at H
                                    have c85b0 : decide (x12_4 < (t430.length : Int)) = true := decide_eq_true c85
                                    clear c85
                                    by_cases c86 : 0 ≤ x12_4
                                    · rw [if_pos c86] at H
                                      have c86b0 := eq_true c86
                                      have c86b1 : decide (0 ≤ x12_4) = true := decide_eq_true c86
                                      clear c86
                                      by_cases c87 : x12_4 ≤ (t430.length : Int)
                                      · rw [if_pos c87] at H
                                        have c87b0 := eq_true c87
                                        have c87b1 : decide (x12_4 ≤ (t430.length : Int)) = true := decide_eq_true c87
                                        clear c87
                                        obtain ⟨y448, hy448⟩ : ∃ y_ : List Int, y_ = (t430.drop (x12_4 : Int).toNat) := ⟨_, rfl⟩
                                        replace H : ((toponymlaw11_starts.f k4 y448 t436).bind fun t452 => (if t452 = true then ((toponymlaw11_awake.f k4).bind fun t453 => (some t453)) else (toponymlaw11_BlanksPiecewise.l0 k4 t430 t436 (wrap64 (x12_4 + 1))))) = some r := by first | (rw [hy448]; with_reducible exact H) | (have H2_ := (Option.bind_some _ _).symm.trans H; rw [hy448]; with_reducible exact H2_) | (have H2_ := (Option.bind_some _ _).symm.trans H; with_reducible exact H2_) | with_reducible exact H | (rw [hy448]; exact H) | exact H
                                        have Ny448 := Aside0.mk hy448
                                        clear hy448
                                        replace H := Option.bind_eq_some_iff.mp H
                                        obtain ⟨t452, A880, H⟩ := H
                                        replace H : (if t452 = true then ((toponymlaw11_awake.f k4).bind fun t453 => (some t453)) else (toponymlaw11_BlanksPiecewise.l0 k4 t430 t436 (wrap64 (x12_4 + 1)))) = some r := H
                                        have A88 := Aside0.mk A880
                                        clear A880
                                        by_cases c89 : t452 = true
                                        · subst c89
                                          have H1 : ((toponymlaw11_awake.f k4).bind fun t453 => (some t453)) = some r := by rw [if_pos rfl] at H; exact H
                                          clear H
                                          have H := H1
                                          clear H1
                                          replace H := Option.bind_eq_some_iff.mp H
                                          obtain ⟨t453, A900, H⟩ := H
                                          replace H : (some t453) = some r := H
                                          have A90 := Aside0.mk A900
                                          clear A900
                                          obtain rfl := Option.some.inj H
                                          obtain ⟨Ao91, co91, eo91⟩ := Kd.R_slice HO_8.out
                                          subst eo91
                                          have q92 : (x12_4 : Int) ≤ ((t430.length : Int) : Int) := of_decide_eq_true (by first | (with_reducible assumption) | assumption)
                                          obtain ⟨i092, hi092, _, hsz92, _⟩ := info_parts info21
                                          have hroom92 : t430.length ≤ co91 := (Kd.R_reads' HO_8.out).2.1
                                          have hC92 : Kd.C (Kd.int .i32) _ Ao91 t430.length t430 := (Kd.R_reads' HO_8.out).2.2
                                          have q092 : (0 : Int) ≤ (x12_4 : Int) := of_decide_eq_true (by first | (with_reducible assumption) | assumption)
                                          have hcut92 := cut_from (P := Try.prog) 22 21 .i64 Try.underlying22 hi092 1 hsz92 Ao91 t430.length co91 x12_4 q092 q92
                                          have hr92 := Kd.C_drop (m := (x12_4 : Int).toNat) (c := co91) hC92 (by omega) hroom92
                                          obtain ⟨A92, hA92⟩ : ∃ A1, A1 = (if co91 = (x12_4 : Int).toNat then Ao91 else (Ao91 : Option Addr).map (·.add ((x12_4 : Int).toNat * 1))) := ⟨_, rfl⟩
                                          obtain ⟨c92, hc92⟩ : ∃ c1, c1 = co91 - (x12_4 : Int).toNat := ⟨_, rfl⟩
                                          have hy92 : y448.length = t430.length - (x12_4 : Int).toNat := (by rw [Ny448.out, List.length_drop] <;> omega)
                                          rw [show (t430).drop (x12_4 : Int).toNat = y448 from Ny448.out.symm] at hr92
                                          replace hr92 : Kd.C (Kd.int .i32) _ A92 y448.length y448 := (by rw [hA92]; exact hr92)
                                          rw [← hy92, ← hA92, ← hc92] at hcut92
                                          have HR451 := Aside0.mk hr92
                                          have HC451 := Aside0.mk (show y448.length ≤ c92 from by rw [hy92, hc92]; exact Nat.sub_le_sub_right hroom92 _)
                                          clear hr92 hC92 hroom92 hi092 hsz92 hc92
                                          have KY92 := Aside0.mk hy92
                                          have KA92 := Aside0.mk hA92
                                          clear hy92 hA92
                                          have KL92 := Aside0.mk (show (x12_4 : Int).toNat ≤ t430.length from by omega)
                                          replace q92 := eq_true q92
                                          obtain ⟨Ao93, co93, eo93⟩ := Kd.R_slice HO_10.out
                                          subst eo93
                                          go_wp2_with (first | ((with_reducible refine gate_callee (f := 19) rfl ?_); refine goesL_ (some 110) rfl rfl Try.func19 (by kernel_rfl) rfl #[.slice A92 y448.length c92, .slice Ao93 t436.length co93] rfl (by (try simp only [List.map_toArray, List.map_cons, List.map_nil]); first | done | rfl | (simp only [List.length_drop, List.length_take]; rfl)) ?_; (with_reducible refine (toponymlaw11_starts.calls k4 _ _ y448 _ _ t436 true _ ?side1 ?side2 ?side3 ?side4 A88.out).mono ?_); (case side1 => repeat (first | exact (by repeat (first | (with_reducible exact HR451.out) | (with_reducible refine Kd.C_alloc ?_ _) | (with_reducible refine Kd.C_drewN ?_ _) | (with_reducible refine Kd.C_drew ?_) | exact HR451.out)) | (with_reducible refine Kd.C_alloc ?_ _) | (with_reducible refine Kd.C_drewN ?_ _) | (with_reducible refine Kd.C_drew ?_))); (case side2 => exact HC451.out); (case side3 => repeat (first | exact (Kd.R_reads' HO_10.out).2.2 | (with_reducible refine Kd.C_alloc ?_ _) | (with_reducible refine Kd.C_drewN ?_ _) | (with_reducible refine Kd.C_drew ?_))); (case side4 => exact (Kd.R_reads' HO_10.out).2.1); rintro e w' ⟨rfl, ⟨nd, rfl⟩⟩; (try clear A88); refine ⟨_, rfl, ?_⟩) | ((with_reducible refine gate_callee (f := 8) rfl ?_); refine goesL_ (some 111) rfl rfl Try.func8 (by kernel_rfl) rfl #[] rfl (by (try simp only [List.map_toArray, List.map_cons, List.map_nil]); first | done | rfl | (simp only [List.length_drop, List.length_take]; rfl)) ?_; (with_reducible refine (toponymlaw11_awake.calls k4  t453 _ A90.out).mono ?_); rintro e w94 ⟨rfl, hb⟩; (try clear A90); refine ⟨_, rfl, ?_⟩; have n0_ := Aside0.mk (Kd.R_below (by (with_reducible repeat (first | apply Kd.R_alloc | apply Kd.R_drewN | apply Kd.R_drew)); exact HO_8.out) hb); have n1_ := Aside0.mk (Kd.R_below (by (with_reducible repeat (first | apply Kd.R_alloc | apply Kd.R_drewN | apply Kd.R_drew)); exact HO_10.out) hb); have n2_ := Aside0.mk (Kd.C_below (by repeat (first | (with_reducible exact HR451.out) | (with_reducible refine Kd.C_alloc ?_ _) | (with_reducible refine Kd.C_drewN ?_ _) | (with_reducible refine Kd.C_drew ?_) | exact HR451.out)) hb); have n3_ := Aside0.mk (below_step (by repeat (first | (with_reducible first | exact HB.out | apply below_alloc | apply pw_below_drewN | apply below_drew1) | exact HB.out)) hb); clear HO_8; clear HO_10; clear HR451; clear HB; have HO_8 := n0_; have HO_10 := n1_; have HR451 := n2_; have HB := n3_; clear n0_ n1_ n2_ n3_; (try clear hb); (try clear hb2); (try clear hk); (try clear hi)))
                                          go_ret
                                          exact ⟨by first | rfl | (simp [errW_none, errW_some] <;> rfl) | (simp [*, errW_none, errW_some] <;> rfl), by repeat (first | (with_reducible first | exact HB.out | apply below_alloc | apply pw_below_drewN | apply below_drew1) | exact HB.out)⟩
                                        · replace c89 := Bool.eq_false_iff.mpr c89
                                          subst c89
                                          have H1 : (toponymlaw11_BlanksPiecewise.l0 k4 t430 t436 (wrap64 (x12_4 + 1))) = some r := by rw [if_neg (show ¬ (false = true) by decide)] at H; exact H
                                          clear H
                                          have H := H1
                                          clear H1
                                          have H' := Aside0.mk H
                                          clear H
                                          obtain ⟨Ao95, co95, eo95⟩ := Kd.R_slice HO_8.out
                                          subst eo95
                                          have q96 : (x12_4 : Int) ≤ ((t430.length : Int) : Int) := of_decide_eq_true (by first | (with_reducible assumption) | assumption)
                                          obtain ⟨i096, hi096, _, hsz96, _⟩ := info_parts info21
                                          have hroom96 : t430.length ≤ co95 := (Kd.R_reads' HO_8.out).2.1
                                          have hC96 : Kd.C (Kd.int .i32) _ Ao95 t430.length t430 := (Kd.R_reads' HO_8.out).2.2
                                          have q096 : (0 : Int) ≤ (x12_4 : Int) := of_decide_eq_true (by first | (with_reducible assumption) | assumption)
                                          have hcut96 := cut_from (P := Try.prog) 22 21 .i64 Try.underlying22 hi096 1 hsz96 Ao95 t430.length co95 x12_4 q096 q96
                                          have hr96 := Kd.C_drop (m := (x12_4 : Int).toNat) (c := co95) hC96 (by omega) hroom96
                                          obtain ⟨A96, hA96⟩ : ∃ A1, A1 = (if co95 = (x12_4 : Int).toNat then Ao95 else (Ao95 : Option Addr).map (·.add ((x12_4 : Int).toNat * 1))) := ⟨_, rfl⟩
                                          obtain ⟨c96, hc96⟩ : ∃ c1, c1 = co95 - (x12_4 : Int).toNat := ⟨_, rfl⟩
                                          have hy96 : y448.length = t430.length - (x12_4 : Int).toNat := (by rw [Ny448.out, List.length_drop] <;> omega)
                                          rw [show (t430).drop (x12_4 : Int).toNat = y448 from Ny448.out.symm] at hr96
                                          replace hr96 : Kd.C (Kd.int .i32) _ A96 y448.length y448 := (by rw [hA96]; exact hr96)
                                          rw [← hy96, ← hA96, ← hc96] at hcut96
                                          have HR451 := Aside0.mk hr96
                                          have HC451 := Aside0.mk (show y448.length ≤ c96 from by rw [hy96, hc96]; exact Nat.sub_le_sub_right hroom96 _)
                                          clear hr96 hC96 hroom96 hi096 hsz96 hc96
                                          have KY96 := Aside0.mk hy96
                                          have KA96 := Aside0.mk hA96
                                          clear hy96 hA96
                                          have KL96 := Aside0.mk (show (x12_4 : Int).toNat ≤ t430.length from by omega)
                                          replace q96 := eq_true q96
                                          obtain ⟨Ao97, co97, eo97⟩ := Kd.R_slice HO_10.out
                                          subst eo97
                                          go_wp2_with (first | ((with_reducible refine gate_callee (f := 19) rfl ?_); refine goesL_ (some 110) rfl rfl Try.func19 (by kernel_rfl) rfl #[.slice A96 y448.length c96, .slice Ao97 t436.length co97] rfl (by (try simp only [List.map_toArray, List.map_cons, List.map_nil]); first | done | rfl | (simp only [List.length_drop, List.length_take]; rfl)) ?_; (with_reducible refine (toponymlaw11_starts.calls k4 _ _ y448 _ _ t436 false _ ?side1 ?side2 ?side3 ?side4 A88.out).mono ?_); (case side1 => repeat (first | exact (by repeat (first | (with_reducible exact HR451.out) | (with_reducible refine Kd.C_alloc ?_ _) | (with_reducible refine Kd.C_drewN ?_ _) | (with_reducible refine Kd.C_drew ?_) | exact HR451.out)) | (with_reducible refine Kd.C_alloc ?_ _) | (with_reducible refine Kd.C_drewN ?_ _) | (with_reducible refine Kd.C_drew ?_))); (case side2 => exact HC451.out); (case side3 => repeat (first | exact (Kd.R_reads' HO_10.out).2.2 | (with_reducible refine Kd.C_alloc ?_ _) | (with_reducible refine Kd.C_drewN ?_ _) | (with_reducible refine Kd.C_drew ?_))); (case side4 => exact (Kd.R_reads' HO_10.out).2.1); rintro e w' ⟨rfl, ⟨nd, rfl⟩⟩; (try clear A88); refine ⟨_, rfl, ?_⟩))
                                          go_roundg k4
                                          case measure => have := HJ3.out; have := HJ27.out; have := HJ54.out; have := HK4.out; omega
                                          case rel => exact ⟨(wrap64 (x12_4 + 1)), (by first | rfl | (simp; done) | (simp [*]; done)), H', ⟨by have := HJ3.out; have := HJ27.out; have := HJ54.out; have := HK4.out; omega⟩, ⟨by (with_reducible repeat (first | apply Kd.R_alloc | apply Kd.R_drewN | apply Kd.R_drew)); exact HO_8.out⟩, ⟨by (with_reducible repeat (first | apply Kd.R_alloc | apply Kd.R_drewN | apply Kd.R_drew)); exact HO_10.out⟩, ⟨by repeat (first | (with_reducible first | exact HB.out | apply below_alloc | apply pw_below_drewN | apply below_drew1) | exact HB.out)⟩⟩
                                      · rw [if_neg c87] at H
                                        exact absurd H (by simp)
                                    · rw [if_neg c86] at H
                                      exact absurd H (by simp)
                                  · rw [if_neg c85] at H
                                    have c85b0 : decide (x12_4 < (t430.length : Int)) = false := decide_eq_false c85
                                    clear c85
                                    obtain rfl := Option.some.inj H
                                    obtain ⟨Ao98, co98, eo98⟩ := Kd.R_slice HO_8.out
                                    subst eo98
                                    go_wp2
                                    go_ret
                                    exact ⟨by first | rfl | (simp [errW_none, errW_some] <;> rfl) | (simp [*, errW_none, errW_some] <;> rfl), by repeat (first | (with_reducible first | exact HB.out | apply below_alloc | apply pw_below_drewN | apply below_drew1) | exact HB.out)⟩
                      · rw [if_neg c50] at H
                        exact absurd H (by simp)
                    · rw [if_neg c49] at H
                      exact absurd H (by simp)
                  · rw [if_neg c48] at H
                    exact absurd H (by simp)
                · rw [if_neg c47] at H
                  exact absurd H (by simp)
              · rw [if_neg c46] at H
                exact absurd H (by simp)

/-- THE ONE PURE STATEMENT of toponymlaw11_BlanksPiecewise: yours. -/
def toponymlaw11_BlanksPiecewise.Pure : Prop := ∀ (l0 : List Int) (l1 : List Int) (l2 : List Int), l0.length ≤ maxLen → l0.length * 4 ≤ 140737488351232 → (∀ x ∈ l0, (Lit.int .i32 x).wf = true) → l1.length ≤ maxLen → l1.length * 4 ≤ 140737488351232 → (∀ x ∈ l1, (Lit.int .i32 x).wf = true) → l2.length ≤ maxLen → l2.length * 4 ≤ 140737488351232 → (∀ x ∈ l2, (Lit.int .i32 x).wf = true) → ∃ k, toponymlaw11_BlanksPiecewise.f k l0 l1 l2 = some true
theorem toponymlaw11_BlanksPiecewise.walk (P : toponymlaw11_BlanksPiecewise.Pure) (a0 : Option Addr) (len0 cap0 : Nat) (z0 : List Int) (a1 : Option Addr) (len1 cap1 : Nat) (z1 : List Int) (a2 : Option Addr) (len2 cap2 : Nat) (z2 : List Int) (w : World) (w0 : (a0 = none ∧ len0 = 0 ∧ cap0 = 0 ∧ z0 = []) ∨ ∃ x, a0 = some x ∧ len0 ≤ cap0 ∧ cap0 ≤ maxLen ∧ z0.length = cap0 ∧ (∀ i, i < z0.length → w.cell? (x.add i) = some (.int .i32 (z0.getD i 0))) ∧ ∀ n ∈ z0, (Lit.int .i32 n).wf = true) (y0 : len0 * 4 ≤ 140737488351232) (w1 : (a1 = none ∧ len1 = 0 ∧ cap1 = 0 ∧ z1 = []) ∨ ∃ x, a1 = some x ∧ len1 ≤ cap1 ∧ cap1 ≤ maxLen ∧ z1.length = cap1 ∧ (∀ i, i < z1.length → w.cell? (x.add i) = some (.int .i32 (z1.getD i 0))) ∧ ∀ n ∈ z1, (Lit.int .i32 n).wf = true) (y1 : len1 * 4 ≤ 140737488351232) (w2 : (a2 = none ∧ len2 = 0 ∧ cap2 = 0 ∧ z2 = []) ∨ ∃ x, a2 = some x ∧ len2 ≤ cap2 ∧ cap2 ≤ maxLen ∧ z2.length = cap2 ∧ (∀ i, i < z2.length → w.cell? (x.add i) = some (.int .i32 (z2.getD i 0))) ∧ ∀ n ∈ z2, (Lit.int .i32 n).wf = true) (y2 : len2 * 4 ≤ 140737488351232) :
    Calls Try.prog 4 #[.slice a0 len0 cap0, .slice a1 len1 cap1, .slice a2 len2 cap2] w fun e w' => e = .returned (.bool true) ∧ Below w.heap.size w w' := by
  obtain ⟨l0, rfl, hr0, hm0, hw0, hc0⟩ := ReadsInt.ofRowC w0
  obtain ⟨l1, rfl, hr1, hm1, hw1, hc1⟩ := ReadsInt.ofRowC w1
  obtain ⟨l2, rfl, hr2, hm2, hw2, hc2⟩ := ReadsInt.ofRowC w2
  obtain ⟨k, h⟩ := P l0 l1 l2 hm0 y0 hw0 hm1 y1 hw1 hm2 y2 hw2
  refine (toponymlaw11_BlanksPiecewise.calls k _ _ l0 _ _ l1 _ _ l2 true w (Kd.C_of_reads (d := (0 : Int)) (h1 := fun _ => rfl) hr0) hc0 (Kd.C_of_reads (d := (0 : Int)) (h1 := fun _ => rfl) hr1) hc1 (Kd.C_of_reads (d := (0 : Int)) (h1 := fun _ => rfl) hr2) hc2 h).mono ?_
  rintro e w' ⟨rfl, hd⟩
  exact ⟨rfl, hd⟩

end Go.Proofs.Ytddmaioalilhmaa.P
