-- Printed by wip/mk.py (this session's driver over the kit's print) and from wip/manual.
import Derived.Test.YtncppcjobimilaaP0
import Derived.Test.YtncppcjobimilaaP1
import Derived.Test.YtncppcjobimilaaP2
import Derived.Test.YtncppcjobimilaaP14
namespace Go.Proofs.Ytncppcjobimilaa.P
open Go.RowKit Go.Proofs.YtncppcjobimilaaW.PrintWords Go.Proofs.YtncppcjobimilaaW.PrintLast Go.Proofs.YtncppcjobimilaaW.PrintMore
attribute [local go_sem] max2_int min2_int max_two min_two max_three min_three max_four min_four   -- for this text's walks alone
set_option linter.unusedVariables false
set_option linter.unusedSimpArgs false

/-! ### toponymlaw13_PiecesMore: function 5 -/
def toponymlaw13_PiecesMore.j0 : Nat → ByteArray → Int → Bool → ByteArray → List ByteArray → ByteArray → Bool → Bool → Option (Bool)
 | 0, _, _, _, _, _, _, _, _ => none
 | k + 1, x0, x2, x32, x579000, x579001, x579002, x579003, x579004 => if x32 = true then ((toponymlaw13_awake.f k).bind fun t581 => (some t581)) else ((some (([] : List ByteArray) : List ByteArray)).bind fun y583 => (if 0 ≤ x2 then (if x2 ≤ (x579001.length : Int) then (if y583.length + (x579001.take (x2 : Int).toNat).length < 8796093022208 then ((some (y583 ++ (x579001.take (x2 : Int).toNat) : List ByteArray)).bind fun y587 => (if 0 ≤ (wrap64 (x2 + 1)) then (if (wrap64 (x2 + 1)) ≤ (x579001.length : Int) then (if y587.length + (x579001.drop ((wrap64 (x2 + 1)) : Int).toNat).length < 8796093022208 then ((some (y587 ++ (x579001.drop ((wrap64 (x2 + 1)) : Int).toNat) : List ByteArray)).bind fun y591 => ((pieces_Check.f k x579000 y591 x579002 x579003 x579004).bind fun t594 => (if t594 = 0 then ((pieces_Match.f k x0 x579000 y591 x579002 x579003 x579004).bind fun t595 => (if t595 = true then ((toponymlaw13_awake.f k).bind fun t596 => (some t596)) else (some false))) else ((toponymlaw13_awake.f k).bind fun t597 => (some t597))))) else (none)) else (none)) else (none))) else (none)) else (none)) else (none)))
def toponymlaw13_PiecesMore.f (k : Nat) (a0 : ByteArray) (a1_0 : ByteArray) (l1_1 : List ByteArray) (a1_2 : ByteArray) (a1_3 : Bool) (a1_4 : Bool) (a2 : Int) : Option (Bool) := if (a0.size : Int) > 5000 then (toponymlaw13_PiecesMore.j0 k a0 a2 true a1_0 l1_1 a1_2 a1_3 a1_4) else ((toponymlaw13_Few.f k a1_0 l1_1 a1_2 a1_3 a1_4).bind fun t579 => (if t579 = true then (if a2 < 0 then (toponymlaw13_PiecesMore.j0 k a0 a2 true a1_0 l1_1 a1_2 a1_3 a1_4) else (if a2 ≥ (l1_1.length : Int) then (toponymlaw13_PiecesMore.j0 k a0 a2 true a1_0 l1_1 a1_2 a1_3 a1_4) else ((pieces_Match.f k a0 a1_0 l1_1 a1_2 a1_3 a1_4).bind fun t580 => (toponymlaw13_PiecesMore.j0 k a0 a2 (!t580) a1_0 l1_1 a1_2 a1_3 a1_4)))) else (toponymlaw13_PiecesMore.j0 k a0 a2 true a1_0 l1_1 a1_2 a1_3 a1_4)))
theorem toponymlaw13_PiecesMore.mono_l : ∀ k, (∀ y0 y1 y2 y3 y4 y5 y6 y7, LeO (toponymlaw13_PiecesMore.j0 k y0 y1 y2 y3 y4 y5 y6 y7) (toponymlaw13_PiecesMore.j0 (k + 1) y0 y1 y2 y3 y4 y5 y6 y7))
 | 0 => fun _ _ _ _ _ _ _ _ r h => by simp [toponymlaw13_PiecesMore.j0] at h
 | k + 1 => by
  have ih0 := toponymlaw13_PiecesMore.mono_l k
  ·intro y0 y1 y2 y3 y4 y5 y6 y7
   unfold toponymlaw13_PiecesMore.j0
   repeat' first
   | (with_reducible exact ih0 _ _ _ _ _ _ _ _)
   | (with_reducible exact pieces_Check.mono _ _ _ _ _ _)
   | (with_reducible exact pieces_Match.mono _ _ _ _ _ _ _)
   | (with_reducible exact toponymlaw13_Few.mono _ _ _ _ _ _)
   | (with_reducible exact toponymlaw13_awake.mono _)
   | (with_reducible exact LeO.refl _)
   | exact ih0 _ _ _ _ _ _ _ _
   | exact pieces_Check.mono _ _ _ _ _ _
   | exact pieces_Match.mono _ _ _ _ _ _ _
   | exact toponymlaw13_Few.mono _ _ _ _ _ _
   | exact toponymlaw13_awake.mono _
   | exact LeO.none _
   | refine LeO.ite ?_ ?_
   | refine LeO.bind ?_ (fun _ => ?_)
theorem toponymlaw13_PiecesMore.mono : ∀ a0 a1 a2 a3 a4 a5 a6 k, LeO (toponymlaw13_PiecesMore.f k a0 a1 a2 a3 a4 a5 a6) (toponymlaw13_PiecesMore.f (k + 1) a0 a1 a2 a3 a4 a5 a6) := by
 intro a0 a1 a2 a3 a4 a5 a6 k
 have ih0 := toponymlaw13_PiecesMore.mono_l k
 unfold toponymlaw13_PiecesMore.f
 repeat' first
   | (with_reducible exact ih0 _ _ _ _ _ _ _ _)
   | (with_reducible exact pieces_Check.mono _ _ _ _ _ _)
   | (with_reducible exact pieces_Match.mono _ _ _ _ _ _ _)
   | (with_reducible exact toponymlaw13_Few.mono _ _ _ _ _ _)
   | (with_reducible exact toponymlaw13_awake.mono _)
   | (with_reducible exact LeO.refl _)
   | exact ih0 _ _ _ _ _ _ _ _
   | exact pieces_Check.mono _ _ _ _ _ _
   | exact pieces_Match.mono _ _ _ _ _ _ _
   | exact toponymlaw13_Few.mono _ _ _ _ _ _
   | exact toponymlaw13_awake.mono _
   | exact LeO.none _
   | refine LeO.ite ?_ ?_
   | refine LeO.bind ?_ (fun _ => ?_)
def toponymlaw13_PiecesMore.T4 : Bool × List (List Nat × List Nat) := (true, [([], []), ([], []), ([1], [1]), ([], []), ([2, 3], [2, 3]), ([0, 4], [0, 4]), ([], []), ([6], [6]), ([], []), ([8], [8]), ([7, 9], [7, 9]), ([5, 10, 5], [5, 10]), ([0, 1, 2, 3, 4, 5, 6, 7, 8, 9, 10, 11], []), ([12, 11, 11, 0, 1, 2, 3, 4, 5, 6, 7, 8, 9, 10, 11], [11, 12])])
def toponymlaw13_PiecesMore.B4 : List Nat := [0, 0, 2, 0, 14, 31, 0, 64, 0, 256, 960, 2047, 4095, 8191]
theorem toponymlaw13_PiecesMore.tab4 : rtab .any (opsOf Try.f5 4) = toponymlaw13_PiecesMore.T4 := zK
theorem toponymlaw13_PiecesMore.bits4 : waitsOk toponymlaw13_PiecesMore.T4.2 toponymlaw13_PiecesMore.B4 = true := zK
set_option maxHeartbeats 48000000 in
set_option maxRecDepth 100000 in
theorem toponymlaw13_PiecesMore.calls (k : Nat) (a0 : ByteArray) (a1_0 : ByteArray) (A1_1 : Option Addr) (c1_1 : Nat) (l1_1 : List ByteArray) (a1_2 : ByteArray) (a1_3 : Bool) (a1_4 : Bool) (a2 : Int) (r : Bool) (w : World) (hE : Env w) (hr1_1 : Kd.C Kd.string w A1_1 l1_1.length l1_1) (hc1_1 : l1_1.length ≤ c1_1) (h : toponymlaw13_PiecesMore.f k a0 a1_0 l1_1 a1_2 a1_3 a1_4 a2 = some r) (hT_ : r = true) :
  Calls Try.prog 5 #[.string a0, .agg #[.string a1_0, .slice A1_1 l1_1.length c1_1, .string a1_2, .bool a1_3, .bool a1_4], .int .i64 a2] w fun e w' => e = .returned (.bool r) ∧ Below w.heap.size w w' := by
 have hT := aM hT_
 clear hT_
 have HE := aM hE
 clear hE
 have hu29 := Try.underlying29
 have HR1_1 := aM hr1_1
 have HC1_1 := aM hc1_1
 clear hr1_1 hc1_1
 have HB := aM (Below.refl w.heap.size w)
 have H := h
 clear h
 unfold toponymlaw13_PiecesMore.f at H
 have HC4 := aM H
 clear H
 go_enter Try.func5, Try.ntmps5
 go_upto_region 1 with (first | ((with_reducible refine gate_dst (N := 4) rfl ?_); (try (refine gate_guard (by rfl) ?_; dsimp only)); refine box_event ?hg (N := 4) ?hd (cs := #[.string a1_0, .slice A1_1 l1_1.length c1_1, .string a1_2, .bool a1_3, .bool a1_4]) (t := 29) ?hr ?_; (case hd => rfl); (case hg => rfl); (case hr => first | (go_simp; done) | (go_simp; rfl)); intro gb578 hg w5 hbox hb; have n_ := zI (aM (below_step zB hb)) (zI (aM (hbox)) (zI (aM ((by rw [hg]; exact (below_size zB) : w.heap.size ≤ gb578))) (aM ((by rw [hg]; exact (below_size zB) : w.heap.size ≤ gb578))))); clear HB; obtain ⟨HB, BK578, GW578, GE578⟩ := n_; clear hb hbox hg))
 (try simp only [Act.put, List.setIfInBounds_toArray, List.set_cons_zero, List.set_cons_succ])
 go_cut [32] (fun v32 wc => ∃ (kq : Nat) (x32_3 : Bool), v32 = .bool x32_3 ∧ Aside0 (toponymlaw13_PiecesMore.j0 kq a0 a2 x32_3 a1_0 l1_1 a1_2 a1_3 a1_4 = some r) ∧ Aside0 (kq ≤ k) ∧ Aside0 (wc.heap[gb578]? = some (.cells #[.string a1_0, (.slice A1_1 l1_1.length c1_1), .string a1_2, .bool a1_3, .bool a1_4] 29 (0, 0))) ∧ Aside0 (Below w.heap.size w wc))
 case first =>
  have H := HC4.out
  clear HC4
  by_cases c6 : (a0.size : Int) > 5000
  ·rw [if_pos c6] at H
   have c6b0 : decide (5000 < (a0.size : Int)) = true := decide_eq_true c6
   have c6b1 : decide (5000 < a0.size) = true := decide_eq_true (by omega)
   clear c6
   (first | rw [c6b0] | (simp only [i64_w, i32_w]; rw [c6b0]) | skip)
   have H' := aM H
   clear H
   go_wp2
   go_meet
   case rel => exact ⟨_, (true), zP, H', ⟨by first | omega | exact Nat.le_refl _⟩, ⟨by (with_reducible repeat (first | refine blk_drewN ?_ _ | refine blk_drew ?_ | refine blk_alloc ?_ _)); exact BK578.out⟩, ⟨by repeat (first | (with_reducible first | exact HB.out | apply bA | apply bN | apply bD | refine below_set ?_ GE578.out) | exact HB.out)⟩⟩
  ·rw [if_neg c6] at H
   have c6b0 : decide (5000 < (a0.size : Int)) = false := decide_eq_false c6
   have c6b1 : decide (5000 < a0.size) = false := decide_eq_false (by omega)
   clear c6
   (first | rw [c6b0] | (simp only [i64_w, i32_w]; rw [c6b0]) | skip)
   obtain ⟨t579, A7, H⟩ := zO H
   by_cases c8 : t579 = true
   ·subst c8
    rw [if_pos rfl] at H
    by_cases c9 : a2 < 0
    ·rw [if_pos c9] at H
     have c9b0 : decide (a2 < 0) = true := decide_eq_true c9
     clear c9
     have H' := aM H
     clear H
     have hcz10_0 : w5.cell? ⟨gb578, 0, none⟩ = some (.string a1_0) := (blk_cell BK578.out 0).trans rfl
     have hcz10_1 : w5.cell? ⟨gb578, 1, none⟩ = some (.slice A1_1 l1_1.length c1_1) := (blk_cell BK578.out 1).trans rfl
     have hcz10_2 : w5.cell? ⟨gb578, 2, none⟩ = some (.string a1_2) := (blk_cell BK578.out 2).trans rfl
     have hcz10_3 : w5.cell? ⟨gb578, 3, none⟩ = some (.bool a1_3) := (blk_cell BK578.out 3).trans rfl
     have hcz10_4 : w5.cell? ⟨gb578, 4, none⟩ = some (.bool a1_4) := (blk_cell BK578.out 4).trans rfl
     have hfz10_0 := blk_frozen BK578.out 0
     have hfz10_1 := blk_frozen BK578.out 1
     have hfz10_2 := blk_frozen BK578.out 2
     have hfz10_3 := blk_frozen BK578.out 3
     have hfz10_4 := blk_frozen BK578.out 4
     go_wp2_with (first | (go_at_call 10; (with_reducible refine (toponymlaw13_Few.calls k a1_0 _ _ l1_1 a1_2 a1_3 a1_4 true _ ?side1 ?side2 A7.out).mono ?_); (case side1 => exact zCB HR1_1); (case side2 => exact HC1_1.out); rintro e w11 ⟨rfl, hb⟩; have n_ := zI (aM (blk_below (g := gb578) (o := .cells #[.string a1_0, .slice A1_1 l1_1.length c1_1, .string a1_2, .bool a1_3, .bool a1_4] 29 (0, 0)) (by (with_reducible repeat (first | refine blk_drewN ?_ _ | refine blk_drew ?_ | refine blk_alloc ?_ _)); exact BK578.out) hb)) (aM (below_step (by repeat (first | (with_reducible first | exact HB.out | apply bA | apply bN | apply bD | refine below_set ?_ GE578.out) | exact HB.out)) hb)); clear BK578 HB; obtain ⟨BK578, HB⟩ := n_; (try clear hb)))
     go_meet
     case rel => exact ⟨_, (true), zP, H', ⟨by first | omega | exact Nat.le_refl _⟩, ⟨by (with_reducible repeat (first | refine blk_drewN ?_ _ | refine blk_drew ?_ | refine blk_alloc ?_ _)); exact BK578.out⟩, ⟨by repeat (first | (with_reducible first | exact HB.out | apply bA | apply bN | apply bD | refine below_set ?_ GE578.out) | exact HB.out)⟩⟩
    ·rw [if_neg c9] at H
     have c9b0 : decide (a2 < 0) = false := decide_eq_false c9
     clear c9
     by_cases c12 : a2 ≥ (l1_1.length : Int)
     ·rw [if_pos c12] at H
      have c12b0 : decide ((l1_1.length : Int) ≤ a2) = true := decide_eq_true c12
      clear c12
      have H' := aM H
      clear H
      have hcz13_0 : w5.cell? ⟨gb578, 0, none⟩ = some (.string a1_0) := (blk_cell BK578.out 0).trans rfl
      have hcz13_1 : w5.cell? ⟨gb578, 1, none⟩ = some (.slice A1_1 l1_1.length c1_1) := (blk_cell BK578.out 1).trans rfl
      have hcz13_2 : w5.cell? ⟨gb578, 2, none⟩ = some (.string a1_2) := (blk_cell BK578.out 2).trans rfl
      have hcz13_3 : w5.cell? ⟨gb578, 3, none⟩ = some (.bool a1_3) := (blk_cell BK578.out 3).trans rfl
      have hcz13_4 : w5.cell? ⟨gb578, 4, none⟩ = some (.bool a1_4) := (blk_cell BK578.out 4).trans rfl
      have hfz13_0 := blk_frozen BK578.out 0
      have hfz13_1 := blk_frozen BK578.out 1
      have hfz13_2 := blk_frozen BK578.out 2
      have hfz13_3 := blk_frozen BK578.out 3
      have hfz13_4 := blk_frozen BK578.out 4
      go_wp2_with (first | (go_at_call 10; (with_reducible refine (toponymlaw13_Few.calls k a1_0 _ _ l1_1 a1_2 a1_3 a1_4 true _ ?side1 ?side2 A7.out).mono ?_); (case side1 => exact zCB HR1_1); (case side2 => exact HC1_1.out); rintro e w14 ⟨rfl, hb⟩; have n_ := zI (aM (blk_below (g := gb578) (o := .cells #[.string a1_0, .slice A1_1 l1_1.length c1_1, .string a1_2, .bool a1_3, .bool a1_4] 29 (0, 0)) (by (with_reducible repeat (first | refine blk_drewN ?_ _ | refine blk_drew ?_ | refine blk_alloc ?_ _)); exact BK578.out) hb)) (aM (below_step (by repeat (first | (with_reducible first | exact HB.out | apply bA | apply bN | apply bD | refine below_set ?_ GE578.out) | exact HB.out)) hb)); clear BK578 HB; obtain ⟨BK578, HB⟩ := n_; (try clear hb); have hcz15_0 : w14.cell? ⟨gb578, 0, none⟩ = some (.string a1_0) := (blk_cell BK578.out 0).trans rfl; have hcz15_1 : w14.cell? ⟨gb578, 1, none⟩ = some (.slice A1_1 l1_1.length c1_1) := (blk_cell BK578.out 1).trans rfl; have hcz15_2 : w14.cell? ⟨gb578, 2, none⟩ = some (.string a1_2) := (blk_cell BK578.out 2).trans rfl; have hcz15_3 : w14.cell? ⟨gb578, 3, none⟩ = some (.bool a1_3) := (blk_cell BK578.out 3).trans rfl; have hcz15_4 : w14.cell? ⟨gb578, 4, none⟩ = some (.bool a1_4) := (blk_cell BK578.out 4).trans rfl; have hfz15_0 := blk_frozen BK578.out 0; have hfz15_1 := blk_frozen BK578.out 1; have hfz15_2 := blk_frozen BK578.out 2; have hfz15_3 := blk_frozen BK578.out 3; have hfz15_4 := blk_frozen BK578.out 4))
      go_meet
      case rel => exact ⟨_, (true), zP, H', ⟨by first | omega | exact Nat.le_refl _⟩, ⟨by (with_reducible repeat (first | refine blk_drewN ?_ _ | refine blk_drew ?_ | refine blk_alloc ?_ _)); exact BK578.out⟩, ⟨by repeat (first | (with_reducible first | exact HB.out | apply bA | apply bN | apply bD | refine below_set ?_ GE578.out) | exact HB.out)⟩⟩
     ·rw [if_neg c12] at H
      have c12b0 : decide ((l1_1.length : Int) ≤ a2) = false := decide_eq_false c12
      clear c12
      obtain ⟨t580, A16, H⟩ := zO H
      have H' := aM H
      clear H
      have hcz17_0 : w5.cell? ⟨gb578, 0, none⟩ = some (.string a1_0) := (blk_cell BK578.out 0).trans rfl
      have hcz17_1 : w5.cell? ⟨gb578, 1, none⟩ = some (.slice A1_1 l1_1.length c1_1) := (blk_cell BK578.out 1).trans rfl
      have hcz17_2 : w5.cell? ⟨gb578, 2, none⟩ = some (.string a1_2) := (blk_cell BK578.out 2).trans rfl
      have hcz17_3 : w5.cell? ⟨gb578, 3, none⟩ = some (.bool a1_3) := (blk_cell BK578.out 3).trans rfl
      have hcz17_4 : w5.cell? ⟨gb578, 4, none⟩ = some (.bool a1_4) := (blk_cell BK578.out 4).trans rfl
      have hfz17_0 := blk_frozen BK578.out 0
      have hfz17_1 := blk_frozen BK578.out 1
      have hfz17_2 := blk_frozen BK578.out 2
      have hfz17_3 := blk_frozen BK578.out 3
      have hfz17_4 := blk_frozen BK578.out 4
      go_wp2_with (first | (go_at_call 10; (with_reducible refine (toponymlaw13_Few.calls k a1_0 _ _ l1_1 a1_2 a1_3 a1_4 true _ ?side1 ?side2 A7.out).mono ?_); (case side1 => exact zCB HR1_1); (case side2 => exact HC1_1.out); rintro e w18 ⟨rfl, hb⟩; have n_ := zI (aM (blk_below (g := gb578) (o := .cells #[.string a1_0, .slice A1_1 l1_1.length c1_1, .string a1_2, .bool a1_3, .bool a1_4] 29 (0, 0)) (by (with_reducible repeat (first | refine blk_drewN ?_ _ | refine blk_drew ?_ | refine blk_alloc ?_ _)); exact BK578.out) hb)) (aM (below_step (by repeat (first | (with_reducible first | exact HB.out | apply bA | apply bN | apply bD | refine below_set ?_ GE578.out) | exact HB.out)) hb)); clear BK578 HB; obtain ⟨BK578, HB⟩ := n_; (try clear hb); have hcz19_0 : w18.cell? ⟨gb578, 0, none⟩ = some (.string a1_0) := (blk_cell BK578.out 0).trans rfl; have hcz19_1 : w18.cell? ⟨gb578, 1, none⟩ = some (.slice A1_1 l1_1.length c1_1) := (blk_cell BK578.out 1).trans rfl; have hcz19_2 : w18.cell? ⟨gb578, 2, none⟩ = some (.string a1_2) := (blk_cell BK578.out 2).trans rfl; have hcz19_3 : w18.cell? ⟨gb578, 3, none⟩ = some (.bool a1_3) := (blk_cell BK578.out 3).trans rfl; have hcz19_4 : w18.cell? ⟨gb578, 4, none⟩ = some (.bool a1_4) := (blk_cell BK578.out 4).trans rfl; have hfz19_0 := blk_frozen BK578.out 0; have hfz19_1 := blk_frozen BK578.out 1; have hfz19_2 := blk_frozen BK578.out 2; have hfz19_3 := blk_frozen BK578.out 3; have hfz19_4 := blk_frozen BK578.out 4) | (go_at_call 9; (with_reducible refine (pieces_Match.calls k a0 a1_0 _ _ l1_1 a1_2 a1_3 a1_4 t580 _ (zEnv HE) ?side1 ?side2 A16.out).mono ?_); (case side1 => exact zCB HR1_1); (case side2 => exact HC1_1.out); rintro e w20 ⟨rfl, hb⟩; (try clear A16); have n_ := zI (aM (blk_below (g := gb578) (o := .cells #[.string a1_0, .slice A1_1 l1_1.length c1_1, .string a1_2, .bool a1_3, .bool a1_4] 29 (0, 0)) (by (with_reducible repeat (first | refine blk_drewN ?_ _ | refine blk_drew ?_ | refine blk_alloc ?_ _)); exact BK578.out) hb)) (aM (below_step (by repeat (first | (with_reducible first | exact HB.out | apply bA | apply bN | apply bD | refine below_set ?_ GE578.out) | exact HB.out)) hb)); clear BK578 HB; obtain ⟨BK578, HB⟩ := n_; (try clear hb)))
      go_meet
      case rel => exact ⟨_, (!t580), zP, H', ⟨by first | omega | exact Nat.le_refl _⟩, ⟨by (with_reducible repeat (first | refine blk_drewN ?_ _ | refine blk_drew ?_ | refine blk_alloc ?_ _)); exact BK578.out⟩, ⟨by repeat (first | (with_reducible first | exact HB.out | apply bA | apply bN | apply bD | refine below_set ?_ GE578.out) | exact HB.out)⟩⟩
   ·replace c8 := Bool.eq_false_iff.mpr c8
    subst c8
    rw [if_neg (show ¬ (false = true) by decide)] at H
    have H' := aM H
    clear H
    have hcz21_0 : w5.cell? ⟨gb578, 0, none⟩ = some (.string a1_0) := (blk_cell BK578.out 0).trans rfl
    have hcz21_1 : w5.cell? ⟨gb578, 1, none⟩ = some (.slice A1_1 l1_1.length c1_1) := (blk_cell BK578.out 1).trans rfl
    have hcz21_2 : w5.cell? ⟨gb578, 2, none⟩ = some (.string a1_2) := (blk_cell BK578.out 2).trans rfl
    have hcz21_3 : w5.cell? ⟨gb578, 3, none⟩ = some (.bool a1_3) := (blk_cell BK578.out 3).trans rfl
    have hcz21_4 : w5.cell? ⟨gb578, 4, none⟩ = some (.bool a1_4) := (blk_cell BK578.out 4).trans rfl
    have hfz21_0 := blk_frozen BK578.out 0
    have hfz21_1 := blk_frozen BK578.out 1
    have hfz21_2 := blk_frozen BK578.out 2
    have hfz21_3 := blk_frozen BK578.out 3
    have hfz21_4 := blk_frozen BK578.out 4
    go_wp2_with (first | (go_at_call 10; (with_reducible refine (toponymlaw13_Few.calls k a1_0 _ _ l1_1 a1_2 a1_3 a1_4 false _ ?side1 ?side2 A7.out).mono ?_); (case side1 => exact zCB HR1_1); (case side2 => exact HC1_1.out); rintro e w22 ⟨rfl, hb⟩; have n_ := zI (aM (blk_below (g := gb578) (o := .cells #[.string a1_0, .slice A1_1 l1_1.length c1_1, .string a1_2, .bool a1_3, .bool a1_4] 29 (0, 0)) (by (with_reducible repeat (first | refine blk_drewN ?_ _ | refine blk_drew ?_ | refine blk_alloc ?_ _)); exact BK578.out) hb)) (aM (below_step (by repeat (first | (with_reducible first | exact HB.out | apply bA | apply bN | apply bD | refine below_set ?_ GE578.out) | exact HB.out)) hb)); clear BK578 HB; obtain ⟨BK578, HB⟩ := n_; (try clear hb)))
    go_meet
    case rel => exact ⟨_, (true), zP, H', ⟨by first | omega | exact Nat.le_refl _⟩, ⟨by (with_reducible repeat (first | refine blk_drewN ?_ _ | refine blk_drew ?_ | refine blk_alloc ?_ _)); exact BK578.out⟩, ⟨by repeat (first | (with_reducible first | exact HB.out | apply bA | apply bN | apply bD | refine below_set ?_ GE578.out) | exact HB.out)⟩⟩
 case rest =>
  clear HC4
  try clear c1
  try clear p2
  try clear c5
  try clear c6
  try clear c6b0
  try clear c6b1
  try clear c8
  try clear c9
  try clear c9b0
  try clear c12
  try clear c12b0
  try clear hcz10_0
  try clear hcz10_1
  try clear hcz10_2
  try clear hcz10_3
  try clear hcz10_4
  try clear hcz13_0
  try clear hcz13_1
  try clear hcz13_2
  try clear hcz13_3
  try clear hcz13_4
  try clear hcz15_0
  try clear hcz15_1
  try clear hcz15_2
  try clear hcz15_3
  try clear hcz15_4
  try clear hcz17_0
  try clear hcz17_1
  try clear hcz17_2
  try clear hcz17_3
  try clear hcz17_4
  try clear hcz19_0
  try clear hcz19_1
  try clear hcz19_2
  try clear hcz19_3
  try clear hcz19_4
  try clear hcz21_0
  try clear hcz21_1
  try clear hcz21_2
  try clear hcz21_3
  try clear hcz21_4
  try clear hfz10_0
  try clear hfz10_1
  try clear hfz10_2
  try clear hfz10_3
  try clear hfz10_4
  try clear hfz13_0
  try clear hfz13_1
  try clear hfz13_2
  try clear hfz13_3
  try clear hfz13_4
  try clear hfz15_0
  try clear hfz15_1
  try clear hfz15_2
  try clear hfz15_3
  try clear hfz15_4
  try clear hfz17_0
  try clear hfz17_1
  try clear hfz17_2
  try clear hfz17_3
  try clear hfz17_4
  try clear hfz19_0
  try clear hfz19_1
  try clear hfz19_2
  try clear hfz19_3
  try clear hfz19_4
  try clear hfz21_0
  try clear hfz21_1
  try clear hfz21_2
  try clear hfz21_3
  try clear hfz21_4
  obtain ⟨kq, x32_3, rfl, HA, HJ3, BK578, HB⟩ := hcut
  cases kq with
  | zero => exact absurd HA.out (by simp [toponymlaw13_PiecesMore.j0])
  | succ kj3 =>
   have H := HA.out
   clear HA
   simp only [toponymlaw13_PiecesMore.j0] at H
   by_cases c23 : x32_3 = true
   ·subst c23
    rw [if_pos rfl] at H
    obtain ⟨t581, A24, H⟩ := zO H
    obtain rfl := sI H
    go_wp2_with (first | ((with_reducible refine gate_callee (f := 6) rfl ?_); refine goesL_ (some 33) rfl rfl Try.func6 zK rfl #[] rfl zM ?_; (with_reducible refine (toponymlaw13_awake.calls kj3  t581 _ (zEnv HE) A24.out).mono ?_); rintro e w25 ⟨rfl, hb⟩; (try clear A24); refine ⟨_, rfl, ?_⟩; have n_ := zI (aM (blk_below (g := gb578) (o := .cells #[.string a1_0, .slice A1_1 l1_1.length c1_1, .string a1_2, .bool a1_3, .bool a1_4] 29 (0, 0)) (by (with_reducible repeat (first | refine blk_drewN ?_ _ | refine blk_drew ?_ | refine blk_alloc ?_ _)); exact BK578.out) hb)) (aM (below_step (by repeat (first | (with_reducible first | exact HB.out | apply bA | apply bN | apply bD | refine below_set ?_ GE578.out) | exact HB.out)) hb)); clear BK578 HB; obtain ⟨BK578, HB⟩ := n_; (try clear hb)))
    go_ret
    exact ⟨zE, by repeat (first | (with_reducible first | exact HB.out | apply bA | apply bN | apply bD | refine below_set ?_ GE578.out) | exact HB.out)⟩
   ·replace c23 := Bool.eq_false_iff.mpr c23
    subst c23
    rw [if_neg (show ¬ (false = true) by decide)] at H
    obtain ⟨y583, hy583⟩ : ∃ y_ : List ByteArray, y_ = (([] : List ByteArray)) := ⟨_, rfl⟩
    replace H : (if 0 ≤ a2 then (if a2 ≤ (l1_1.length : Int) then (if y583.length + (l1_1.take (a2 : Int).toNat).length < 8796093022208 then ((some (y583 ++ (l1_1.take (a2 : Int).toNat) : List ByteArray)).bind fun y587 => (if 0 ≤ (wrap64 (a2 + 1)) then (if (wrap64 (a2 + 1)) ≤ (l1_1.length : Int) then (if y587.length + (l1_1.drop ((wrap64 (a2 + 1)) : Int).toNat).length < 8796093022208 then ((some (y587 ++ (l1_1.drop ((wrap64 (a2 + 1)) : Int).toNat) : List ByteArray)).bind fun y591 => ((pieces_Check.f kj3 a1_0 y591 a1_2 a1_3 a1_4).bind fun t594 => (if t594 = 0 then ((pieces_Match.f kj3 a0 a1_0 y591 a1_2 a1_3 a1_4).bind fun t595 => (if t595 = true then ((toponymlaw13_awake.f kj3).bind fun t596 => (some t596)) else (some false))) else ((toponymlaw13_awake.f kj3).bind fun t597 => (some t597))))) else (none)) else (none)) else (none))) else (none)) else (none)) else (none)) = some r := zY hy583 H
    have Ny583 := aM hy583
    clear hy583
    by_cases c26 : 0 ≤ a2
    ·rw [if_pos c26] at H
     have c26b0 := eq_true c26
     have c26b1 : decide (0 ≤ a2) = true := decide_eq_true c26
     clear c26
     by_cases c27 : a2 ≤ (l1_1.length : Int)
     ·rw [if_pos c27] at H
      have c27b0 := eq_true c27
      have c27b1 : decide (a2 ≤ (l1_1.length : Int)) = true := decide_eq_true c27
      clear c27
      by_cases c28 : y583.length + (l1_1.take (a2 : Int).toNat).length < 8796093022208
      ·rw [if_pos c28] at H
       have LMc28 := aM c28
       clear c28
       obtain ⟨y587, hy587⟩ : ∃ y_ : List ByteArray, y_ = (y583 ++ (l1_1.take (a2 : Int).toNat)) := ⟨_, rfl⟩
       replace H : (if 0 ≤ (wrap64 (a2 + 1)) then (if (wrap64 (a2 + 1)) ≤ (l1_1.length : Int) then (if y587.length + (l1_1.drop ((wrap64 (a2 + 1)) : Int).toNat).length < 8796093022208 then ((some (y587 ++ (l1_1.drop ((wrap64 (a2 + 1)) : Int).toNat) : List ByteArray)).bind fun y591 => ((pieces_Check.f kj3 a1_0 y591 a1_2 a1_3 a1_4).bind fun t594 => (if t594 = 0 then ((pieces_Match.f kj3 a0 a1_0 y591 a1_2 a1_3 a1_4).bind fun t595 => (if t595 = true then ((toponymlaw13_awake.f kj3).bind fun t596 => (some t596)) else (some false))) else ((toponymlaw13_awake.f kj3).bind fun t597 => (some t597))))) else (none)) else (none)) else (none)) = some r := zY hy587 H
       have Ny587 := aM hy587
       clear hy587
       obtain ⟨ji29, hji29⟩ : ∃ j_ : Int, (wrap64 (a2 + 1)) = j_ := ⟨_, rfl⟩
       replace H : (if 0 ≤ (ji29) then (if (ji29) ≤ (l1_1.length : Int) then (if y587.length + (l1_1.drop ((ji29) : Int).toNat).length < 8796093022208 then ((some (y587 ++ (l1_1.drop ((ji29) : Int).toNat) : List ByteArray)).bind fun y591 => ((pieces_Check.f kj3 a1_0 y591 a1_2 a1_3 a1_4).bind fun t594 => (if t594 = 0 then ((pieces_Match.f kj3 a0 a1_0 y591 a1_2 a1_3 a1_4).bind fun t595 => (if t595 = true then ((toponymlaw13_awake.f kj3).bind fun t596 => (some t596)) else (some false))) else ((toponymlaw13_awake.f kj3).bind fun t597 => (some t597))))) else (none)) else (none)) else (none)) = some r := by first | (rw [hji29] at H; exact H) | (simp only [hji29] at H ⊢; exact H)
       have hji29w : (IntKind.i64.wrap (a2 + 1)) = ji29 := (i64_w _).trans hji29
       by_cases c30 : 0 ≤ (ji29)
       ·rw [if_pos c30] at H
        have c30b0 := eq_true c30
        have c30b1 : decide (0 ≤ (ji29)) = true := decide_eq_true c30
        clear c30
        by_cases c31 : (ji29) ≤ (l1_1.length : Int)
        ·rw [if_pos c31] at H
         have c31b0 := eq_true c31
         have c31b1 : decide ((ji29) ≤ (l1_1.length : Int)) = true := decide_eq_true c31
         clear c31
         by_cases c32 : y587.length + (l1_1.drop ((ji29) : Int).toNat).length < 8796093022208
         ·rw [if_pos c32] at H
          have LMc32 := aM c32
          clear c32
          obtain ⟨y591, hy591⟩ : ∃ y_ : List ByteArray, y_ = (y587 ++ (l1_1.drop ((ji29) : Int).toNat)) := ⟨_, rfl⟩
          replace H : ((pieces_Check.f kj3 a1_0 y591 a1_2 a1_3 a1_4).bind fun t594 => (if t594 = 0 then ((pieces_Match.f kj3 a0 a1_0 y591 a1_2 a1_3 a1_4).bind fun t595 => (if t595 = true then ((toponymlaw13_awake.f kj3).bind fun t596 => (some t596)) else (some false))) else ((toponymlaw13_awake.f kj3).bind fun t597 => (some t597)))) = some r := zY hy591 H
          have Ny591 := aM hy591
          clear hy591
          obtain ⟨t594, A33, H⟩ := zO H
          by_cases c34 : t594 = 0
          ·rw [if_pos c34] at H
           have c34b0 : (t594 == 0) = true := beq_iff_eq.mpr c34
           have c34b1 : (t594 != 0) = false := bne_eq_false_iff_eq.mpr c34
           clear c34
           obtain ⟨t595, A35, H⟩ := zO H
           by_cases c36 : t595 = true
           ·subst c36
            rw [if_pos rfl] at H
            obtain ⟨t596, A37, H⟩ := zO H
            obtain rfl := sI H
            have hcz38_0 : wc.cell? ⟨gb578, 0, none⟩ = some (.string a1_0) := (blk_cell BK578.out 0).trans rfl
            have hcz38_1 : wc.cell? ⟨gb578, 1, none⟩ = some (.slice A1_1 l1_1.length c1_1) := (blk_cell BK578.out 1).trans rfl
            have hcz38_2 : wc.cell? ⟨gb578, 2, none⟩ = some (.string a1_2) := (blk_cell BK578.out 2).trans rfl
            have hcz38_3 : wc.cell? ⟨gb578, 3, none⟩ = some (.bool a1_3) := (blk_cell BK578.out 3).trans rfl
            have hcz38_4 : wc.cell? ⟨gb578, 4, none⟩ = some (.bool a1_4) := (blk_cell BK578.out 4).trans rfl
            have hfz38_0 := blk_frozen BK578.out 0
            have hfz38_1 := blk_frozen BK578.out 1
            have hfz38_2 := blk_frozen BK578.out 2
            have hfz38_3 := blk_frozen BK578.out 3
            have hfz38_4 := blk_frozen BK578.out 4
            try go_wp2_with (first | ((with_reducible refine gate_dst (N := 7) rfl ?_); (try (refine gate_guard (by rfl) ?_; dsimp only)); refine box_event ?hg (N := 7) ?hd (cs := #[.string (⟨#[]⟩ : ByteArray), .slice none 0 0, .string (⟨#[]⟩ : ByteArray), .bool false, .bool false]) (t := 29) ?hr ?_; (case hd => rfl); (case hg => rfl); (case hr => first | (go_simp; done) | (go_simp; rfl)); intro gb582 hg w39 hbox hb; have n_ := zI (aM (blk_below (g := gb578) (o := .cells #[.string a1_0, .slice A1_1 l1_1.length c1_1, .string a1_2, .bool a1_3, .bool a1_4] 29 (0, 0)) (by (with_reducible repeat (first | refine blk_drewN ?_ _ | refine blk_drew ?_ | refine blk_alloc ?_ _)); exact BK578.out) hb)) (zI (aM (below_step (by repeat (first | (with_reducible first | exact HB.out | apply bA | apply bN | apply bD | refine below_set ?_ GE578.out) | exact HB.out)) hb)) (zI (aM (hbox)) (zI (aM ((by rw [hg]; exact (below_size (by repeat (first | (with_reducible first | exact HB.out | apply bA | apply bN | apply bD | refine below_set ?_ GE578.out) | exact HB.out))) : w.heap.size ≤ gb582))) (zI (aM ((by rw [hg]; exact (below_size (by repeat (first | (with_reducible first | exact HB.out | apply bA | apply bN | apply bD | refine below_set ?_ GE578.out) | exact HB.out))) : w.heap.size ≤ gb582))) (zI (aM ((by rw [hg]; exact Nat.ne_of_lt (blk_lt (g := gb578) (o := .cells #[.string a1_0, .slice A1_1 l1_1.length c1_1, .string a1_2, .bool a1_3, .bool a1_4] 29 (0, 0)) (by (with_reducible repeat (first | refine blk_drewN ?_ _ | refine blk_drew ?_ | refine blk_alloc ?_ _)); exact BK578.out)) : gb578 ≠ gb582))) (aM ((by rw [hg]; exact Nat.ne_of_gt (blk_lt (g := gb578) (o := .cells #[.string a1_0, .slice A1_1 l1_1.length c1_1, .string a1_2, .bool a1_3, .bool a1_4] 29 (0, 0)) (by (with_reducible repeat (first | refine blk_drewN ?_ _ | refine blk_drew ?_ | refine blk_alloc ?_ _)); exact BK578.out)) : gb582 ≠ gb578)))))))); clear BK578 HB; obtain ⟨BK578, HB, BK582, GW582, GE582, NB578_582, NB582_578⟩ := n_; clear hb hbox hg; have hnb40 := NB582_578.out; have hnc40 := NB578_582.out; have hcz41_0 : w39.cell? ⟨gb582, 0, none⟩ = some (.string (⟨#[]⟩ : ByteArray)) := (blk_cell BK582.out 0).trans rfl; have hcz41_1 : w39.cell? ⟨gb582, 1, none⟩ = some (.slice none 0 0) := (blk_cell BK582.out 1).trans rfl; have hcz41_2 : w39.cell? ⟨gb582, 2, none⟩ = some (.string (⟨#[]⟩ : ByteArray)) := (blk_cell BK582.out 2).trans rfl; have hcz41_3 : w39.cell? ⟨gb582, 3, none⟩ = some (.bool false) := (blk_cell BK582.out 3).trans rfl; have hcz41_4 : w39.cell? ⟨gb582, 4, none⟩ = some (.bool false) := (blk_cell BK582.out 4).trans rfl; have hfz41_0 := blk_frozen BK582.out 0; have hfz41_1 := blk_frozen BK582.out 1; have hfz41_2 := blk_frozen BK582.out 2; have hfz41_3 := blk_frozen BK582.out 3; have hfz41_4 := blk_frozen BK582.out 4))
            have n0_ : Aside0 ((((((w39.setCell ⟨gb582, 0, none⟩ (.string a1_0)).setCell ⟨gb582, 1, none⟩ (.slice A1_1 l1_1.length c1_1)).setCell ⟨gb582, 2, none⟩ (.string a1_2)).setCell ⟨gb582, 3, none⟩ (.bool a1_3)).setCell ⟨gb582, 4, none⟩ (.bool a1_4)).heap[gb578]? = some (.cells #[.string a1_0, .slice A1_1 l1_1.length c1_1, .string a1_2, .bool a1_3, .bool a1_4] 29 (0, 0))) := ⟨by (with_reducible repeat (first | refine blk_drewN ?_ _ | refine blk_drew ?_ | refine blk_alloc ?_ _)); refine blk_far ?_ NB578_582.out _; (with_reducible repeat (first | refine blk_drewN ?_ _ | refine blk_drew ?_ | refine blk_alloc ?_ _)); refine blk_far ?_ NB578_582.out _; (with_reducible repeat (first | refine blk_drewN ?_ _ | refine blk_drew ?_ | refine blk_alloc ?_ _)); refine blk_far ?_ NB578_582.out _; (with_reducible repeat (first | refine blk_drewN ?_ _ | refine blk_drew ?_ | refine blk_alloc ?_ _)); refine blk_far ?_ NB578_582.out _; (with_reducible repeat (first | refine blk_drewN ?_ _ | refine blk_drew ?_ | refine blk_alloc ?_ _)); refine blk_far ?_ NB578_582.out _; (with_reducible repeat (first | refine blk_drewN ?_ _ | refine blk_drew ?_ | refine blk_alloc ?_ _)); exact BK578.out⟩
            have n1_ : Aside0 ((((((w39.setCell ⟨gb582, 0, none⟩ (.string a1_0)).setCell ⟨gb582, 1, none⟩ (.slice A1_1 l1_1.length c1_1)).setCell ⟨gb582, 2, none⟩ (.string a1_2)).setCell ⟨gb582, 3, none⟩ (.bool a1_3)).setCell ⟨gb582, 4, none⟩ (.bool a1_4)).heap[gb582]? = some (.cells #[.string a1_0, .slice A1_1 l1_1.length c1_1, .string a1_2, .bool a1_3, .bool a1_4] 29 (0, 0))) := ⟨by (with_reducible repeat (first | refine blk_drewN ?_ _ | refine blk_drew ?_ | refine blk_alloc ?_ _)); refine blk_put (cs := #[.string a1_0, .slice A1_1 l1_1.length c1_1, .string a1_2, .bool a1_3, .bool false]) ?_ 4 _ rfl; (with_reducible repeat (first | refine blk_drewN ?_ _ | refine blk_drew ?_ | refine blk_alloc ?_ _)); refine blk_put (cs := #[.string a1_0, .slice A1_1 l1_1.length c1_1, .string a1_2, .bool false, .bool false]) ?_ 3 _ rfl; (with_reducible repeat (first | refine blk_drewN ?_ _ | refine blk_drew ?_ | refine blk_alloc ?_ _)); refine blk_put (cs := #[.string a1_0, .slice A1_1 l1_1.length c1_1, .string (⟨#[]⟩ : ByteArray), .bool false, .bool false]) ?_ 2 _ rfl; (with_reducible repeat (first | refine blk_drewN ?_ _ | refine blk_drew ?_ | refine blk_alloc ?_ _)); refine blk_put (cs := #[.string a1_0, .slice none 0 0, .string (⟨#[]⟩ : ByteArray), .bool false, .bool false]) ?_ 1 _ rfl; (with_reducible repeat (first | refine blk_drewN ?_ _ | refine blk_drew ?_ | refine blk_alloc ?_ _)); refine blk_put (cs := #[.string (⟨#[]⟩ : ByteArray), .slice none 0 0, .string (⟨#[]⟩ : ByteArray), .bool false, .bool false]) ?_ 0 _ rfl; (with_reducible repeat (first | refine blk_drewN ?_ _ | refine blk_drew ?_ | refine blk_alloc ?_ _)); exact BK582.out⟩
            have n2_ : Aside0 (Below w.heap.size w (((((w39.setCell ⟨gb582, 0, none⟩ (.string a1_0)).setCell ⟨gb582, 1, none⟩ (.slice A1_1 l1_1.length c1_1)).setCell ⟨gb582, 2, none⟩ (.string a1_2)).setCell ⟨gb582, 3, none⟩ (.bool a1_3)).setCell ⟨gb582, 4, none⟩ (.bool a1_4))) := ⟨by repeat (first | (with_reducible first | exact HB.out | apply bA | apply bN | apply bD | refine below_set ?_ GE578.out | refine below_set ?_ GE582.out) | exact HB.out)⟩
            (try clear BK578)
            (try clear BK582)
            (try clear HB)
            generalize (((((w39.setCell ⟨gb582, 0, none⟩ (.string a1_0)).setCell ⟨gb582, 1, none⟩ (.slice A1_1 l1_1.length c1_1)).setCell ⟨gb582, 2, none⟩ (.string a1_2)).setCell ⟨gb582, 3, none⟩ (.bool a1_3)).setCell ⟨gb582, 4, none⟩ (.bool a1_4)) = w42 at n0_ n1_ n2_ ⊢
            have BK578 := n0_
            have BK582 := n1_
            have HB := n2_
            clear n0_ n1_ n2_
            have n0_ := aM (blk_drew BK578.out)
            have n1_ := aM (blk_drew BK582.out)
            have n2_ := aM (bD HB.out)
            clear BK578
            clear BK582
            clear HB
            have BK578 := n0_
            have BK582 := n1_
            have HB := n2_
            clear n0_ n1_ n2_
            obtain ⟨i044, hi044, _, hsz44, _⟩ := info_parts info9
            obtain ⟨hcut44, hA44, hC44⟩ := print_take_of (P := Try.prog) Value.string (⟨#[]⟩ : ByteArray) 27 9 .i64 Try.underlying27 hi044 hsz44 A1_1 c1_1 l1_1 a2 (zoA) (zoA) HC1_1.out
            have HR586 := aM (Kd.C_of_reads (h1 := fun _ => rfl) (hA44 _ (Kd.reads_of_C HR1_1.out)))
            have HC586 := aM hC44
            clear hA44 hC44 hi044 hsz44
            obtain ⟨i045, hi045, _, hsz45, _⟩ := info_parts info9
            obtain ⟨A45, hcut45, hA45, hC45⟩ := print_drop_of (P := Try.prog) Value.string (⟨#[]⟩ : ByteArray) 27 9 .i64 Try.underlying27 hi045 hsz45 A1_1 c1_1 l1_1 (ji29) (zoA) (zoA) HC1_1.out
            have HR590 := aM (Kd.C_of_reads (h1 := fun _ => rfl) (hA45 _ (Kd.reads_of_C HR1_1.out)))
            have HC590 := aM hC45
            clear hA45 hC45 hi045 hsz45
            refine start_ (n := 14) (S := fun w' => w'.cell? ⟨gb578, 0, none⟩ = some (.string a1_0) ∧ w'.cell? ⟨gb578, 1, none⟩ = some (.slice A1_1 l1_1.length c1_1) ∧ w'.cell? ⟨gb578, 2, none⟩ = some (.string a1_2) ∧ w'.cell? ⟨gb578, 3, none⟩ = some (.bool a1_3) ∧ w'.cell? ⟨gb578, 4, none⟩ = some (.bool a1_4)) (ds := []) #[false, false, false, false, false, false, false, false, false, false, false, false, false, false] zK rfl rfl ⟨(blk_cell BK578.out 0).trans rfl, (blk_cell BK578.out 1).trans rfl, (blk_cell BK578.out 2).trans rfl, (blk_cell BK578.out 3).trans rfl, (blk_cell BK578.out 4).trans rfl⟩ (fun hHeld => ?_); refine with_tabW toponymlaw13_PiecesMore.tab4 toponymlaw13_PiecesMore.bits4 (fun HT_ HW_ => ?_)
            generalize w42.drew = w43 at BK578 BK582 HB HR586 HR590 hHeld ⊢
            refine pure_ (i := 1) (N := some 36) (v := ?_) (a' := ?_) #[false, true, false, false, false, false, false, false, false, false, false, false, false, false] rfl rfl (any_of HT_.out zK) (fun _ _ _ h => h) (Or.inl ⟨by rfl, ?_⟩) ?_ ?_
            rotate_left
            ·intro w'
             go_simp
             with_reducible rfl
            rotate_left
            ·simp only [Act.put, List.setIfInBounds_toArray, List.set_cons_zero, List.set_cons_succ, i64_w, i32_w]
             rfl
            refine pure_ (i := 3) (N := some 38) (v := ?_) (a' := ?_) #[false, true, false, true, false, false, false, false, false, false, false, false, false, false] rfl rfl (any_of HT_.out zK) (fun _ _ _ h => h) (Or.inl ⟨by rfl, ?_⟩) ?_ ?_
            rotate_left
            ·intro w'
             go_simp
             with_reducible rfl
            rotate_left
            ·simp only [Act.put, List.setIfInBounds_toArray, List.set_cons_zero, List.set_cons_succ, i64_w, i32_w]
             rfl
            refine pure_ (i := 6) (N := some 41) (v := ?_) (a' := ?_) #[false, true, false, true, false, false, true, false, false, false, false, false, false, false] rfl rfl (any_of HT_.out zK) (fun _ _ _ h => h) (Or.inl ⟨by rfl, ?_⟩) ?_ ?_
            rotate_left
            ·intro w'
             go_simp
             with_reducible rfl
            rotate_left
            ·simp only [Act.put, List.setIfInBounds_toArray, List.set_cons_zero, List.set_cons_succ, i64_w, i32_w]
             rfl
            refine pure_ (i := 8) (N := some 43) (v := ?_) (a' := ?_) #[false, true, false, true, false, false, true, false, true, false, false, false, false, false] rfl rfl (any_of HT_.out zK) (fun _ _ _ h => h) (Or.inl ⟨by rfl, ?_⟩) ?_ ?_
            rotate_left
            ·intro w'
             go_simp
             with_reducible rfl
            rotate_left
            ·simp only [Act.put, List.setIfInBounds_toArray, List.set_cons_zero, List.set_cons_succ, i64_w, i32_w]
             rfl
            refine pure_ (i := 9) (N := some 44) (v := ?_) (a' := ?_) #[false, true, false, true, false, false, true, false, true, true, false, false, false, false] rfl rfl (any_of HT_.out zK) (fun _ _ _ h => h) (Or.inl ⟨by rfl, ?_⟩) ?_ ?_
            rotate_left
            ·intro w'
             go_simp
             with_reducible rfl
            rotate_left
            ·simp only [Act.put, List.setIfInBounds_toArray, List.set_cons_zero, List.set_cons_succ, i64_w, i32_w]
             rfl
            refine take_ (i := 2) (N := some 37) (v := ?_) (a' := ?_) #[false, true, true, true, false, false, true, false, true, true, false, false, false, false] rfl rfl (take_ofW HT_.out HW_.out zK) (fun _ _ _ h => h) (Or.inl ⟨by rfl, ?_⟩) hHeld ?_ ?_
            rotate_left
            ·rintro w' ⟨s0, s1, s2, s3, s4⟩
             go_simp
             with_reducible rfl
            rotate_left
            ·simp only [Act.put, List.setIfInBounds_toArray, List.set_cons_zero, List.set_cons_succ, i64_w, i32_w]
             rfl
            refine pure_ (i := 4) (N := some 39) (v := ?_) (a' := ?_) #[false, true, true, true, true, false, true, false, true, true, false, false, false, false] rfl rfl (any_of HT_.out zK) (fun _ _ _ h => h) (Or.inl ⟨by rfl, ?_⟩) ?_ ?_
            rotate_left
            ·intro w'
             go_simp
             with_reducible rfl
            rotate_left
            ·simp only [Act.put, List.setIfInBounds_toArray, List.set_cons_zero, List.set_cons_succ, i64_w, i32_w]
             rfl
            refine take_ (i := 7) (N := some 42) (v := ?_) (a' := ?_) #[false, true, true, true, true, false, true, true, true, true, false, false, false, false] rfl rfl (take_ofW HT_.out HW_.out zK) (fun _ _ _ h => h) (Or.inl ⟨by rfl, ?_⟩) hHeld ?_ ?_
            rotate_left
            ·rintro w' ⟨s0, s1, s2, s3, s4⟩
             go_simp
             with_reducible rfl
            rotate_left
            ·simp only [Act.put, List.setIfInBounds_toArray, List.set_cons_zero, List.set_cons_succ, i64_w, i32_w]
             rfl
            refine pure_ (i := 10) (N := some 45) (v := ?_) (a' := ?_) #[false, true, true, true, true, false, true, true, true, true, true, false, false, false] rfl rfl (any_of HT_.out zK) (fun _ _ _ h => h) (Or.inl ⟨by rfl, ?_⟩) ?_ ?_
            rotate_left
            ·intro w'
             go_simp
             with_reducible rfl
            rotate_left
            ·simp only [Act.put, List.setIfInBounds_toArray, List.set_cons_zero, List.set_cons_succ, i64_w, i32_w]
             rfl
            refine one_ (i := 0) (N := some 35) #[true, true, true, true, true, false, true, true, true, true, true, false, false, false] rfl rfl (one_of HT_.out zK) (by decide) (fun K hK => ?_)
            refine Kd.R_lit_step Kd.string _ 9 ?hg (N := 35) ?hd (xs := ([] : List ByteArray)) (inner := []) (ok := fun _ => True) (okp := fun _ => True) ?hr ?hp (fun _ hk => hk) trivial (Below.refl _ _) (Nat.le_refl _) (by simp) ?_; (case hd => rfl); (case hg => rfl); (case hr => first | (go_simp; done) | (go_simp; rfl)); (case hp => exact (Reps.none _ _))
            intro v584 w46 ho47 hb hg_ hnew_
            clear hg_ hnew_
            (first | rw [← Ny583.out] at ho47 | (simp only [Int.reduceToNat] at ho47; rw [← Ny583.out] at ho47))
            have n0_ := aM (Kd.R_lower ho47 (below_size (by repeat (first | (with_reducible first | exact HB.out | apply bA | apply bN | apply bD | refine below_set ?_ GE578.out | refine below_set ?_ GE582.out) | exact HB.out))))
            have n1_ := aM (blk_below (g := gb578) (o := .cells #[.string a1_0, .slice A1_1 l1_1.length c1_1, .string a1_2, .bool a1_3, .bool a1_4] 29 (0, 0)) (by (with_reducible repeat (first | refine blk_drewN ?_ _ | refine blk_drew ?_ | refine blk_alloc ?_ _)); exact BK578.out) hb)
            have n2_ := aM (blk_below (g := gb582) (o := .cells #[.string a1_0, .slice A1_1 l1_1.length c1_1, .string a1_2, .bool a1_3, .bool a1_4] 29 (0, 0)) (by (with_reducible repeat (first | refine blk_drewN ?_ _ | refine blk_drew ?_ | refine blk_alloc ?_ _)); exact BK582.out) hb)
            have n3_ := aM (below_step (by repeat (first | (with_reducible first | exact HB.out | apply bA | apply bN | apply bD | refine below_set ?_ GE578.out | refine below_set ?_ GE582.out) | exact HB.out)) hb)
            clear BK578
            clear BK582
            clear HB
            have HO585 := n0_
            have BK578 := n1_
            have BK582 := n2_
            have HB := n3_
            clear n0_ n1_ n2_ n3_
            clear hb ho47
            refine hK.out _ _ ⟨(blk_cell BK578.out 0).trans rfl, (blk_cell BK578.out 1).trans rfl, (blk_cell BK578.out 2).trans rfl, (blk_cell BK578.out 3).trans rfl, (blk_cell BK578.out 4).trans rfl⟩ (fun hHeld => ?_)
            clear hK K
            refine norm_ (a' := ?_) ?_ ?_
            rotate_left
            ·show Act.put _ (some 35) _ = _
             simp only [Act.put, List.setIfInBounds_toArray, List.set_cons_zero, List.set_cons_succ, i64_w, i32_w]
             rfl
            refine one_ (i := 5) (N := some 40) #[true, true, true, true, true, true, true, true, true, true, true, false, false, false] rfl rfl (one_of HT_.out zK) (by decide) (fun K hK => ?_)
            refine Kd.R_append_rows_step Kd.string (w0 := w) w.heap.size (by rfl) (.tmp 35) (.tmp 39) 27 9 (.string ⟨#[]⟩) 16 rfl Try.underlying27 info9 rfl (by decide) (by omega) v584 y583 (l1_1.take (a2 : Int).toNat) _ _ _ (fun _ => True) (fun _ => False) rfl rfl ?aO ?aR (fun _ _ h => h) (fun _ h => h.elim) ?aF ?aB ?aS ?aL ?_
            (case aR => first | (rw [← show (l1_1.take (a2 : Int).toNat).length = a2.toNat from (by rw [List.length_take]; have h_ : (a2 : Int) ≤ (l1_1.length : Int) := zoA; omega)]; (repeat (first | exact (Kd.C_below HR586.out HB.out) | (with_reducible refine Kd.C_alloc ?_ _) | (with_reducible refine Kd.C_drewN ?_ _) | (with_reducible refine Kd.C_drew ?_))); done) | ((repeat (first | exact (Kd.C_below HR586.out HB.out) | (with_reducible refine Kd.C_alloc ?_ _) | (with_reducible refine Kd.C_drewN ?_ _) | (with_reducible refine Kd.C_drew ?_))); done) | ((conv => arg 5; rw [← show (l1_1.take (a2 : Int).toNat).length = a2.toNat from (by rw [List.length_take]; have h_ : (a2 : Int) ≤ (l1_1.length : Int) := zoA; omega)]); (repeat (first | exact (Kd.C_below HR586.out HB.out) | (with_reducible refine Kd.C_alloc ?_ _) | (with_reducible refine Kd.C_drewN ?_ _) | (with_reducible refine Kd.C_drew ?_))); done))
            (case aB => exact (by repeat (first | (with_reducible first | exact HB.out | apply bA | apply bN | apply bD | refine below_set ?_ GE578.out | refine below_set ?_ GE582.out) | exact HB.out)))
            (case aF => exact (fun _ _ => trivial))
            (case aO => exact (zR HO585))
            (case aS => exact (below_size (by repeat (first | (with_reducible first | exact HB.out | apply bA | apply bN | apply bD | refine below_set ?_ GE578.out | refine below_set ?_ GE582.out) | exact HB.out))))
            (case aL => have := LMc28.out; have hlx_ := (show (l1_1.take (a2 : Int).toNat).length = a2.toNat from (by rw [List.length_take]; have h_ : (a2 : Int) ≤ (l1_1.length : Int) := zoA; omega)); omega)
            intro v588 w48 ho hb hg hat
            rw [← Ny587.out] at ho
            have n0_ := aM (blk_grown (g := gb578) (o := .cells #[.string a1_0, .slice A1_1 l1_1.length c1_1, .string a1_2, .bool a1_3, .bool a1_4] 29 (0, 0)) (by (with_reducible repeat (first | refine blk_drewN ?_ _ | refine blk_drew ?_ | refine blk_alloc ?_ _)); exact BK578.out) hg (Kd.R_ne HO585.out BK578.out (by decide)))
            have n1_ := aM (blk_grown (g := gb582) (o := .cells #[.string a1_0, .slice A1_1 l1_1.length c1_1, .string a1_2, .bool a1_3, .bool a1_4] 29 (0, 0)) (by (with_reducible repeat (first | refine blk_drewN ?_ _ | refine blk_drew ?_ | refine blk_alloc ?_ _)); exact BK582.out) hg (Kd.R_ne HO585.out BK582.out (by decide)))
            have n2_ := aM (hb)
            have n3_ := aM (ho)
            clear BK578
            clear BK582
            clear HB
            clear HO585
            have BK578 := n0_
            have BK582 := n1_
            have HB := n2_
            have HO589 := n3_
            clear n0_ n1_ n2_ n3_
            clear ho hb hg hat
            refine hK.out _ _ ⟨(blk_cell BK578.out 0).trans rfl, (blk_cell BK578.out 1).trans rfl, (blk_cell BK578.out 2).trans rfl, (blk_cell BK578.out 3).trans rfl, (blk_cell BK578.out 4).trans rfl⟩ (fun hHeld => ?_)
            clear hK K
            refine norm_ (a' := ?_) ?_ ?_
            rotate_left
            ·show Act.put _ (some 40) _ = _
             simp only [Act.put, List.setIfInBounds_toArray, List.set_cons_zero, List.set_cons_succ, i64_w, i32_w]
             rfl
            refine one_ (i := 11) (N := some 46) #[true, true, true, true, true, true, true, true, true, true, true, true, false, false] rfl rfl (one_of HT_.out zK) (by decide) (fun K hK => ?_)
            refine Kd.R_append_rows_step Kd.string (w0 := w) w.heap.size (by rfl) (.tmp 40) (.tmp 45) 27 9 (.string ⟨#[]⟩) 16 rfl Try.underlying27 info9 rfl (by decide) (by omega) v588 y587 (l1_1.drop ((ji29) : Int).toNat) _ _ _ (fun _ => True) (fun _ => False) rfl rfl ?aO ?aR (fun _ _ h => h) (fun _ h => h.elim) ?aF ?aB ?aS ?aL ?_
            (case aR => first | (rw [← show (l1_1.drop ((ji29) : Int).toNat).length = (l1_1.length - (ji29).toNat) from List.length_drop]; (repeat (first | exact (Kd.C_below HR590.out HB.out) | (with_reducible refine Kd.C_alloc ?_ _) | (with_reducible refine Kd.C_drewN ?_ _) | (with_reducible refine Kd.C_drew ?_))); done) | ((repeat (first | exact (Kd.C_below HR590.out HB.out) | (with_reducible refine Kd.C_alloc ?_ _) | (with_reducible refine Kd.C_drewN ?_ _) | (with_reducible refine Kd.C_drew ?_))); done) | ((conv => arg 5; rw [← show (l1_1.drop ((ji29) : Int).toNat).length = (l1_1.length - (ji29).toNat) from List.length_drop]); (repeat (first | exact (Kd.C_below HR590.out HB.out) | (with_reducible refine Kd.C_alloc ?_ _) | (with_reducible refine Kd.C_drewN ?_ _) | (with_reducible refine Kd.C_drew ?_))); done))
            (case aB => exact (by repeat (first | (with_reducible first | exact HB.out | apply bA | apply bN | apply bD | refine below_set ?_ GE578.out | refine below_set ?_ GE582.out) | exact HB.out)))
            (case aF => exact (fun _ _ => trivial))
            (case aO => exact (zR HO589))
            (case aS => exact (below_size (by repeat (first | (with_reducible first | exact HB.out | apply bA | apply bN | apply bD | refine below_set ?_ GE578.out | refine below_set ?_ GE582.out) | exact HB.out))))
            (case aL => have := LMc32.out; have hlx_ := (show (l1_1.drop ((ji29) : Int).toNat).length = (l1_1.length - (ji29).toNat) from List.length_drop); omega)
            intro v592 w49 ho hb hg hat
            rw [← Ny591.out] at ho
            have n0_ := aM (blk_grown (g := gb578) (o := .cells #[.string a1_0, .slice A1_1 l1_1.length c1_1, .string a1_2, .bool a1_3, .bool a1_4] 29 (0, 0)) (by (with_reducible repeat (first | refine blk_drewN ?_ _ | refine blk_drew ?_ | refine blk_alloc ?_ _)); exact BK578.out) hg (Kd.R_ne HO589.out BK578.out (by decide)))
            have n1_ := aM (blk_grown (g := gb582) (o := .cells #[.string a1_0, .slice A1_1 l1_1.length c1_1, .string a1_2, .bool a1_3, .bool a1_4] 29 (0, 0)) (by (with_reducible repeat (first | refine blk_drewN ?_ _ | refine blk_drew ?_ | refine blk_alloc ?_ _)); exact BK582.out) hg (Kd.R_ne HO589.out BK582.out (by decide)))
            have n2_ := aM (hb)
            have n3_ := aM (ho)
            clear BK578
            clear BK582
            clear HB
            clear HO589
            have BK578 := n0_
            have BK582 := n1_
            have HB := n2_
            have HO593 := n3_
            clear n0_ n1_ n2_ n3_
            clear ho hb hg hat
            obtain ⟨Ao50, co50, eo50⟩ := Kd.R_slice HO593.out
            (first | subst eo50 | (injection eo50 with f1_ f2_ f3_; have f4_ := f1_.symm; have f5_ := f3_.symm; clear f1_ f2_ f3_; subst f4_; subst f5_))
            refine hK.out _ _ ⟨(blk_cell BK578.out 0).trans rfl, (blk_cell BK578.out 1).trans rfl, (blk_cell BK578.out 2).trans rfl, (blk_cell BK578.out 3).trans rfl, (blk_cell BK578.out 4).trans rfl⟩ (fun hHeld => ?_)
            clear hK K
            refine norm_ (a' := ?_) ?_ ?_
            rotate_left
            ·show Act.put _ (some 46) _ = _
             simp only [Act.put, List.setIfInBounds_toArray, List.set_cons_zero, List.set_cons_succ, i64_w, i32_w]
             rfl
            refine pure_ (i := 12) (N := some 47) (v := ?_) (a' := ?_) #[true, true, true, true, true, true, true, true, true, true, true, true, true, false] rfl rfl (any_of HT_.out zK) (fun _ _ _ h => h) (Or.inl ⟨by rfl, ?_⟩) ?_ ?_
            rotate_left
            ·intro w'
             go_simp
             with_reducible rfl
            rotate_left
            ·simp only [Act.put, List.setIfInBounds_toArray, List.set_cons_zero, List.set_cons_succ, i64_w, i32_w]
             rfl
            refine one_ (i := 13) (N := none) #[true, true, true, true, true, true, true, true, true, true, true, true, true, true] rfl rfl (one_of HT_.out zK) (by decide) (fun K hK => ?_)
            have hs51 : w49.cell? ⟨gb582, 1, none⟩ = some (.slice A1_1 l1_1.length c1_1) := (blk_cell BK582.out 1).trans rfl
            have hfs51 := blk_frozen BK582.out 1
            have hns51_0 := NB578_582.out
            have hms51_0 := NB582_578.out
            refine skip_ (w1 := ?_) (by rfl) rfl ?_ ?_
            rotate_left
            ·go_simp
             rfl
            refine hK.out _ _ ⟨((cell_far (p := ⟨gb582, _, none⟩) NB578_582.out _).trans (hHeld.1)), ((cell_far (p := ⟨gb582, _, none⟩) NB578_582.out _).trans (hHeld.2.1)), ((cell_far (p := ⟨gb582, _, none⟩) NB578_582.out _).trans (hHeld.2.2.1)), ((cell_far (p := ⟨gb582, _, none⟩) NB578_582.out _).trans (hHeld.2.2.2.1)), ((cell_far (p := ⟨gb582, _, none⟩) NB578_582.out _).trans (hHeld.2.2.2.2))⟩ (fun hHeld => ?_)
            clear hK K
            refine done_ (done_of HT_.out zK) ?_
            have hcz52_0 : w49.cell? ⟨gb582, 0, none⟩ = some (.string a1_0) := (blk_cell BK582.out 0).trans rfl
            have hcz52_1 : w49.cell? ⟨gb582, 1, none⟩ = some (.slice A1_1 l1_1.length c1_1) := (blk_cell BK582.out 1).trans rfl
            have hcz52_2 : w49.cell? ⟨gb582, 2, none⟩ = some (.string a1_2) := (blk_cell BK582.out 2).trans rfl
            have hcz52_3 : w49.cell? ⟨gb582, 3, none⟩ = some (.bool a1_3) := (blk_cell BK582.out 3).trans rfl
            have hcz52_4 : w49.cell? ⟨gb582, 4, none⟩ = some (.bool a1_4) := (blk_cell BK582.out 4).trans rfl
            have hfz52_0 := blk_frozen BK582.out 0
            have hfz52_1 := blk_frozen BK582.out 1
            have hfz52_2 := blk_frozen BK582.out 2
            have hfz52_3 := blk_frozen BK582.out 3
            have hfz52_4 := blk_frozen BK582.out 4
            try go_wp2_with (first | ((with_reducible refine gate_callee (f := 8) rfl ?_); refine goesL_ (some 49) rfl rfl Try.func8 zK rfl #[.agg #[.string a1_0, .slice Ao50 y591.length co50, .string a1_2, .bool a1_3, .bool a1_4]] rfl zM ?_; (with_reducible refine (pieces_Check.calls kj3 a1_0 _ _ y591 a1_2 a1_3 a1_4 t594 _ ?side1 ?side2 A33.out).mono ?_); (case side1 => refine (Kd.R_reads' (e := 9) (base := w.heap.size) (ok := fun k_ => True) (n := y591.length) (c := co50) ?_).2.2; exact (by (with_reducible repeat (first | apply Kd.R_alloc | apply Kd.R_drewN | apply Kd.R_drew)); exact (Kd.R_mono (Kd.R_far (p := ⟨gb582, 1, none⟩) (Kd.R_types HO593.out BK582.out (by decide)) (fun _ hk => hk.2) (.slice Ao50 y591.length co50)) (fun _ h_ => h_.1)))); (case side2 => exact (Kd.R_reads' HO593.out).2.1); rintro e w53 ⟨rfl, hb⟩; refine ⟨_, rfl, ?_⟩; have n_ := zI (aM (Kd.R_below (by (with_reducible repeat (first | apply Kd.R_alloc | apply Kd.R_drewN | apply Kd.R_drew)); exact (Kd.R_mono (Kd.R_far (p := ⟨gb582, 1, none⟩) (Kd.R_types HO593.out BK582.out (by decide)) (fun _ hk => hk.2) (.slice Ao50 y591.length co50)) (fun _ h_ => h_.1))) hb)) (zI (aM (blk_below (g := gb578) (o := .cells #[.string a1_0, .slice A1_1 l1_1.length c1_1, .string a1_2, .bool a1_3, .bool a1_4] 29 (0, 0)) (by (with_reducible repeat (first | refine blk_drewN ?_ _ | refine blk_drew ?_ | refine blk_alloc ?_ _)); refine blk_far ?_ NB578_582.out _; (with_reducible repeat (first | refine blk_drewN ?_ _ | refine blk_drew ?_ | refine blk_alloc ?_ _)); exact BK578.out) hb)) (zI (aM (blk_below (g := gb582) (o := .cells #[.string a1_0, .slice Ao50 y591.length co50, .string a1_2, .bool a1_3, .bool a1_4] 29 (0, 0)) (by (with_reducible repeat (first | refine blk_drewN ?_ _ | refine blk_drew ?_ | refine blk_alloc ?_ _)); refine blk_put (cs := #[.string a1_0, .slice A1_1 l1_1.length c1_1, .string a1_2, .bool a1_3, .bool a1_4]) ?_ 1 _ rfl; (with_reducible repeat (first | refine blk_drewN ?_ _ | refine blk_drew ?_ | refine blk_alloc ?_ _)); exact BK582.out) hb)) (aM (below_step (by repeat (first | (with_reducible first | exact HB.out | apply bA | apply bN | apply bD | refine below_set ?_ GE578.out | refine below_set ?_ GE582.out) | exact HB.out)) hb)))); clear HO593 BK578 BK582 HB; obtain ⟨HO593, BK578, BK582, HB⟩ := n_; (try clear hb); (try clear hk); have hcz54_0 : w53.cell? ⟨gb582, 0, none⟩ = some (.string a1_0) := (blk_cell BK582.out 0).trans rfl; have hcz54_1 : w53.cell? ⟨gb582, 1, none⟩ = some (.slice Ao50 y591.length co50) := (blk_cell BK582.out 1).trans rfl; have hcz54_2 : w53.cell? ⟨gb582, 2, none⟩ = some (.string a1_2) := (blk_cell BK582.out 2).trans rfl; have hcz54_3 : w53.cell? ⟨gb582, 3, none⟩ = some (.bool a1_3) := (blk_cell BK582.out 3).trans rfl; have hcz54_4 : w53.cell? ⟨gb582, 4, none⟩ = some (.bool a1_4) := (blk_cell BK582.out 4).trans rfl; have hfz54_0 := blk_frozen BK582.out 0; have hfz54_1 := blk_frozen BK582.out 1; have hfz54_2 := blk_frozen BK582.out 2; have hfz54_3 := blk_frozen BK582.out 3; have hfz54_4 := blk_frozen BK582.out 4) | (go_at_call 9; (with_reducible refine (pieces_Match.calls kj3 a0 a1_0 _ _ y591 a1_2 a1_3 a1_4 true _ (zEnv HE) ?side1 ?side2 A35.out).mono ?_); (case side1 => exact zC (Kd.R_reads' HO593.out).2.2); (case side2 => exact (Kd.R_reads' HO593.out).2.1); rintro e w55 ⟨rfl, hb⟩; (try clear A35); have n_ := zI (aM (Kd.R_below (zR HO593) hb)) (zI (aM (blk_below (g := gb578) (o := .cells #[.string a1_0, .slice A1_1 l1_1.length c1_1, .string a1_2, .bool a1_3, .bool a1_4] 29 (0, 0)) (by (with_reducible repeat (first | refine blk_drewN ?_ _ | refine blk_drew ?_ | refine blk_alloc ?_ _)); exact BK578.out) hb)) (zI (aM (blk_below (g := gb582) (o := .cells #[.string a1_0, .slice Ao50 y591.length co50, .string a1_2, .bool a1_3, .bool a1_4] 29 (0, 0)) (by (with_reducible repeat (first | refine blk_drewN ?_ _ | refine blk_drew ?_ | refine blk_alloc ?_ _)); exact BK582.out) hb)) (aM (below_step (by repeat (first | (with_reducible first | exact HB.out | apply bA | apply bN | apply bD | refine below_set ?_ GE578.out | refine below_set ?_ GE582.out) | exact HB.out)) hb)))); clear HO593 BK578 BK582 HB; obtain ⟨HO593, BK578, BK582, HB⟩ := n_; (try clear hb); (try clear hk)) | (go_at_call 6; (with_reducible refine (toponymlaw13_awake.calls kj3  t596 _ (zEnv HE) A37.out).mono ?_); rintro e w56 ⟨rfl, hb⟩; (try clear A37); have n_ := zI (aM (Kd.R_below (zR HO593) hb)) (zI (aM (blk_below (g := gb578) (o := .cells #[.string a1_0, .slice A1_1 l1_1.length c1_1, .string a1_2, .bool a1_3, .bool a1_4] 29 (0, 0)) (by (with_reducible repeat (first | refine blk_drewN ?_ _ | refine blk_drew ?_ | refine blk_alloc ?_ _)); exact BK578.out) hb)) (zI (aM (blk_below (g := gb582) (o := .cells #[.string a1_0, .slice Ao50 y591.length co50, .string a1_2, .bool a1_3, .bool a1_4] 29 (0, 0)) (by (with_reducible repeat (first | refine blk_drewN ?_ _ | refine blk_drew ?_ | refine blk_alloc ?_ _)); exact BK582.out) hb)) (aM (below_step (by repeat (first | (with_reducible first | exact HB.out | apply bA | apply bN | apply bD | refine below_set ?_ GE578.out | refine below_set ?_ GE582.out) | exact HB.out)) hb)))); clear HO593 BK578 BK582 HB; obtain ⟨HO593, BK578, BK582, HB⟩ := n_; (try clear hb); (try clear hk)))
            go_ret
            exact ⟨by first | rfl | (simp [errW_none, errW_some] <;> rfl) | (simp only [← hji29]; first | rfl | (simp [errW_none, errW_some] <;> rfl)) | (simp [*, errW_none, errW_some] <;> rfl), by repeat (first | (with_reducible first | exact HB.out | apply bA | apply bN | apply bD | refine below_set ?_ GE578.out | refine below_set ?_ GE582.out) | exact HB.out)⟩
           ·replace c36 := Bool.eq_false_iff.mpr c36
            subst c36
            rw [if_neg (show ¬ (false = true) by decide)] at H
            exact absurd ((sI H).trans hT.out) (by decide)
          ·rw [if_neg c34] at H
           have c34b0 : (t594 == 0) = false := beq_eq_false_iff_ne.mpr c34
           have c34b1 : (t594 != 0) = true := bne_iff_ne.mpr c34
           obtain ⟨t597, A75, H⟩ := zO H
           obtain rfl := sI H
           have hcz76_0 : wc.cell? ⟨gb578, 0, none⟩ = some (.string a1_0) := (blk_cell BK578.out 0).trans rfl
           have hcz76_1 : wc.cell? ⟨gb578, 1, none⟩ = some (.slice A1_1 l1_1.length c1_1) := (blk_cell BK578.out 1).trans rfl
           have hcz76_2 : wc.cell? ⟨gb578, 2, none⟩ = some (.string a1_2) := (blk_cell BK578.out 2).trans rfl
           have hcz76_3 : wc.cell? ⟨gb578, 3, none⟩ = some (.bool a1_3) := (blk_cell BK578.out 3).trans rfl
           have hcz76_4 : wc.cell? ⟨gb578, 4, none⟩ = some (.bool a1_4) := (blk_cell BK578.out 4).trans rfl
           have hfz76_0 := blk_frozen BK578.out 0
           have hfz76_1 := blk_frozen BK578.out 1
           have hfz76_2 := blk_frozen BK578.out 2
           have hfz76_3 := blk_frozen BK578.out 3
           have hfz76_4 := blk_frozen BK578.out 4
           try go_wp2_with (first | ((with_reducible refine gate_dst (N := 7) rfl ?_); (try (refine gate_guard (by rfl) ?_; dsimp only)); refine box_event ?hg (N := 7) ?hd (cs := #[.string (⟨#[]⟩ : ByteArray), .slice none 0 0, .string (⟨#[]⟩ : ByteArray), .bool false, .bool false]) (t := 29) ?hr ?_; (case hd => rfl); (case hg => rfl); (case hr => first | (go_simp; done) | (go_simp; rfl)); intro gb582 hg w77 hbox hb; have n_ := zI (aM (blk_below (g := gb578) (o := .cells #[.string a1_0, .slice A1_1 l1_1.length c1_1, .string a1_2, .bool a1_3, .bool a1_4] 29 (0, 0)) (by (with_reducible repeat (first | refine blk_drewN ?_ _ | refine blk_drew ?_ | refine blk_alloc ?_ _)); exact BK578.out) hb)) (zI (aM (below_step (by repeat (first | (with_reducible first | exact HB.out | apply bA | apply bN | apply bD | refine below_set ?_ GE578.out) | exact HB.out)) hb)) (zI (aM (hbox)) (zI (aM ((by rw [hg]; exact (below_size (by repeat (first | (with_reducible first | exact HB.out | apply bA | apply bN | apply bD | refine below_set ?_ GE578.out) | exact HB.out))) : w.heap.size ≤ gb582))) (zI (aM ((by rw [hg]; exact (below_size (by repeat (first | (with_reducible first | exact HB.out | apply bA | apply bN | apply bD | refine below_set ?_ GE578.out) | exact HB.out))) : w.heap.size ≤ gb582))) (zI (aM ((by rw [hg]; exact Nat.ne_of_lt (blk_lt (g := gb578) (o := .cells #[.string a1_0, .slice A1_1 l1_1.length c1_1, .string a1_2, .bool a1_3, .bool a1_4] 29 (0, 0)) (by (with_reducible repeat (first | refine blk_drewN ?_ _ | refine blk_drew ?_ | refine blk_alloc ?_ _)); exact BK578.out)) : gb578 ≠ gb582))) (aM ((by rw [hg]; exact Nat.ne_of_gt (blk_lt (g := gb578) (o := .cells #[.string a1_0, .slice A1_1 l1_1.length c1_1, .string a1_2, .bool a1_3, .bool a1_4] 29 (0, 0)) (by (with_reducible repeat (first | refine blk_drewN ?_ _ | refine blk_drew ?_ | refine blk_alloc ?_ _)); exact BK578.out)) : gb582 ≠ gb578)))))))); clear BK578 HB; obtain ⟨BK578, HB, BK582, GW582, GE582, NB578_582, NB582_578⟩ := n_; clear hb hbox hg; have hnb78 := NB582_578.out; have hnc78 := NB578_582.out; have hcz79_0 : w77.cell? ⟨gb582, 0, none⟩ = some (.string (⟨#[]⟩ : ByteArray)) := (blk_cell BK582.out 0).trans rfl; have hcz79_1 : w77.cell? ⟨gb582, 1, none⟩ = some (.slice none 0 0) := (blk_cell BK582.out 1).trans rfl; have hcz79_2 : w77.cell? ⟨gb582, 2, none⟩ = some (.string (⟨#[]⟩ : ByteArray)) := (blk_cell BK582.out 2).trans rfl; have hcz79_3 : w77.cell? ⟨gb582, 3, none⟩ = some (.bool false) := (blk_cell BK582.out 3).trans rfl; have hcz79_4 : w77.cell? ⟨gb582, 4, none⟩ = some (.bool false) := (blk_cell BK582.out 4).trans rfl; have hfz79_0 := blk_frozen BK582.out 0; have hfz79_1 := blk_frozen BK582.out 1; have hfz79_2 := blk_frozen BK582.out 2; have hfz79_3 := blk_frozen BK582.out 3; have hfz79_4 := blk_frozen BK582.out 4))
           have n0_ : Aside0 ((((((w77.setCell ⟨gb582, 0, none⟩ (.string a1_0)).setCell ⟨gb582, 1, none⟩ (.slice A1_1 l1_1.length c1_1)).setCell ⟨gb582, 2, none⟩ (.string a1_2)).setCell ⟨gb582, 3, none⟩ (.bool a1_3)).setCell ⟨gb582, 4, none⟩ (.bool a1_4)).heap[gb578]? = some (.cells #[.string a1_0, .slice A1_1 l1_1.length c1_1, .string a1_2, .bool a1_3, .bool a1_4] 29 (0, 0))) := ⟨by (with_reducible repeat (first | refine blk_drewN ?_ _ | refine blk_drew ?_ | refine blk_alloc ?_ _)); refine blk_far ?_ NB578_582.out _; (with_reducible repeat (first | refine blk_drewN ?_ _ | refine blk_drew ?_ | refine blk_alloc ?_ _)); refine blk_far ?_ NB578_582.out _; (with_reducible repeat (first | refine blk_drewN ?_ _ | refine blk_drew ?_ | refine blk_alloc ?_ _)); refine blk_far ?_ NB578_582.out _; (with_reducible repeat (first | refine blk_drewN ?_ _ | refine blk_drew ?_ | refine blk_alloc ?_ _)); refine blk_far ?_ NB578_582.out _; (with_reducible repeat (first | refine blk_drewN ?_ _ | refine blk_drew ?_ | refine blk_alloc ?_ _)); refine blk_far ?_ NB578_582.out _; (with_reducible repeat (first | refine blk_drewN ?_ _ | refine blk_drew ?_ | refine blk_alloc ?_ _)); exact BK578.out⟩
           have n1_ : Aside0 ((((((w77.setCell ⟨gb582, 0, none⟩ (.string a1_0)).setCell ⟨gb582, 1, none⟩ (.slice A1_1 l1_1.length c1_1)).setCell ⟨gb582, 2, none⟩ (.string a1_2)).setCell ⟨gb582, 3, none⟩ (.bool a1_3)).setCell ⟨gb582, 4, none⟩ (.bool a1_4)).heap[gb582]? = some (.cells #[.string a1_0, .slice A1_1 l1_1.length c1_1, .string a1_2, .bool a1_3, .bool a1_4] 29 (0, 0))) := ⟨by (with_reducible repeat (first | refine blk_drewN ?_ _ | refine blk_drew ?_ | refine blk_alloc ?_ _)); refine blk_put (cs := #[.string a1_0, .slice A1_1 l1_1.length c1_1, .string a1_2, .bool a1_3, .bool false]) ?_ 4 _ rfl; (with_reducible repeat (first | refine blk_drewN ?_ _ | refine blk_drew ?_ | refine blk_alloc ?_ _)); refine blk_put (cs := #[.string a1_0, .slice A1_1 l1_1.length c1_1, .string a1_2, .bool false, .bool false]) ?_ 3 _ rfl; (with_reducible repeat (first | refine blk_drewN ?_ _ | refine blk_drew ?_ | refine blk_alloc ?_ _)); refine blk_put (cs := #[.string a1_0, .slice A1_1 l1_1.length c1_1, .string (⟨#[]⟩ : ByteArray), .bool false, .bool false]) ?_ 2 _ rfl; (with_reducible repeat (first | refine blk_drewN ?_ _ | refine blk_drew ?_ | refine blk_alloc ?_ _)); refine blk_put (cs := #[.string a1_0, .slice none 0 0, .string (⟨#[]⟩ : ByteArray), .bool false, .bool false]) ?_ 1 _ rfl; (with_reducible repeat (first | refine blk_drewN ?_ _ | refine blk_drew ?_ | refine blk_alloc ?_ _)); refine blk_put (cs := #[.string (⟨#[]⟩ : ByteArray), .slice none 0 0, .string (⟨#[]⟩ : ByteArray), .bool false, .bool false]) ?_ 0 _ rfl; (with_reducible repeat (first | refine blk_drewN ?_ _ | refine blk_drew ?_ | refine blk_alloc ?_ _)); exact BK582.out⟩
           have n2_ : Aside0 (Below w.heap.size w (((((w77.setCell ⟨gb582, 0, none⟩ (.string a1_0)).setCell ⟨gb582, 1, none⟩ (.slice A1_1 l1_1.length c1_1)).setCell ⟨gb582, 2, none⟩ (.string a1_2)).setCell ⟨gb582, 3, none⟩ (.bool a1_3)).setCell ⟨gb582, 4, none⟩ (.bool a1_4))) := ⟨by repeat (first | (with_reducible first | exact HB.out | apply bA | apply bN | apply bD | refine below_set ?_ GE578.out | refine below_set ?_ GE582.out) | exact HB.out)⟩
           (try clear BK578)
           (try clear BK582)
           (try clear HB)
           generalize (((((w77.setCell ⟨gb582, 0, none⟩ (.string a1_0)).setCell ⟨gb582, 1, none⟩ (.slice A1_1 l1_1.length c1_1)).setCell ⟨gb582, 2, none⟩ (.string a1_2)).setCell ⟨gb582, 3, none⟩ (.bool a1_3)).setCell ⟨gb582, 4, none⟩ (.bool a1_4)) = w80 at n0_ n1_ n2_ ⊢
           have BK578 := n0_
           have BK582 := n1_
           have HB := n2_
           clear n0_ n1_ n2_
           have n0_ := aM (blk_drew BK578.out)
           have n1_ := aM (blk_drew BK582.out)
           have n2_ := aM (bD HB.out)
           clear BK578
           clear BK582
           clear HB
           have BK578 := n0_
           have BK582 := n1_
           have HB := n2_
           clear n0_ n1_ n2_
           obtain ⟨i082, hi082, _, hsz82, _⟩ := info_parts info9
           obtain ⟨hcut82, hA82, hC82⟩ := print_take_of (P := Try.prog) Value.string (⟨#[]⟩ : ByteArray) 27 9 .i64 Try.underlying27 hi082 hsz82 A1_1 c1_1 l1_1 a2 (zoA) (zoA) HC1_1.out
           have HR586 := aM (Kd.C_of_reads (h1 := fun _ => rfl) (hA82 _ (Kd.reads_of_C HR1_1.out)))
           have HC586 := aM hC82
           clear hA82 hC82 hi082 hsz82
           obtain ⟨i083, hi083, _, hsz83, _⟩ := info_parts info9
           obtain ⟨A83, hcut83, hA83, hC83⟩ := print_drop_of (P := Try.prog) Value.string (⟨#[]⟩ : ByteArray) 27 9 .i64 Try.underlying27 hi083 hsz83 A1_1 c1_1 l1_1 (ji29) (zoA) (zoA) HC1_1.out
           have HR590 := aM (Kd.C_of_reads (h1 := fun _ => rfl) (hA83 _ (Kd.reads_of_C HR1_1.out)))
           have HC590 := aM hC83
           clear hA83 hC83 hi083 hsz83
           refine start_ (n := 14) (S := fun w' => w'.cell? ⟨gb578, 0, none⟩ = some (.string a1_0) ∧ w'.cell? ⟨gb578, 1, none⟩ = some (.slice A1_1 l1_1.length c1_1) ∧ w'.cell? ⟨gb578, 2, none⟩ = some (.string a1_2) ∧ w'.cell? ⟨gb578, 3, none⟩ = some (.bool a1_3) ∧ w'.cell? ⟨gb578, 4, none⟩ = some (.bool a1_4)) (ds := []) #[false, false, false, false, false, false, false, false, false, false, false, false, false, false] zK rfl rfl ⟨(blk_cell BK578.out 0).trans rfl, (blk_cell BK578.out 1).trans rfl, (blk_cell BK578.out 2).trans rfl, (blk_cell BK578.out 3).trans rfl, (blk_cell BK578.out 4).trans rfl⟩ (fun hHeld => ?_); refine with_tabW toponymlaw13_PiecesMore.tab4 toponymlaw13_PiecesMore.bits4 (fun HT_ HW_ => ?_)
           generalize w80.drew = w81 at BK578 BK582 HB HR586 HR590 hHeld ⊢
           refine pure_ (i := 1) (N := some 36) (v := ?_) (a' := ?_) #[false, true, false, false, false, false, false, false, false, false, false, false, false, false] rfl rfl (any_of HT_.out zK) (fun _ _ _ h => h) (Or.inl ⟨by rfl, ?_⟩) ?_ ?_
           rotate_left
           ·intro w'
            go_simp
            with_reducible rfl
           rotate_left
           ·simp only [Act.put, List.setIfInBounds_toArray, List.set_cons_zero, List.set_cons_succ, i64_w, i32_w]
            rfl
           refine pure_ (i := 3) (N := some 38) (v := ?_) (a' := ?_) #[false, true, false, true, false, false, false, false, false, false, false, false, false, false] rfl rfl (any_of HT_.out zK) (fun _ _ _ h => h) (Or.inl ⟨by rfl, ?_⟩) ?_ ?_
           rotate_left
           ·intro w'
            go_simp
            with_reducible rfl
           rotate_left
           ·simp only [Act.put, List.setIfInBounds_toArray, List.set_cons_zero, List.set_cons_succ, i64_w, i32_w]
            rfl
           refine pure_ (i := 6) (N := some 41) (v := ?_) (a' := ?_) #[false, true, false, true, false, false, true, false, false, false, false, false, false, false] rfl rfl (any_of HT_.out zK) (fun _ _ _ h => h) (Or.inl ⟨by rfl, ?_⟩) ?_ ?_
           rotate_left
           ·intro w'
            go_simp
            with_reducible rfl
           rotate_left
           ·simp only [Act.put, List.setIfInBounds_toArray, List.set_cons_zero, List.set_cons_succ, i64_w, i32_w]
            rfl
           refine pure_ (i := 8) (N := some 43) (v := ?_) (a' := ?_) #[false, true, false, true, false, false, true, false, true, false, false, false, false, false] rfl rfl (any_of HT_.out zK) (fun _ _ _ h => h) (Or.inl ⟨by rfl, ?_⟩) ?_ ?_
           rotate_left
           ·intro w'
            go_simp
            with_reducible rfl
           rotate_left
           ·simp only [Act.put, List.setIfInBounds_toArray, List.set_cons_zero, List.set_cons_succ, i64_w, i32_w]
            rfl
           refine pure_ (i := 9) (N := some 44) (v := ?_) (a' := ?_) #[false, true, false, true, false, false, true, false, true, true, false, false, false, false] rfl rfl (any_of HT_.out zK) (fun _ _ _ h => h) (Or.inl ⟨by rfl, ?_⟩) ?_ ?_
           rotate_left
           ·intro w'
            go_simp
            with_reducible rfl
           rotate_left
           ·simp only [Act.put, List.setIfInBounds_toArray, List.set_cons_zero, List.set_cons_succ, i64_w, i32_w]
            rfl
           refine take_ (i := 2) (N := some 37) (v := ?_) (a' := ?_) #[false, true, true, true, false, false, true, false, true, true, false, false, false, false] rfl rfl (take_ofW HT_.out HW_.out zK) (fun _ _ _ h => h) (Or.inl ⟨by rfl, ?_⟩) hHeld ?_ ?_
           rotate_left
           ·rintro w' ⟨s0, s1, s2, s3, s4⟩
            go_simp
            with_reducible rfl
           rotate_left
           ·simp only [Act.put, List.setIfInBounds_toArray, List.set_cons_zero, List.set_cons_succ, i64_w, i32_w]
            rfl
           refine pure_ (i := 4) (N := some 39) (v := ?_) (a' := ?_) #[false, true, true, true, true, false, true, false, true, true, false, false, false, false] rfl rfl (any_of HT_.out zK) (fun _ _ _ h => h) (Or.inl ⟨by rfl, ?_⟩) ?_ ?_
           rotate_left
           ·intro w'
            go_simp
            with_reducible rfl
           rotate_left
           ·simp only [Act.put, List.setIfInBounds_toArray, List.set_cons_zero, List.set_cons_succ, i64_w, i32_w]
            rfl
           refine take_ (i := 7) (N := some 42) (v := ?_) (a' := ?_) #[false, true, true, true, true, false, true, true, true, true, false, false, false, false] rfl rfl (take_ofW HT_.out HW_.out zK) (fun _ _ _ h => h) (Or.inl ⟨by rfl, ?_⟩) hHeld ?_ ?_
           rotate_left
           ·rintro w' ⟨s0, s1, s2, s3, s4⟩
            go_simp
            with_reducible rfl
           rotate_left
           ·simp only [Act.put, List.setIfInBounds_toArray, List.set_cons_zero, List.set_cons_succ, i64_w, i32_w]
            rfl
           refine pure_ (i := 10) (N := some 45) (v := ?_) (a' := ?_) #[false, true, true, true, true, false, true, true, true, true, true, false, false, false] rfl rfl (any_of HT_.out zK) (fun _ _ _ h => h) (Or.inl ⟨by rfl, ?_⟩) ?_ ?_
           rotate_left
           ·intro w'
            go_simp
            with_reducible rfl
           rotate_left
           ·simp only [Act.put, List.setIfInBounds_toArray, List.set_cons_zero, List.set_cons_succ, i64_w, i32_w]
            rfl
           refine one_ (i := 0) (N := some 35) #[true, true, true, true, true, false, true, true, true, true, true, false, false, false] rfl rfl (one_of HT_.out zK) (by decide) (fun K hK => ?_)
           refine Kd.R_lit_step Kd.string _ 9 ?hg (N := 35) ?hd (xs := ([] : List ByteArray)) (inner := []) (ok := fun _ => True) (okp := fun _ => True) ?hr ?hp (fun _ hk => hk) trivial (Below.refl _ _) (Nat.le_refl _) (by simp) ?_; (case hd => rfl); (case hg => rfl); (case hr => first | (go_simp; done) | (go_simp; rfl)); (case hp => exact (Reps.none _ _))
           intro v584 w84 ho85 hb hg_ hnew_
           clear hg_ hnew_
           (first | rw [← Ny583.out] at ho85 | (simp only [Int.reduceToNat] at ho85; rw [← Ny583.out] at ho85))
           have n0_ := aM (Kd.R_lower ho85 (below_size (by repeat (first | (with_reducible first | exact HB.out | apply bA | apply bN | apply bD | refine below_set ?_ GE578.out | refine below_set ?_ GE582.out) | exact HB.out))))
           have n1_ := aM (blk_below (g := gb578) (o := .cells #[.string a1_0, .slice A1_1 l1_1.length c1_1, .string a1_2, .bool a1_3, .bool a1_4] 29 (0, 0)) (by (with_reducible repeat (first | refine blk_drewN ?_ _ | refine blk_drew ?_ | refine blk_alloc ?_ _)); exact BK578.out) hb)
           have n2_ := aM (blk_below (g := gb582) (o := .cells #[.string a1_0, .slice A1_1 l1_1.length c1_1, .string a1_2, .bool a1_3, .bool a1_4] 29 (0, 0)) (by (with_reducible repeat (first | refine blk_drewN ?_ _ | refine blk_drew ?_ | refine blk_alloc ?_ _)); exact BK582.out) hb)
           have n3_ := aM (below_step (by repeat (first | (with_reducible first | exact HB.out | apply bA | apply bN | apply bD | refine below_set ?_ GE578.out | refine below_set ?_ GE582.out) | exact HB.out)) hb)
           clear BK578
           clear BK582
           clear HB
           have HO585 := n0_
           have BK578 := n1_
           have BK582 := n2_
           have HB := n3_
           clear n0_ n1_ n2_ n3_
           clear hb ho85
           refine hK.out _ _ ⟨(blk_cell BK578.out 0).trans rfl, (blk_cell BK578.out 1).trans rfl, (blk_cell BK578.out 2).trans rfl, (blk_cell BK578.out 3).trans rfl, (blk_cell BK578.out 4).trans rfl⟩ (fun hHeld => ?_)
           clear hK K
           refine norm_ (a' := ?_) ?_ ?_
           rotate_left
           ·show Act.put _ (some 35) _ = _
            simp only [Act.put, List.setIfInBounds_toArray, List.set_cons_zero, List.set_cons_succ, i64_w, i32_w]
            rfl
           refine one_ (i := 5) (N := some 40) #[true, true, true, true, true, true, true, true, true, true, true, false, false, false] rfl rfl (one_of HT_.out zK) (by decide) (fun K hK => ?_)
           refine Kd.R_append_rows_step Kd.string (w0 := w) w.heap.size (by rfl) (.tmp 35) (.tmp 39) 27 9 (.string ⟨#[]⟩) 16 rfl Try.underlying27 info9 rfl (by decide) (by omega) v584 y583 (l1_1.take (a2 : Int).toNat) _ _ _ (fun _ => True) (fun _ => False) rfl rfl ?aO ?aR (fun _ _ h => h) (fun _ h => h.elim) ?aF ?aB ?aS ?aL ?_
           (case aR => first | (rw [← show (l1_1.take (a2 : Int).toNat).length = a2.toNat from (by rw [List.length_take]; have h_ : (a2 : Int) ≤ (l1_1.length : Int) := zoA; omega)]; (repeat (first | exact (Kd.C_below HR586.out HB.out) | (with_reducible refine Kd.C_alloc ?_ _) | (with_reducible refine Kd.C_drewN ?_ _) | (with_reducible refine Kd.C_drew ?_))); done) | ((repeat (first | exact (Kd.C_below HR586.out HB.out) | (with_reducible refine Kd.C_alloc ?_ _) | (with_reducible refine Kd.C_drewN ?_ _) | (with_reducible refine Kd.C_drew ?_))); done) | ((conv => arg 5; rw [← show (l1_1.take (a2 : Int).toNat).length = a2.toNat from (by rw [List.length_take]; have h_ : (a2 : Int) ≤ (l1_1.length : Int) := zoA; omega)]); (repeat (first | exact (Kd.C_below HR586.out HB.out) | (with_reducible refine Kd.C_alloc ?_ _) | (with_reducible refine Kd.C_drewN ?_ _) | (with_reducible refine Kd.C_drew ?_))); done))
           (case aB => exact (by repeat (first | (with_reducible first | exact HB.out | apply bA | apply bN | apply bD | refine below_set ?_ GE578.out | refine below_set ?_ GE582.out) | exact HB.out)))
           (case aF => exact (fun _ _ => trivial))
           (case aO => exact (zR HO585))
           (case aS => exact (below_size (by repeat (first | (with_reducible first | exact HB.out | apply bA | apply bN | apply bD | refine below_set ?_ GE578.out | refine below_set ?_ GE582.out) | exact HB.out))))
           (case aL => have := LMc28.out; have hlx_ := (show (l1_1.take (a2 : Int).toNat).length = a2.toNat from (by rw [List.length_take]; have h_ : (a2 : Int) ≤ (l1_1.length : Int) := zoA; omega)); omega)
           intro v588 w86 ho hb hg hat
           rw [← Ny587.out] at ho
           have n0_ := aM (blk_grown (g := gb578) (o := .cells #[.string a1_0, .slice A1_1 l1_1.length c1_1, .string a1_2, .bool a1_3, .bool a1_4] 29 (0, 0)) (by (with_reducible repeat (first | refine blk_drewN ?_ _ | refine blk_drew ?_ | refine blk_alloc ?_ _)); exact BK578.out) hg (Kd.R_ne HO585.out BK578.out (by decide)))
           have n1_ := aM (blk_grown (g := gb582) (o := .cells #[.string a1_0, .slice A1_1 l1_1.length c1_1, .string a1_2, .bool a1_3, .bool a1_4] 29 (0, 0)) (by (with_reducible repeat (first | refine blk_drewN ?_ _ | refine blk_drew ?_ | refine blk_alloc ?_ _)); exact BK582.out) hg (Kd.R_ne HO585.out BK582.out (by decide)))
           have n2_ := aM (hb)
           have n3_ := aM (ho)
           clear BK578
           clear BK582
           clear HB
           clear HO585
           have BK578 := n0_
           have BK582 := n1_
           have HB := n2_
           have HO589 := n3_
           clear n0_ n1_ n2_ n3_
           clear ho hb hg hat
           refine hK.out _ _ ⟨(blk_cell BK578.out 0).trans rfl, (blk_cell BK578.out 1).trans rfl, (blk_cell BK578.out 2).trans rfl, (blk_cell BK578.out 3).trans rfl, (blk_cell BK578.out 4).trans rfl⟩ (fun hHeld => ?_)
           clear hK K
           refine norm_ (a' := ?_) ?_ ?_
           rotate_left
           ·show Act.put _ (some 40) _ = _
            simp only [Act.put, List.setIfInBounds_toArray, List.set_cons_zero, List.set_cons_succ, i64_w, i32_w]
            rfl
           refine one_ (i := 11) (N := some 46) #[true, true, true, true, true, true, true, true, true, true, true, true, false, false] rfl rfl (one_of HT_.out zK) (by decide) (fun K hK => ?_)
           refine Kd.R_append_rows_step Kd.string (w0 := w) w.heap.size (by rfl) (.tmp 40) (.tmp 45) 27 9 (.string ⟨#[]⟩) 16 rfl Try.underlying27 info9 rfl (by decide) (by omega) v588 y587 (l1_1.drop ((ji29) : Int).toNat) _ _ _ (fun _ => True) (fun _ => False) rfl rfl ?aO ?aR (fun _ _ h => h) (fun _ h => h.elim) ?aF ?aB ?aS ?aL ?_
           (case aR => first | (rw [← show (l1_1.drop ((ji29) : Int).toNat).length = (l1_1.length - (ji29).toNat) from List.length_drop]; (repeat (first | exact (Kd.C_below HR590.out HB.out) | (with_reducible refine Kd.C_alloc ?_ _) | (with_reducible refine Kd.C_drewN ?_ _) | (with_reducible refine Kd.C_drew ?_))); done) | ((repeat (first | exact (Kd.C_below HR590.out HB.out) | (with_reducible refine Kd.C_alloc ?_ _) | (with_reducible refine Kd.C_drewN ?_ _) | (with_reducible refine Kd.C_drew ?_))); done) | ((conv => arg 5; rw [← show (l1_1.drop ((ji29) : Int).toNat).length = (l1_1.length - (ji29).toNat) from List.length_drop]); (repeat (first | exact (Kd.C_below HR590.out HB.out) | (with_reducible refine Kd.C_alloc ?_ _) | (with_reducible refine Kd.C_drewN ?_ _) | (with_reducible refine Kd.C_drew ?_))); done))
           (case aB => exact (by repeat (first | (with_reducible first | exact HB.out | apply bA | apply bN | apply bD | refine below_set ?_ GE578.out | refine below_set ?_ GE582.out) | exact HB.out)))
           (case aF => exact (fun _ _ => trivial))
           (case aO => exact (zR HO589))
           (case aS => exact (below_size (by repeat (first | (with_reducible first | exact HB.out | apply bA | apply bN | apply bD | refine below_set ?_ GE578.out | refine below_set ?_ GE582.out) | exact HB.out))))
           (case aL => have := LMc32.out; have hlx_ := (show (l1_1.drop ((ji29) : Int).toNat).length = (l1_1.length - (ji29).toNat) from List.length_drop); omega)
           intro v592 w87 ho hb hg hat
           rw [← Ny591.out] at ho
           have n0_ := aM (blk_grown (g := gb578) (o := .cells #[.string a1_0, .slice A1_1 l1_1.length c1_1, .string a1_2, .bool a1_3, .bool a1_4] 29 (0, 0)) (by (with_reducible repeat (first | refine blk_drewN ?_ _ | refine blk_drew ?_ | refine blk_alloc ?_ _)); exact BK578.out) hg (Kd.R_ne HO589.out BK578.out (by decide)))
           have n1_ := aM (blk_grown (g := gb582) (o := .cells #[.string a1_0, .slice A1_1 l1_1.length c1_1, .string a1_2, .bool a1_3, .bool a1_4] 29 (0, 0)) (by (with_reducible repeat (first | refine blk_drewN ?_ _ | refine blk_drew ?_ | refine blk_alloc ?_ _)); exact BK582.out) hg (Kd.R_ne HO589.out BK582.out (by decide)))
           have n2_ := aM (hb)
           have n3_ := aM (ho)
           clear BK578
           clear BK582
           clear HB
           clear HO589
           have BK578 := n0_
           have BK582 := n1_
           have HB := n2_
           have HO593 := n3_
           clear n0_ n1_ n2_ n3_
           clear ho hb hg hat
           obtain ⟨Ao88, co88, eo88⟩ := Kd.R_slice HO593.out
           (first | subst eo88 | (injection eo88 with f1_ f2_ f3_; have f4_ := f1_.symm; have f5_ := f3_.symm; clear f1_ f2_ f3_; subst f4_; subst f5_))
           refine hK.out _ _ ⟨(blk_cell BK578.out 0).trans rfl, (blk_cell BK578.out 1).trans rfl, (blk_cell BK578.out 2).trans rfl, (blk_cell BK578.out 3).trans rfl, (blk_cell BK578.out 4).trans rfl⟩ (fun hHeld => ?_)
           clear hK K
           refine norm_ (a' := ?_) ?_ ?_
           rotate_left
           ·show Act.put _ (some 46) _ = _
            simp only [Act.put, List.setIfInBounds_toArray, List.set_cons_zero, List.set_cons_succ, i64_w, i32_w]
            rfl
           refine pure_ (i := 12) (N := some 47) (v := ?_) (a' := ?_) #[true, true, true, true, true, true, true, true, true, true, true, true, true, false] rfl rfl (any_of HT_.out zK) (fun _ _ _ h => h) (Or.inl ⟨by rfl, ?_⟩) ?_ ?_
           rotate_left
           ·intro w'
            go_simp
            with_reducible rfl
           rotate_left
           ·simp only [Act.put, List.setIfInBounds_toArray, List.set_cons_zero, List.set_cons_succ, i64_w, i32_w]
            rfl
           refine one_ (i := 13) (N := none) #[true, true, true, true, true, true, true, true, true, true, true, true, true, true] rfl rfl (one_of HT_.out zK) (by decide) (fun K hK => ?_)
           have hs89 : w87.cell? ⟨gb582, 1, none⟩ = some (.slice A1_1 l1_1.length c1_1) := (blk_cell BK582.out 1).trans rfl
           have hfs89 := blk_frozen BK582.out 1
           have hns89_0 := NB578_582.out
           have hms89_0 := NB582_578.out
           refine skip_ (w1 := ?_) (by rfl) rfl ?_ ?_
           rotate_left
           ·go_simp
            rfl
           refine hK.out _ _ ⟨((cell_far (p := ⟨gb582, _, none⟩) NB578_582.out _).trans (hHeld.1)), ((cell_far (p := ⟨gb582, _, none⟩) NB578_582.out _).trans (hHeld.2.1)), ((cell_far (p := ⟨gb582, _, none⟩) NB578_582.out _).trans (hHeld.2.2.1)), ((cell_far (p := ⟨gb582, _, none⟩) NB578_582.out _).trans (hHeld.2.2.2.1)), ((cell_far (p := ⟨gb582, _, none⟩) NB578_582.out _).trans (hHeld.2.2.2.2))⟩ (fun hHeld => ?_)
           clear hK K
           refine done_ (done_of HT_.out zK) ?_
           have hcz90_0 : w87.cell? ⟨gb582, 0, none⟩ = some (.string a1_0) := (blk_cell BK582.out 0).trans rfl
           have hcz90_1 : w87.cell? ⟨gb582, 1, none⟩ = some (.slice A1_1 l1_1.length c1_1) := (blk_cell BK582.out 1).trans rfl
           have hcz90_2 : w87.cell? ⟨gb582, 2, none⟩ = some (.string a1_2) := (blk_cell BK582.out 2).trans rfl
           have hcz90_3 : w87.cell? ⟨gb582, 3, none⟩ = some (.bool a1_3) := (blk_cell BK582.out 3).trans rfl
           have hcz90_4 : w87.cell? ⟨gb582, 4, none⟩ = some (.bool a1_4) := (blk_cell BK582.out 4).trans rfl
           have hfz90_0 := blk_frozen BK582.out 0
           have hfz90_1 := blk_frozen BK582.out 1
           have hfz90_2 := blk_frozen BK582.out 2
           have hfz90_3 := blk_frozen BK582.out 3
           have hfz90_4 := blk_frozen BK582.out 4
           try go_wp2_with (first | ((with_reducible refine gate_callee (f := 8) rfl ?_); refine goesL_ (some 49) rfl rfl Try.func8 zK rfl #[.agg #[.string a1_0, .slice Ao88 y591.length co88, .string a1_2, .bool a1_3, .bool a1_4]] rfl zM ?_; (with_reducible refine (pieces_Check.calls kj3 a1_0 _ _ y591 a1_2 a1_3 a1_4 t594 _ ?side1 ?side2 A33.out).mono ?_); (case side1 => refine (Kd.R_reads' (e := 9) (base := w.heap.size) (ok := fun k_ => True) (n := y591.length) (c := co88) ?_).2.2; exact (by (with_reducible repeat (first | apply Kd.R_alloc | apply Kd.R_drewN | apply Kd.R_drew)); exact (Kd.R_mono (Kd.R_far (p := ⟨gb582, 1, none⟩) (Kd.R_types HO593.out BK582.out (by decide)) (fun _ hk => hk.2) (.slice Ao88 y591.length co88)) (fun _ h_ => h_.1)))); (case side2 => exact (Kd.R_reads' HO593.out).2.1); rintro e w91 ⟨rfl, hb⟩; refine ⟨_, rfl, ?_⟩; have n_ := zI (aM (Kd.R_below (by (with_reducible repeat (first | apply Kd.R_alloc | apply Kd.R_drewN | apply Kd.R_drew)); exact (Kd.R_mono (Kd.R_far (p := ⟨gb582, 1, none⟩) (Kd.R_types HO593.out BK582.out (by decide)) (fun _ hk => hk.2) (.slice Ao88 y591.length co88)) (fun _ h_ => h_.1))) hb)) (zI (aM (blk_below (g := gb578) (o := .cells #[.string a1_0, .slice A1_1 l1_1.length c1_1, .string a1_2, .bool a1_3, .bool a1_4] 29 (0, 0)) (by (with_reducible repeat (first | refine blk_drewN ?_ _ | refine blk_drew ?_ | refine blk_alloc ?_ _)); refine blk_far ?_ NB578_582.out _; (with_reducible repeat (first | refine blk_drewN ?_ _ | refine blk_drew ?_ | refine blk_alloc ?_ _)); exact BK578.out) hb)) (zI (aM (blk_below (g := gb582) (o := .cells #[.string a1_0, .slice Ao88 y591.length co88, .string a1_2, .bool a1_3, .bool a1_4] 29 (0, 0)) (by (with_reducible repeat (first | refine blk_drewN ?_ _ | refine blk_drew ?_ | refine blk_alloc ?_ _)); refine blk_put (cs := #[.string a1_0, .slice A1_1 l1_1.length c1_1, .string a1_2, .bool a1_3, .bool a1_4]) ?_ 1 _ rfl; (with_reducible repeat (first | refine blk_drewN ?_ _ | refine blk_drew ?_ | refine blk_alloc ?_ _)); exact BK582.out) hb)) (aM (below_step (by repeat (first | (with_reducible first | exact HB.out | apply bA | apply bN | apply bD | refine below_set ?_ GE578.out | refine below_set ?_ GE582.out) | exact HB.out)) hb)))); clear HO593 BK578 BK582 HB; obtain ⟨HO593, BK578, BK582, HB⟩ := n_; (try clear hb); (try clear hk)) | (go_at_call 6; (with_reducible refine (toponymlaw13_awake.calls kj3  t597 _ (zEnv HE) A75.out).mono ?_); rintro e w92 ⟨rfl, hb⟩; (try clear A75); have n_ := zI (aM (Kd.R_below (zR HO593) hb)) (zI (aM (blk_below (g := gb578) (o := .cells #[.string a1_0, .slice A1_1 l1_1.length c1_1, .string a1_2, .bool a1_3, .bool a1_4] 29 (0, 0)) (by (with_reducible repeat (first | refine blk_drewN ?_ _ | refine blk_drew ?_ | refine blk_alloc ?_ _)); exact BK578.out) hb)) (zI (aM (blk_below (g := gb582) (o := .cells #[.string a1_0, .slice Ao88 y591.length co88, .string a1_2, .bool a1_3, .bool a1_4] 29 (0, 0)) (by (with_reducible repeat (first | refine blk_drewN ?_ _ | refine blk_drew ?_ | refine blk_alloc ?_ _)); exact BK582.out) hb)) (aM (below_step (by repeat (first | (with_reducible first | exact HB.out | apply bA | apply bN | apply bD | refine below_set ?_ GE578.out | refine below_set ?_ GE582.out) | exact HB.out)) hb)))); clear HO593 BK578 BK582 HB; obtain ⟨HO593, BK578, BK582, HB⟩ := n_; (try clear hb); (try clear hk)))
           go_ret
           exact ⟨by first | rfl | (simp [errW_none, errW_some] <;> rfl) | (simp only [← hji29]; first | rfl | (simp [errW_none, errW_some] <;> rfl)) | (simp [*, errW_none, errW_some] <;> rfl), by repeat (first | (with_reducible first | exact HB.out | apply bA | apply bN | apply bD | refine below_set ?_ GE578.out | refine below_set ?_ GE582.out) | exact HB.out)⟩
         ·rw [if_neg c32] at H
          exact absurd H (by simp)
        ·rw [if_neg c31] at H
         exact absurd H (by simp)
       ·rw [if_neg c30] at H
        exact absurd H (by simp)
      ·rw [if_neg c28] at H
       exact absurd H (by simp)
     ·rw [if_neg c27] at H
      exact absurd H (by simp)
    ·rw [if_neg c26] at H
     exact absurd H (by simp)

end Go.Proofs.Ytncppcjobimilaa.P
