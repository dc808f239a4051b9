-- Printed by wip/mk.py (this session's driver over the kit's print) and from wip/manual.
import Derived.Test.YtncppcjobimilaaT0
import Derived.Test.YtncppcjobimilaaT1
namespace Go.Proofs.Ytncppcjobimilaa.P
open Go.RowKit Go.Proofs.YtncppcjobimilaaW.PrintWords Go.Proofs.YtncppcjobimilaaW.PrintLast Go.Proofs.YtncppcjobimilaaW.PrintMore
attribute [local go_sem] max2_int min2_int max_two min_two max_three min_three max_four min_four   -- for this text's walks alone
set_option linter.unusedVariables false
set_option linter.unusedSimpArgs false

/-! ### pieces_Match: function 9 -/
mutual
def pieces_Match.j0 : Nat → ByteArray → Bool → ByteArray → List ByteArray → ByteArray → Bool → Bool → Option (Bool)
 | 0, _, _, _, _, _, _, _ => none
 | k + 1, x0, x44, x112000, x112001, x112002, x112003, x112004 => if x44 = true then (some false) else ((strings_CutPrefix.f x0 x112000).bind fun bt112 => (if bt112.2 = true then ((strings_CutSuffix.f bt112.1 x112002).bind fun bt114 => (pieces_Match.l0 k bt114.1 bt114.2 x112001 (x112001.length : Int) 0)) else (some false)))
def pieces_Match.l0 : Nat → ByteArray → Bool → List ByteArray → Int → Int → Option (Bool)
 | 0, _, _, _, _, _ => none
 | k + 1, x5, x6, x62, x63, x64 => if x64 < x63 then (if 0 ≤ x64 then (if x64 < (x62.length : Int) then ((strings_Cut.f x5 (rdOf ByteArray.empty x62 x64)).bind fun bt117 => (if x6 = true then (pieces_Match.l0 k bt117.2.1 bt117.2.2 x62 x63 (wrap64 (x64 + 1))) else (pieces_Match.l0 k bt117.2.1 false x62 x63 (wrap64 (x64 + 1))))) else (none)) else (none)) else (some x6)
end
def pieces_Match.f (k : Nat) (a0 : ByteArray) (a1_0 : ByteArray) (l1_1 : List ByteArray) (a1_2 : ByteArray) (a1_3 : Bool) (a1_4 : Bool) : Option (Bool) := if a1_3 = true then (if a1_4 = true then (pieces_Match.j0 k a0 (decide ((l1_1.length : Int) > 6)) a1_0 l1_1 a1_2 a1_3 a1_4) else (if a1_2.toList = ([] : List UInt8) then (pieces_Match.j0 k a0 (decide ((l1_1.length : Int) > 6)) a1_0 l1_1 a1_2 a1_3 a1_4) else (pieces_Match.j0 k a0 true a1_0 l1_1 a1_2 a1_3 a1_4))) else (if a1_4 = true then (if a1_0.toList = ([] : List UInt8) then (pieces_Match.j0 k a0 (decide ((l1_1.length : Int) > 6)) a1_0 l1_1 a1_2 a1_3 a1_4) else (pieces_Match.j0 k a0 true a1_0 l1_1 a1_2 a1_3 a1_4)) else (if (l1_1.length : Int) = 0 then (pieces_Match.j0 k a0 true a1_0 l1_1 a1_2 a1_3 a1_4) else (if a1_0.toList = ([] : List UInt8) then (if a1_2.toList = ([] : List UInt8) then (pieces_Match.j0 k a0 (decide ((l1_1.length : Int) > 6)) a1_0 l1_1 a1_2 a1_3 a1_4) else (pieces_Match.j0 k a0 true a1_0 l1_1 a1_2 a1_3 a1_4)) else (pieces_Match.j0 k a0 true a1_0 l1_1 a1_2 a1_3 a1_4))))
theorem pieces_Match.mono_l : ∀ k, (∀ y0 y1 y2 y3 y4 y5 y6, LeO (pieces_Match.j0 k y0 y1 y2 y3 y4 y5 y6) (pieces_Match.j0 (k + 1) y0 y1 y2 y3 y4 y5 y6)) ∧ (∀ y0 y1 y2 y3 y4, LeO (pieces_Match.l0 k y0 y1 y2 y3 y4) (pieces_Match.l0 (k + 1) y0 y1 y2 y3 y4))
 | 0 => ⟨fun _ _ _ _ _ _ _ r h => by simp [pieces_Match.j0] at h, fun _ _ _ _ _ r h => by simp [pieces_Match.l0] at h⟩
 | k + 1 => by
  obtain ⟨ih0, ih1⟩ := pieces_Match.mono_l k
  refine ⟨?_, ?_⟩
  ·intro y0 y1 y2 y3 y4 y5 y6
   unfold pieces_Match.j0
   repeat' first
   | (with_reducible exact ih0 _ _ _ _ _ _ _)
   | (with_reducible exact ih1 _ _ _ _ _)
   | (with_reducible exact LeO.refl _)
   | exact ih0 _ _ _ _ _ _ _
   | exact ih1 _ _ _ _ _
   | exact LeO.none _
   | refine LeO.ite ?_ ?_
   | refine LeO.bind ?_ (fun _ => ?_)
  ·intro y0 y1 y2 y3 y4
   unfold pieces_Match.l0
   repeat' first
   | (with_reducible exact ih0 _ _ _ _ _ _ _)
   | (with_reducible exact ih1 _ _ _ _ _)
   | (with_reducible exact LeO.refl _)
   | exact ih0 _ _ _ _ _ _ _
   | exact ih1 _ _ _ _ _
   | exact LeO.none _
   | refine LeO.ite ?_ ?_
   | refine LeO.bind ?_ (fun _ => ?_)
theorem pieces_Match.mono : ∀ a0 a1 a2 a3 a4 a5 k, LeO (pieces_Match.f k a0 a1 a2 a3 a4 a5) (pieces_Match.f (k + 1) a0 a1 a2 a3 a4 a5) := by
 intro a0 a1 a2 a3 a4 a5 k
 obtain ⟨ih0, ih1⟩ := pieces_Match.mono_l k
 unfold pieces_Match.f
 repeat' first
   | (with_reducible exact ih0 _ _ _ _ _ _ _)
   | (with_reducible exact ih1 _ _ _ _ _)
   | (with_reducible exact LeO.refl _)
   | exact ih0 _ _ _ _ _ _ _
   | exact ih1 _ _ _ _ _
   | exact LeO.none _
   | refine LeO.ite ?_ ?_
   | refine LeO.bind ?_ (fun _ => ?_)
set_option maxHeartbeats 8000000 in
set_option maxRecDepth 100000 in
theorem pieces_Match.calls (k : Nat) (a0 : ByteArray) (a1_0 : ByteArray) (A1_1 : Option Addr) (c1_1 : Nat) (l1_1 : List ByteArray) (a1_2 : ByteArray) (a1_3 : Bool) (a1_4 : Bool) (r : Bool) (w : World) (hE : Env w) (hr1_1 : Kd.C Kd.string w A1_1 l1_1.length l1_1) (hc1_1 : l1_1.length ≤ c1_1) (h : pieces_Match.f k a0 a1_0 l1_1 a1_2 a1_3 a1_4 = some r) :
  Calls Try.prog 9 #[.string a0, .agg #[.string a1_0, .slice A1_1 l1_1.length c1_1, .string a1_2, .bool a1_3, .bool a1_4]] w fun e w' => e = .returned (.bool r) ∧ Below w.heap.size w w' := by
 have HE := aM hE
 clear hE
 have hu29 := Try.underlying29
 have HR1_1 := aM hr1_1
 have HC1_1 := aM hc1_1
 clear hr1_1 hc1_1
 have HB := aM (Below.refl w.heap.size w)
 have H := h
 clear h
 unfold pieces_Match.f at H
 have HC3 := aM H
 clear H
 go_enter Try.func9, Try.ntmps9
 go_upto_region 1 with (first | ((with_reducible refine gate_dst (N := 3) rfl ?_); (try (refine gate_guard (by rfl) ?_; dsimp only)); refine box_event ?hg (N := 3) ?hd (cs := #[.string a1_0, .slice A1_1 l1_1.length c1_1, .string a1_2, .bool a1_3, .bool a1_4]) (t := 29) ?hr ?_; (case hd => rfl); (case hg => rfl); (case hr => first | (go_simp; done) | (go_simp; rfl)); intro gb111 hg w4 hbox hb; have n_ := zI (aM (below_step zB hb)) (zI (aM (hbox)) (zI (aM ((by rw [hg]; exact (below_size zB) : w.heap.size ≤ gb111))) (aM ((by rw [hg]; exact (below_size zB) : w.heap.size ≤ gb111))))); clear HB; obtain ⟨HB, BK111, GW111, GE111⟩ := n_; clear hb hbox hg))
 (try simp only [Act.put, List.setIfInBounds_toArray, List.set_cons_zero, List.set_cons_succ])
 go_cut [44] (fun v44 wc => ∃ (kq : Nat) (x44_2 : Bool), v44 = .bool x44_2 ∧ Aside0 (pieces_Match.j0 kq a0 x44_2 a1_0 l1_1 a1_2 a1_3 a1_4 = some r) ∧ Aside0 (kq ≤ k) ∧ Aside0 (wc.heap[gb111]? = some (.cells #[.string a1_0, (.slice A1_1 l1_1.length c1_1), .string a1_2, .bool a1_3, .bool a1_4] 29 (0, 0))) ∧ Aside0 (Below w.heap.size w wc))
 case first =>
  have H := HC3.out
  clear HC3
  by_cases c5 : a1_3 = true
  ·subst c5
   rw [if_pos rfl] at H
   by_cases c6 : a1_4 = true
   ·subst c6
    rw [if_pos rfl] at H
    have H' := aM H
    clear H
    have hcz7_0 : w4.cell? ⟨gb111, 0, none⟩ = some (.string a1_0) := (blk_cell BK111.out 0).trans rfl
    have hcz7_1 : w4.cell? ⟨gb111, 1, none⟩ = some (.slice A1_1 l1_1.length c1_1) := (blk_cell BK111.out 1).trans rfl
    have hcz7_2 : w4.cell? ⟨gb111, 2, none⟩ = some (.string a1_2) := (blk_cell BK111.out 2).trans rfl
    have hcz7_3 : w4.cell? ⟨gb111, 3, none⟩ = some (.bool true) := (blk_cell BK111.out 3).trans rfl
    have hcz7_4 : w4.cell? ⟨gb111, 4, none⟩ = some (.bool true) := (blk_cell BK111.out 4).trans rfl
    have hfz7_0 := blk_frozen BK111.out 0
    have hfz7_1 := blk_frozen BK111.out 1
    have hfz7_2 := blk_frozen BK111.out 2
    have hfz7_3 := blk_frozen BK111.out 3
    have hfz7_4 := blk_frozen BK111.out 4
    go_wp2
    go_meet
    case rel => exact ⟨_, (decide ((l1_1.length : Int) > 6)), zP, H', ⟨by first | omega | exact Nat.le_refl _⟩, ⟨by (with_reducible repeat (first | refine blk_drewN ?_ _ | refine blk_drew ?_ | refine blk_alloc ?_ _)); exact BK111.out⟩, ⟨by repeat (first | (with_reducible first | exact HB.out | apply bA | apply bN | apply bD | refine below_set ?_ GE111.out) | exact HB.out)⟩⟩
   ·replace c6 := Bool.eq_false_iff.mpr c6
    subst c6
    rw [if_neg (show ¬ (false = true) by decide)] at H
    by_cases c8 : a1_2.toList = ([] : List UInt8)
    ·rw [if_pos c8] at H
     have c8b0 : (a1_2.toList == ([] : List UInt8)) = true := beq_iff_eq.mpr c8
     have c8b1 : (a1_2.toList != ([] : List UInt8)) = false := bne_eq_false_iff_eq.mpr c8
     clear c8
     (first | rw [c8b0] | (simp only [i64_w, i32_w]; rw [c8b0]) | skip)
     have H' := aM H
     clear H
     have hcz9_0 : w4.cell? ⟨gb111, 0, none⟩ = some (.string a1_0) := (blk_cell BK111.out 0).trans rfl
     have hcz9_1 : w4.cell? ⟨gb111, 1, none⟩ = some (.slice A1_1 l1_1.length c1_1) := (blk_cell BK111.out 1).trans rfl
     have hcz9_2 : w4.cell? ⟨gb111, 2, none⟩ = some (.string a1_2) := (blk_cell BK111.out 2).trans rfl
     have hcz9_3 : w4.cell? ⟨gb111, 3, none⟩ = some (.bool true) := (blk_cell BK111.out 3).trans rfl
     have hcz9_4 : w4.cell? ⟨gb111, 4, none⟩ = some (.bool false) := (blk_cell BK111.out 4).trans rfl
     have hfz9_0 := blk_frozen BK111.out 0
     have hfz9_1 := blk_frozen BK111.out 1
     have hfz9_2 := blk_frozen BK111.out 2
     have hfz9_3 := blk_frozen BK111.out 3
     have hfz9_4 := blk_frozen BK111.out 4
     go_wp2
     go_meet
     case rel => exact ⟨_, (decide ((l1_1.length : Int) > 6)), zP, H', ⟨by first | omega | exact Nat.le_refl _⟩, ⟨by (with_reducible repeat (first | refine blk_drewN ?_ _ | refine blk_drew ?_ | refine blk_alloc ?_ _)); exact BK111.out⟩, ⟨by repeat (first | (with_reducible first | exact HB.out | apply bA | apply bN | apply bD | refine below_set ?_ GE111.out) | exact HB.out)⟩⟩
    ·rw [if_neg c8] at H
     have c8b0 : (a1_2.toList == ([] : List UInt8)) = false := beq_eq_false_iff_ne.mpr c8
     have c8b1 : (a1_2.toList != ([] : List UInt8)) = true := bne_iff_ne.mpr c8
     (first | rw [c8b0] | (simp only [i64_w, i32_w]; rw [c8b0]) | skip)
     have H' := aM H
     clear H
     have hcz10_0 : w4.cell? ⟨gb111, 0, none⟩ = some (.string a1_0) := (blk_cell BK111.out 0).trans rfl
     have hcz10_1 : w4.cell? ⟨gb111, 1, none⟩ = some (.slice A1_1 l1_1.length c1_1) := (blk_cell BK111.out 1).trans rfl
     have hcz10_2 : w4.cell? ⟨gb111, 2, none⟩ = some (.string a1_2) := (blk_cell BK111.out 2).trans rfl
     have hcz10_3 : w4.cell? ⟨gb111, 3, none⟩ = some (.bool true) := (blk_cell BK111.out 3).trans rfl
     have hcz10_4 : w4.cell? ⟨gb111, 4, none⟩ = some (.bool false) := (blk_cell BK111.out 4).trans rfl
     have hfz10_0 := blk_frozen BK111.out 0
     have hfz10_1 := blk_frozen BK111.out 1
     have hfz10_2 := blk_frozen BK111.out 2
     have hfz10_3 := blk_frozen BK111.out 3
     have hfz10_4 := blk_frozen BK111.out 4
     go_wp2
     go_meet
     case rel => exact ⟨_, (true), zP, H', ⟨by first | omega | exact Nat.le_refl _⟩, ⟨by (with_reducible repeat (first | refine blk_drewN ?_ _ | refine blk_drew ?_ | refine blk_alloc ?_ _)); exact BK111.out⟩, ⟨by repeat (first | (with_reducible first | exact HB.out | apply bA | apply bN | apply bD | refine below_set ?_ GE111.out) | exact HB.out)⟩⟩
  ·replace c5 := Bool.eq_false_iff.mpr c5
   subst c5
   rw [if_neg (show ¬ (false = true) by decide)] at H
   by_cases c11 : a1_4 = true
   ·subst c11
    rw [if_pos rfl] at H
    by_cases c12 : a1_0.toList = ([] : List UInt8)
    ·rw [if_pos c12] at H
     have c12b0 : (a1_0.toList == ([] : List UInt8)) = true := beq_iff_eq.mpr c12
     have c12b1 : (a1_0.toList != ([] : List UInt8)) = false := bne_eq_false_iff_eq.mpr c12
     clear c12
     have H' := aM H
     clear H
     have hcz13_0 : w4.cell? ⟨gb111, 0, none⟩ = some (.string a1_0) := (blk_cell BK111.out 0).trans rfl
     have hcz13_1 : w4.cell? ⟨gb111, 1, none⟩ = some (.slice A1_1 l1_1.length c1_1) := (blk_cell BK111.out 1).trans rfl
     have hcz13_2 : w4.cell? ⟨gb111, 2, none⟩ = some (.string a1_2) := (blk_cell BK111.out 2).trans rfl
     have hcz13_3 : w4.cell? ⟨gb111, 3, none⟩ = some (.bool false) := (blk_cell BK111.out 3).trans rfl
     have hcz13_4 : w4.cell? ⟨gb111, 4, none⟩ = some (.bool true) := (blk_cell BK111.out 4).trans rfl
     have hfz13_0 := blk_frozen BK111.out 0
     have hfz13_1 := blk_frozen BK111.out 1
     have hfz13_2 := blk_frozen BK111.out 2
     have hfz13_3 := blk_frozen BK111.out 3
     have hfz13_4 := blk_frozen BK111.out 4
     go_wp2
     go_meet
     case rel => exact ⟨_, (decide ((l1_1.length : Int) > 6)), zP, H', ⟨by first | omega | exact Nat.le_refl _⟩, ⟨by (with_reducible repeat (first | refine blk_drewN ?_ _ | refine blk_drew ?_ | refine blk_alloc ?_ _)); exact BK111.out⟩, ⟨by repeat (first | (with_reducible first | exact HB.out | apply bA | apply bN | apply bD | refine below_set ?_ GE111.out) | exact HB.out)⟩⟩
    ·rw [if_neg c12] at H
     have c12b0 : (a1_0.toList == ([] : List UInt8)) = false := beq_eq_false_iff_ne.mpr c12
     have c12b1 : (a1_0.toList != ([] : List UInt8)) = true := bne_iff_ne.mpr c12
     have H' := aM H
     clear H
     have hcz14_0 : w4.cell? ⟨gb111, 0, none⟩ = some (.string a1_0) := (blk_cell BK111.out 0).trans rfl
     have hcz14_1 : w4.cell? ⟨gb111, 1, none⟩ = some (.slice A1_1 l1_1.length c1_1) := (blk_cell BK111.out 1).trans rfl
     have hcz14_2 : w4.cell? ⟨gb111, 2, none⟩ = some (.string a1_2) := (blk_cell BK111.out 2).trans rfl
     have hcz14_3 : w4.cell? ⟨gb111, 3, none⟩ = some (.bool false) := (blk_cell BK111.out 3).trans rfl
     have hcz14_4 : w4.cell? ⟨gb111, 4, none⟩ = some (.bool true) := (blk_cell BK111.out 4).trans rfl
     have hfz14_0 := blk_frozen BK111.out 0
     have hfz14_1 := blk_frozen BK111.out 1
     have hfz14_2 := blk_frozen BK111.out 2
     have hfz14_3 := blk_frozen BK111.out 3
     have hfz14_4 := blk_frozen BK111.out 4
     go_wp2
     go_meet
     case rel => exact ⟨_, (true), zP, H', ⟨by first | omega | exact Nat.le_refl _⟩, ⟨by (with_reducible repeat (first | refine blk_drewN ?_ _ | refine blk_drew ?_ | refine blk_alloc ?_ _)); exact BK111.out⟩, ⟨by repeat (first | (with_reducible first | exact HB.out | apply bA | apply bN | apply bD | refine below_set ?_ GE111.out) | exact HB.out)⟩⟩
   ·replace c11 := Bool.eq_false_iff.mpr c11
    subst c11
    rw [if_neg (show ¬ (false = true) by decide)] at H
    by_cases c15 : (l1_1.length : Int) = 0
    ·rw [if_pos c15] at H
     have c15b0 : ((l1_1.length : Int) == 0) = true := beq_iff_eq.mpr c15
     have c15b1 : ((l1_1.length : Int) != 0) = false := bne_eq_false_iff_eq.mpr c15
     clear c15
     have H' := aM H
     clear H
     have hcz16_0 : w4.cell? ⟨gb111, 0, none⟩ = some (.string a1_0) := (blk_cell BK111.out 0).trans rfl
     have hcz16_1 : w4.cell? ⟨gb111, 1, none⟩ = some (.slice A1_1 l1_1.length c1_1) := (blk_cell BK111.out 1).trans rfl
     have hcz16_2 : w4.cell? ⟨gb111, 2, none⟩ = some (.string a1_2) := (blk_cell BK111.out 2).trans rfl
     have hcz16_3 : w4.cell? ⟨gb111, 3, none⟩ = some (.bool false) := (blk_cell BK111.out 3).trans rfl
     have hcz16_4 : w4.cell? ⟨gb111, 4, none⟩ = some (.bool false) := (blk_cell BK111.out 4).trans rfl
     have hfz16_0 := blk_frozen BK111.out 0
     have hfz16_1 := blk_frozen BK111.out 1
     have hfz16_2 := blk_frozen BK111.out 2
     have hfz16_3 := blk_frozen BK111.out 3
     have hfz16_4 := blk_frozen BK111.out 4
     go_wp2
     go_meet
     case rel => exact ⟨_, (true), zP, H', ⟨by first | omega | exact Nat.le_refl _⟩, ⟨by (with_reducible repeat (first | refine blk_drewN ?_ _ | refine blk_drew ?_ | refine blk_alloc ?_ _)); exact BK111.out⟩, ⟨by repeat (first | (with_reducible first | exact HB.out | apply bA | apply bN | apply bD | refine below_set ?_ GE111.out) | exact HB.out)⟩⟩
    ·rw [if_neg c15] at H
     have c15b0 : ((l1_1.length : Int) == 0) = false := beq_eq_false_iff_ne.mpr c15
     have c15b1 : ((l1_1.length : Int) != 0) = true := bne_iff_ne.mpr c15
     have c15b2 : ¬ (l1_1 = []) := fun h_ => c15 (by rw [h_]; rfl)
     by_cases c17 : a1_0.toList = ([] : List UInt8)
     ·rw [if_pos c17] at H
      have c17b0 : (a1_0.toList == ([] : List UInt8)) = true := beq_iff_eq.mpr c17
      have c17b1 : (a1_0.toList != ([] : List UInt8)) = false := bne_eq_false_iff_eq.mpr c17
      clear c17
      by_cases c18 : a1_2.toList = ([] : List UInt8)
      ·rw [if_pos c18] at H
       have c18b0 : (a1_2.toList == ([] : List UInt8)) = true := beq_iff_eq.mpr c18
       have c18b1 : (a1_2.toList != ([] : List UInt8)) = false := bne_eq_false_iff_eq.mpr c18
       clear c18
       have H' := aM H
       clear H
       have hcz19_0 : w4.cell? ⟨gb111, 0, none⟩ = some (.string a1_0) := (blk_cell BK111.out 0).trans rfl
       have hcz19_1 : w4.cell? ⟨gb111, 1, none⟩ = some (.slice A1_1 l1_1.length c1_1) := (blk_cell BK111.out 1).trans rfl
       have hcz19_2 : w4.cell? ⟨gb111, 2, none⟩ = some (.string a1_2) := (blk_cell BK111.out 2).trans rfl
       have hcz19_3 : w4.cell? ⟨gb111, 3, none⟩ = some (.bool false) := (blk_cell BK111.out 3).trans rfl
       have hcz19_4 : w4.cell? ⟨gb111, 4, none⟩ = some (.bool false) := (blk_cell BK111.out 4).trans rfl
       have hfz19_0 := blk_frozen BK111.out 0
       have hfz19_1 := blk_frozen BK111.out 1
       have hfz19_2 := blk_frozen BK111.out 2
       have hfz19_3 := blk_frozen BK111.out 3
       have hfz19_4 := blk_frozen BK111.out 4
       go_wp2
       go_meet
       case rel => exact ⟨_, (decide ((l1_1.length : Int) > 6)), zP, H', ⟨by first | omega | exact Nat.le_refl _⟩, ⟨by (with_reducible repeat (first | refine blk_drewN ?_ _ | refine blk_drew ?_ | refine blk_alloc ?_ _)); exact BK111.out⟩, ⟨by repeat (first | (with_reducible first | exact HB.out | apply bA | apply bN | apply bD | refine below_set ?_ GE111.out) | exact HB.out)⟩⟩
      ·rw [if_neg c18] at H
       have c18b0 : (a1_2.toList == ([] : List UInt8)) = false := beq_eq_false_iff_ne.mpr c18
       have c18b1 : (a1_2.toList != ([] : List UInt8)) = true := bne_iff_ne.mpr c18
       have H' := aM H
       clear H
       have hcz20_0 : w4.cell? ⟨gb111, 0, none⟩ = some (.string a1_0) := (blk_cell BK111.out 0).trans rfl
       have hcz20_1 : w4.cell? ⟨gb111, 1, none⟩ = some (.slice A1_1 l1_1.length c1_1) := (blk_cell BK111.out 1).trans rfl
       have hcz20_2 : w4.cell? ⟨gb111, 2, none⟩ = some (.string a1_2) := (blk_cell BK111.out 2).trans rfl
       have hcz20_3 : w4.cell? ⟨gb111, 3, none⟩ = some (.bool false) := (blk_cell BK111.out 3).trans rfl
       have hcz20_4 : w4.cell? ⟨gb111, 4, none⟩ = some (.bool false) := (blk_cell BK111.out 4).trans rfl
       have hfz20_0 := blk_frozen BK111.out 0
       have hfz20_1 := blk_frozen BK111.out 1
       have hfz20_2 := blk_frozen BK111.out 2
       have hfz20_3 := blk_frozen BK111.out 3
       have hfz20_4 := blk_frozen BK111.out 4
       go_wp2
       go_meet
       case rel => exact ⟨_, (true), zP, H', ⟨by first | omega | exact Nat.le_refl _⟩, ⟨by (with_reducible repeat (first | refine blk_drewN ?_ _ | refine blk_drew ?_ | refine blk_alloc ?_ _)); exact BK111.out⟩, ⟨by repeat (first | (with_reducible first | exact HB.out | apply bA | apply bN | apply bD | refine below_set ?_ GE111.out) | exact HB.out)⟩⟩
     ·rw [if_neg c17] at H
      have c17b0 : (a1_0.toList == ([] : List UInt8)) = false := beq_eq_false_iff_ne.mpr c17
      have c17b1 : (a1_0.toList != ([] : List UInt8)) = true := bne_iff_ne.mpr c17
      have H' := aM H
      clear H
      have hcz21_0 : w4.cell? ⟨gb111, 0, none⟩ = some (.string a1_0) := (blk_cell BK111.out 0).trans rfl
      have hcz21_1 : w4.cell? ⟨gb111, 1, none⟩ = some (.slice A1_1 l1_1.length c1_1) := (blk_cell BK111.out 1).trans rfl
      have hcz21_2 : w4.cell? ⟨gb111, 2, none⟩ = some (.string a1_2) := (blk_cell BK111.out 2).trans rfl
      have hcz21_3 : w4.cell? ⟨gb111, 3, none⟩ = some (.bool false) := (blk_cell BK111.out 3).trans rfl
      have hcz21_4 : w4.cell? ⟨gb111, 4, none⟩ = some (.bool false) := (blk_cell BK111.out 4).trans rfl
      have hfz21_0 := blk_frozen BK111.out 0
      have hfz21_1 := blk_frozen BK111.out 1
      have hfz21_2 := blk_frozen BK111.out 2
      have hfz21_3 := blk_frozen BK111.out 3
      have hfz21_4 := blk_frozen BK111.out 4
      go_wp2
      go_meet
      case rel => exact ⟨_, (true), zP, H', ⟨by first | omega | exact Nat.le_refl _⟩, ⟨by (with_reducible repeat (first | refine blk_drewN ?_ _ | refine blk_drew ?_ | refine blk_alloc ?_ _)); exact BK111.out⟩, ⟨by repeat (first | (with_reducible first | exact HB.out | apply bA | apply bN | apply bD | refine below_set ?_ GE111.out) | exact HB.out)⟩⟩
 case rest =>
  clear HC3
  try clear c1
  try clear p2
  try clear c5
  try clear c6
  try clear c8
  try clear c8b0
  try clear c8b1
  try clear c9
  try clear c11
  try clear c12
  try clear c12b0
  try clear c12b1
  try clear c15
  try clear c15b0
  try clear c15b1
  try clear c15b2
  try clear c17
  try clear c17b0
  try clear c17b1
  try clear c18
  try clear c18b0
  try clear c18b1
  try clear hcz10_0
  try clear hcz10_1
  try clear hcz10_2
  try clear hcz10_3
  try clear hcz10_4
  try clear hcz13_0
  try clear hcz13_1
  try clear hcz13_2
  try clear hcz13_3
  try clear hcz13_4
  try clear hcz14_0
  try clear hcz14_1
  try clear hcz14_2
  try clear hcz14_3
  try clear hcz14_4
  try clear hcz16_0
  try clear hcz16_1
  try clear hcz16_2
  try clear hcz16_3
  try clear hcz16_4
  try clear hcz19_0
  try clear hcz19_1
  try clear hcz19_2
  try clear hcz19_3
  try clear hcz19_4
  try clear hcz20_0
  try clear hcz20_1
  try clear hcz20_2
  try clear hcz20_3
  try clear hcz20_4
  try clear hcz21_0
  try clear hcz21_1
  try clear hcz21_2
  try clear hcz21_3
  try clear hcz21_4
  try clear hcz7_0
  try clear hcz7_1
  try clear hcz7_2
  try clear hcz7_3
  try clear hcz7_4
  try clear hcz9_0
  try clear hcz9_1
  try clear hcz9_2
  try clear hcz9_3
  try clear hcz9_4
  try clear hfz10_0
  try clear hfz10_1
  try clear hfz10_2
  try clear hfz10_3
  try clear hfz10_4
  try clear hfz13_0
  try clear hfz13_1
  try clear hfz13_2
  try clear hfz13_3
  try clear hfz13_4
  try clear hfz14_0
  try clear hfz14_1
  try clear hfz14_2
  try clear hfz14_3
  try clear hfz14_4
  try clear hfz16_0
  try clear hfz16_1
  try clear hfz16_2
  try clear hfz16_3
  try clear hfz16_4
  try clear hfz19_0
  try clear hfz19_1
  try clear hfz19_2
  try clear hfz19_3
  try clear hfz19_4
  try clear hfz20_0
  try clear hfz20_1
  try clear hfz20_2
  try clear hfz20_3
  try clear hfz20_4
  try clear hfz21_0
  try clear hfz21_1
  try clear hfz21_2
  try clear hfz21_3
  try clear hfz21_4
  try clear hfz7_0
  try clear hfz7_1
  try clear hfz7_2
  try clear hfz7_3
  try clear hfz7_4
  try clear hfz9_0
  try clear hfz9_1
  try clear hfz9_2
  try clear hfz9_3
  try clear hfz9_4
  obtain ⟨kq, x44_2, rfl, HA, HJ2, BK111, HB⟩ := hcut
  cases kq with
  | zero => exact absurd HA.out (by simp [pieces_Match.j0])
  | succ kj2 =>
   have H := HA.out
   clear HA
   simp only [pieces_Match.j0] at H
   by_cases c22 : x44_2 = true
   ·subst c22
    rw [if_pos rfl] at H
    obtain rfl := sI H
    go_wp2
    go_ret
    exact ⟨zE, by repeat (first | (with_reducible first | exact HB.out | apply bA | apply bN | apply bD | refine below_set ?_ GE111.out) | exact HB.out)⟩
   ·replace c22 := Bool.eq_false_iff.mpr c22
    subst c22
    rw [if_neg (show ¬ (false = true) by decide)] at H
    obtain ⟨⟨t112, t113⟩, A23, H⟩ := zO H
    try dsimp only at H
    by_cases c24 : t113 = true
    ·subst c24
     rw [if_pos rfl] at H
     obtain ⟨⟨t114, t115⟩, A25, H⟩ := zO H
     try dsimp only at H
     have H' := aM H
     clear H
     have hcz26_0 : wc.cell? ⟨gb111, 0, none⟩ = some (.string a1_0) := (blk_cell BK111.out 0).trans rfl
     have hcz26_1 : wc.cell? ⟨gb111, 1, none⟩ = some (.slice A1_1 l1_1.length c1_1) := (blk_cell BK111.out 1).trans rfl
     have hcz26_2 : wc.cell? ⟨gb111, 2, none⟩ = some (.string a1_2) := (blk_cell BK111.out 2).trans rfl
     have hcz26_3 : wc.cell? ⟨gb111, 3, none⟩ = some (.bool a1_3) := (blk_cell BK111.out 3).trans rfl
     have hcz26_4 : wc.cell? ⟨gb111, 4, none⟩ = some (.bool a1_4) := (blk_cell BK111.out 4).trans rfl
     have hfz26_0 := blk_frozen BK111.out 0
     have hfz26_1 := blk_frozen BK111.out 1
     have hfz26_2 := blk_frozen BK111.out 2
     have hfz26_3 := blk_frozen BK111.out 3
     have hfz26_4 := blk_frozen BK111.out 4
     go_wp2_with (first | ((with_reducible refine gate_callee (f := 14) rfl ?_); refine goesL_ (some 49) rfl rfl Try.func14 zK rfl #[.string a0, .string a1_0] rfl zM ?_; (with_reducible refine (strings_CutPrefix.calls a0 a1_0 t112 true _ A23.out).mono ?_); rintro e w' ⟨rfl, ⟨nd, rfl⟩⟩; refine ⟨_, rfl, ?_⟩) | ((with_reducible refine gate_callee (f := 15) rfl ?_); refine goesL_ (some 58) rfl rfl Try.func15 zK rfl #[.string t112, .string a1_2] rfl zM ?_; (with_reducible refine (strings_CutSuffix.calls t112 a1_2 t114 t115 _ A25.out).mono ?_); rintro e w' ⟨rfl, ⟨nd, rfl⟩⟩; refine ⟨_, rfl, ?_⟩))
     go_loopg [5, 6, 64] kj2 (fun kq v5 v6 v64 w' => ∃ (x5_2 : ByteArray) (x6_2 : Bool) (x64_2 : Int), v5 = .string x5_2 ∧ v6 = .bool x6_2 ∧ v64 = .int .i64 x64_2 ∧ Aside0 (pieces_Match.l0 kq x5_2 x6_2 l1_1 (l1_1.length : Int) x64_2 = some r) ∧ Aside0 (kq ≤ kj2) ∧ Aside0 (w'.heap[gb111]? = some (.cells #[.string a1_0, (.slice A1_1 l1_1.length c1_1), .string a1_2, .bool a1_3, .bool a1_4] 29 (0, 0))) ∧ Aside0 (Below w.heap.size w w'))
     case atStart => exact ⟨(t114), (t115), (0), zP, zP, zP, H', ⟨Nat.le_refl _⟩, ⟨by (with_reducible repeat (first | refine blk_drewN ?_ _ | refine blk_drew ?_ | refine blk_alloc ?_ _)); exact BK111.out⟩, ⟨by repeat (first | (with_reducible first | exact HB.out | apply bA | apply bN | apply bD | refine below_set ?_ GE111.out) | exact HB.out)⟩⟩
     case round =>
      clear H'
      try clear c1
      try clear c2
      try clear p2
      try clear c5
      try clear c6
      try clear c8
      try clear c8b0
      try clear c8b1
      try clear c9
      try clear c11
      try clear c12
      try clear c12b0
      try clear c12b1
      try clear c14
      try clear c15
      try clear c15b0
      try clear c15b1
      try clear c15b2
      try clear c17
      try clear c17b0
      try clear c17b1
      try clear c18
      try clear c18b0
      try clear c18b1
      try clear c22
      try clear c24
      try clear hcz10_0
      try clear hcz10_1
      try clear hcz10_2
      try clear hcz10_3
      try clear hcz10_4
      try clear hcz13_0
      try clear hcz13_1
      try clear hcz13_2
      try clear hcz13_3
      try clear hcz13_4
      try clear hcz14_0
      try clear hcz14_1
      try clear hcz14_2
      try clear hcz14_3
      try clear hcz14_4
      try clear hcz16_0
      try clear hcz16_1
      try clear hcz16_2
      try clear hcz16_3
      try clear hcz16_4
      try clear hcz19_0
      try clear hcz19_1
      try clear hcz19_2
      try clear hcz19_3
      try clear hcz19_4
      try clear hcz20_0
      try clear hcz20_1
      try clear hcz20_2
      try clear hcz20_3
      try clear hcz20_4
      try clear hcz21_0
      try clear hcz21_1
      try clear hcz21_2
      try clear hcz21_3
      try clear hcz21_4
      try clear hcz26_0
      try clear hcz26_1
      try clear hcz26_2
      try clear hcz26_3
      try clear hcz26_4
      try clear hcz7_0
      try clear hcz7_1
      try clear hcz7_2
      try clear hcz7_3
      try clear hcz7_4
      try clear hcz9_0
      try clear hcz9_1
      try clear hcz9_2
      try clear hcz9_3
      try clear hcz9_4
      try clear hfz10_0
      try clear hfz10_1
      try clear hfz10_2
      try clear hfz10_3
      try clear hfz10_4
      try clear hfz13_0
      try clear hfz13_1
      try clear hfz13_2
      try clear hfz13_3
      try clear hfz13_4
      try clear hfz14_0
      try clear hfz14_1
      try clear hfz14_2
      try clear hfz14_3
      try clear hfz14_4
      try clear hfz16_0
      try clear hfz16_1
      try clear hfz16_2
      try clear hfz16_3
      try clear hfz16_4
      try clear hfz19_0
      try clear hfz19_1
      try clear hfz19_2
      try clear hfz19_3
      try clear hfz19_4
      try clear hfz20_0
      try clear hfz20_1
      try clear hfz20_2
      try clear hfz20_3
      try clear hfz20_4
      try clear hfz21_0
      try clear hfz21_1
      try clear hfz21_2
      try clear hfz21_3
      try clear hfz21_4
      try clear hfz26_0
      try clear hfz26_1
      try clear hfz26_2
      try clear hfz26_3
      try clear hfz26_4
      try clear hfz7_0
      try clear hfz7_1
      try clear hfz7_2
      try clear hfz7_3
      try clear hfz7_4
      try clear hfz9_0
      try clear hfz9_1
      try clear hfz9_2
      try clear hfz9_3
      try clear hfz9_4
      try clear p2
      obtain ⟨x5_2, x6_2, x64_2, rfl, rfl, rfl, HA, HK2, BK111, HB⟩ := hrel
      cases gk with
      | zero => exact absurd HA.out (by simp [pieces_Match.l0])
      | succ k2 =>
       have H := HA.out
       clear HA
       simp only [pieces_Match.l0] at H
       by_cases c27 : x64_2 < (l1_1.length : Int)
       ·rw [if_pos c27] at H
        have c27b0 : decide (x64_2 < (l1_1.length : Int)) = true := decide_eq_true c27
        clear c27
        by_cases c28 : 0 ≤ x64_2
        ·rw [if_pos c28] at H
         have c28b0 : decide (0 ≤ x64_2) = true := decide_eq_true c28
         clear c28
         by_cases c29 : x64_2 < (l1_1.length : Int)
         ·rw [if_pos c29] at H
          have c29b0 : decide (x64_2 < (l1_1.length : Int)) = true := decide_eq_true c29
          clear c29
          obtain ⟨⟨t117, t118, t119⟩, A30, H⟩ := zO H
          try dsimp only at H
          by_cases c31 : x6_2 = true
          ·subst c31
           rw [if_pos rfl] at H
           have H' := aM H
           clear H
           have p116 : 0 ≤ (x64_2 : Int) := zoA
           have q116 : x64_2 < (l1_1.length : Int) := zoA
           obtain ⟨ad116, e116, hx116_0⟩ := Kd.at_string HR1_1.out x64_2 p116 q116
           cases e116
           replace hx116_0 := (HB.out.cell (World.block_lt_of_cell? w _ hx116_0)).trans hx116_0
           replace p116 := eq_true p116
           replace q116 := eq_true q116
           go_wp2_with (first | ((with_reducible refine gate_callee (f := 16) rfl ?_); refine goesL_ (some 71) rfl rfl Try.func16 zK rfl #[.string x5_2, .string (rdOf ByteArray.empty l1_1 x64_2)] rfl zM ?_; (with_reducible refine (strings_Cut.calls x5_2 (rdOf ByteArray.empty l1_1 x64_2) t117 t118 t119 _ (zEnv HE) A30.out).mono ?_); rintro e w' ⟨rfl, ⟨nd, rfl⟩⟩; refine ⟨_, rfl, ?_⟩))
           go_roundg k2
           case measure => have := HJ2.out; have := HK2.out; omega
           case rel => exact ⟨(t118), (t119), (wrap64 (x64_2 + 1)), zP, zP, zP, H', ⟨by have := HJ2.out; have := HK2.out; omega⟩, ⟨by (with_reducible repeat (first | refine blk_drewN ?_ _ | refine blk_drew ?_ | refine blk_alloc ?_ _)); exact BK111.out⟩, ⟨by repeat (first | (with_reducible first | exact HB.out | apply bA | apply bN | apply bD | refine below_set ?_ GE111.out) | exact HB.out)⟩⟩
          ·replace c31 := Bool.eq_false_iff.mpr c31
           subst c31
           rw [if_neg (show ¬ (false = true) by decide)] at H
           have H' := aM H
           clear H
           have p116 : 0 ≤ (x64_2 : Int) := zoA
           have q116 : x64_2 < (l1_1.length : Int) := zoA
           obtain ⟨ad116, e116, hx116_0⟩ := Kd.at_string HR1_1.out x64_2 p116 q116
           cases e116
           replace hx116_0 := (HB.out.cell (World.block_lt_of_cell? w _ hx116_0)).trans hx116_0
           replace p116 := eq_true p116
           replace q116 := eq_true q116
           go_wp2_with (first | ((with_reducible refine gate_callee (f := 16) rfl ?_); refine goesL_ (some 71) rfl rfl Try.func16 zK rfl #[.string x5_2, .string (rdOf ByteArray.empty l1_1 x64_2)] rfl zM ?_; (with_reducible refine (strings_Cut.calls x5_2 (rdOf ByteArray.empty l1_1 x64_2) t117 t118 t119 _ (zEnv HE) A30.out).mono ?_); rintro e w' ⟨rfl, ⟨nd, rfl⟩⟩; refine ⟨_, rfl, ?_⟩))
           go_roundg k2
           case measure => have := HJ2.out; have := HK2.out; omega
           case rel => exact ⟨(t118), (false), (wrap64 (x64_2 + 1)), zP, zP, zP, H', ⟨by have := HJ2.out; have := HK2.out; omega⟩, ⟨by (with_reducible repeat (first | refine blk_drewN ?_ _ | refine blk_drew ?_ | refine blk_alloc ?_ _)); exact BK111.out⟩, ⟨by repeat (first | (with_reducible first | exact HB.out | apply bA | apply bN | apply bD | refine below_set ?_ GE111.out) | exact HB.out)⟩⟩
         ·rw [if_neg c29] at H
          exact absurd H (by simp)
        ·rw [if_neg c28] at H
         exact absurd H (by simp)
       ·rw [if_neg c27] at H
        have c27b0 : decide (x64_2 < (l1_1.length : Int)) = false := decide_eq_false c27
        clear c27
        obtain rfl := sI H
        go_wp2
        go_ret
        exact ⟨zE, by repeat (first | (with_reducible first | exact HB.out | apply bA | apply bN | apply bD | refine below_set ?_ GE111.out) | exact HB.out)⟩
    ·replace c24 := Bool.eq_false_iff.mpr c24
     subst c24
     rw [if_neg (show ¬ (false = true) by decide)] at H
     obtain rfl := sI H
     have hcz32_0 : wc.cell? ⟨gb111, 0, none⟩ = some (.string a1_0) := (blk_cell BK111.out 0).trans rfl
     have hcz32_1 : wc.cell? ⟨gb111, 1, none⟩ = some (.slice A1_1 l1_1.length c1_1) := (blk_cell BK111.out 1).trans rfl
     have hcz32_2 : wc.cell? ⟨gb111, 2, none⟩ = some (.string a1_2) := (blk_cell BK111.out 2).trans rfl
     have hcz32_3 : wc.cell? ⟨gb111, 3, none⟩ = some (.bool a1_3) := (blk_cell BK111.out 3).trans rfl
     have hcz32_4 : wc.cell? ⟨gb111, 4, none⟩ = some (.bool a1_4) := (blk_cell BK111.out 4).trans rfl
     have hfz32_0 := blk_frozen BK111.out 0
     have hfz32_1 := blk_frozen BK111.out 1
     have hfz32_2 := blk_frozen BK111.out 2
     have hfz32_3 := blk_frozen BK111.out 3
     have hfz32_4 := blk_frozen BK111.out 4
     go_wp2_with (first | ((with_reducible refine gate_callee (f := 14) rfl ?_); refine goesL_ (some 49) rfl rfl Try.func14 zK rfl #[.string a0, .string a1_0] rfl zM ?_; (with_reducible refine (strings_CutPrefix.calls a0 a1_0 t112 false _ A23.out).mono ?_); rintro e w' ⟨rfl, ⟨nd, rfl⟩⟩; refine ⟨_, rfl, ?_⟩))
     go_ret
     exact ⟨zE, by repeat (first | (with_reducible first | exact HB.out | apply bA | apply bN | apply bD | refine below_set ?_ GE111.out) | exact HB.out)⟩

/-! ### utf_Point: function 62 -/
def utf_Point.f (a0 : Int) : Option (Bool) := if a0 ≥ 0 then (if a0 ≤ 1114111 then (if a0 < 55296 then (some true) else (some (decide (a0 > 57343)))) else (some false)) else (some false)
set_option maxHeartbeats 8000000 in
set_option maxRecDepth 100000 in
theorem utf_Point.calls (a0 : Int) (r : Bool) (w : World) (h : utf_Point.f a0 = some r) :
  Calls Try.prog 62 #[.int .i32 a0] w fun e w' => e = .returned (.bool r) ∧ Drawn0 w w' := by
 have H := h
 clear h
 unfold utf_Point.f at H
 by_cases c2 : a0 ≥ 0
 ·rw [if_pos c2] at H
  have c2b0 : decide (0 ≤ a0) = true := decide_eq_true c2
  clear c2
  by_cases c3 : a0 ≤ 1114111
  ·rw [if_pos c3] at H
   have c3b0 : decide (a0 ≤ 1114111) = true := decide_eq_true c3
   clear c3
   by_cases c4 : a0 < 55296
   ·rw [if_pos c4] at H
    have c4b0 : decide (a0 < 55296) = true := decide_eq_true c4
    clear c4
    obtain rfl := sI H
    go_enter Try.func62, Try.ntmps62
    go_wp2
    go_ret
    exact ⟨zP, zD⟩
   ·rw [if_neg c4] at H
    have c4b0 : decide (a0 < 55296) = false := decide_eq_false c4
    clear c4
    obtain rfl := sI H
    go_enter Try.func62, Try.ntmps62
    go_wp2
    go_ret
    exact ⟨zP, zD⟩
  ·rw [if_neg c3] at H
   have c3b0 : decide (a0 ≤ 1114111) = false := decide_eq_false c3
   clear c3
   obtain rfl := sI H
   go_enter Try.func62, Try.ntmps62
   go_wp2
   go_ret
   exact ⟨zP, zD⟩
 ·rw [if_neg c2] at H
  have c2b0 : decide (0 ≤ a0) = false := decide_eq_false c2
  clear c2
  obtain rfl := sI H
  go_enter Try.func62, Try.ntmps62
  go_wp2
  go_ret
  exact ⟨zP, zD⟩

/-! ### utf_Length: function 40 -/
def utf_Length.f (a0 : Int) : Option (Int) := (utf_Point.f a0).bind fun t120 => (if t120 = true then (if a0 < 128 then (some 1) else (if a0 < 2048 then (some 2) else (if a0 < 65536 then (some 3) else (some 4)))) else (some 0))
set_option maxHeartbeats 8000000 in
set_option maxRecDepth 100000 in
theorem utf_Length.calls (a0 : Int) (r : Int) (w : World) (h : utf_Length.f a0 = some r) :
  Calls Try.prog 40 #[.int .i32 a0] w fun e w' => e = .returned (.int .i64 r) ∧ Drawn0 w w' := by
 have H := h
 clear h
 unfold utf_Length.f at H
 obtain ⟨t120, A2, H⟩ := zO H
 by_cases c3 : t120 = true
 ·subst c3
  rw [if_pos rfl] at H
  by_cases c4 : a0 < 128
  ·rw [if_pos c4] at H
   have c4b0 : decide (a0 < 128) = true := decide_eq_true c4
   clear c4
   obtain rfl := sI H
   go_enter Try.func40, Try.ntmps40
   go_wp2_with (first | ((with_reducible refine gate_callee (f := 62) rfl ?_); refine goesL_ (some 5) rfl rfl Try.func62 zK rfl #[.int .i32 a0] rfl zM ?_; (with_reducible refine (utf_Point.calls a0 true _ A2.out).mono ?_); rintro e w' ⟨rfl, ⟨nd, rfl⟩⟩; refine ⟨_, rfl, ?_⟩))
   go_ret
   exact ⟨zP, zD⟩
  ·rw [if_neg c4] at H
   have c4b0 : decide (a0 < 128) = false := decide_eq_false c4
   clear c4
   by_cases c5 : a0 < 2048
   ·rw [if_pos c5] at H
    have c5b0 : decide (a0 < 2048) = true := decide_eq_true c5
    clear c5
    obtain rfl := sI H
    go_enter Try.func40, Try.ntmps40
    go_wp2_with (first | ((with_reducible refine gate_callee (f := 62) rfl ?_); refine goesL_ (some 5) rfl rfl Try.func62 zK rfl #[.int .i32 a0] rfl zM ?_; (with_reducible refine (utf_Point.calls a0 true _ A2.out).mono ?_); rintro e w' ⟨rfl, ⟨nd, rfl⟩⟩; refine ⟨_, rfl, ?_⟩))
    go_ret
    exact ⟨zP, zD⟩
   ·rw [if_neg c5] at H
    have c5b0 : decide (a0 < 2048) = false := decide_eq_false c5
    clear c5
    by_cases c6 : a0 < 65536
    ·rw [if_pos c6] at H
     have c6b0 : decide (a0 < 65536) = true := decide_eq_true c6
     clear c6
     obtain rfl := sI H
     go_enter Try.func40, Try.ntmps40
     go_wp2_with (first | ((with_reducible refine gate_callee (f := 62) rfl ?_); refine goesL_ (some 5) rfl rfl Try.func62 zK rfl #[.int .i32 a0] rfl zM ?_; (with_reducible refine (utf_Point.calls a0 true _ A2.out).mono ?_); rintro e w' ⟨rfl, ⟨nd, rfl⟩⟩; refine ⟨_, rfl, ?_⟩))
     go_ret
     exact ⟨zP, zD⟩
    ·rw [if_neg c6] at H
     have c6b0 : decide (a0 < 65536) = false := decide_eq_false c6
     clear c6
     obtain rfl := sI H
     go_enter Try.func40, Try.ntmps40
     go_wp2_with (first | ((with_reducible refine gate_callee (f := 62) rfl ?_); refine goesL_ (some 5) rfl rfl Try.func62 zK rfl #[.int .i32 a0] rfl zM ?_; (with_reducible refine (utf_Point.calls a0 true _ A2.out).mono ?_); rintro e w' ⟨rfl, ⟨nd, rfl⟩⟩; refine ⟨_, rfl, ?_⟩))
     go_ret
     exact ⟨zP, zD⟩
 ·replace c3 := Bool.eq_false_iff.mpr c3
  subst c3
  rw [if_neg (show ¬ (false = true) by decide)] at H
  obtain rfl := sI H
  go_enter Try.func40, Try.ntmps40
  go_wp2_with (first | ((with_reducible refine gate_callee (f := 62) rfl ?_); refine goesL_ (some 5) rfl rfl Try.func62 zK rfl #[.int .i32 a0] rfl zM ?_; (with_reducible refine (utf_Point.calls a0 false _ A2.out).mono ?_); rintro e w' ⟨rfl, ⟨nd, rfl⟩⟩; refine ⟨_, rfl, ?_⟩))
  go_ret
  exact ⟨zP, zD⟩

/-! ### utf_Decode: function 38, by hand (utf.Decode.tpl) -/
def utf_Decode.l0 : Nat → ByteArray → Int → Int → Int → Int → Option (Int × Int × Int)
  | 0, _, _, _, _, _ => none
  | k + 1, x0, x1, x7, x8, x10 => if x10 < x8 then (if 0 ≤ wrap64 (x1 + x10) then (if wrap64 (x1 + x10) < (x0.size : Int) then (if bt x0 (wrap64 (x1 + x10)) / 64 = 2 then utf_Decode.l0 k x0 x1 (Go.bits .or .i32 (wrap32 (x7 * 64)) (bt x0 (wrap64 (x1 + x10)) % 64)) x8 (wrap64 (x10 + 1)) else some (0, 0, 10)) else none) else none) else ((utf_Length.f x7).bind fun t => if t = x8 then some (x7, wrap64 (x1 + x8), 0) else some (0, 0, 10))
def utf_Decode.f (k : Nat) (a0 : ByteArray) (a1 : Int) : Option (Int × Int × Int) :=
  if a1 < 0 then some (0, 0, 2) else if a1 ≥ (a0.size : Int) then some (0, 0, 2)
  else if bt a0 a1 < 128 then some (bt a0 a1, wrap64 (a1 + 1), 0)
  else if bt a0 a1 ≥ 194 ∧ bt a0 a1 < 224 then (if 2 > wrap64 ((a0.size : Int) - a1) then some (0, 0, 10) else utf_Decode.l0 k a0 a1 (bt a0 a1 % 32) 2 1)
  else if bt a0 a1 ≥ 224 ∧ bt a0 a1 < 240 then (if 3 > wrap64 ((a0.size : Int) - a1) then some (0, 0, 10) else utf_Decode.l0 k a0 a1 (bt a0 a1 % 16) 3 1)
  else if bt a0 a1 ≥ 240 ∧ bt a0 a1 < 245 then (if 4 > wrap64 ((a0.size : Int) - a1) then some (0, 0, 10) else utf_Decode.l0 k a0 a1 (bt a0 a1 % 8) 4 1)
  else some (0, 0, 10)
theorem utf_Decode.mono_l : ∀ k, (∀ y0 y1 y2 y3 y4, LeO (utf_Decode.l0 k y0 y1 y2 y3 y4) (utf_Decode.l0 (k + 1) y0 y1 y2 y3 y4))
  | 0 => fun _ _ _ _ _ r h => by simp [utf_Decode.l0] at h
  | k + 1 => by
    have ih0 := utf_Decode.mono_l k
    intro y0 y1 y2 y3 y4
    unfold utf_Decode.l0
    repeat' first
      | exact ih0 _ _ _ _ _
      | exact LeO.refl _
      | refine LeO.ite ?_ ?_
      | refine LeO.bind ?_ (fun _ => ?_)
theorem utf_Decode.mono : ∀ a0 a1 k, LeO (utf_Decode.f k a0 a1) (utf_Decode.f (k + 1) a0 a1) := by
  intro a0 a1 k
  have ih0 := utf_Decode.mono_l k
  unfold utf_Decode.f
  repeat' first
      | exact ih0 _ _ _ _ _
      | exact LeO.refl _
      | refine LeO.ite ?_ ?_
set_option maxHeartbeats 8000000 in
set_option maxRecDepth 100000 in
theorem utf_Decode.calls (k : Nat) (a0 : ByteArray) (a1 : Int) (r1 r2 r3 : Int) (w : World) (h : utf_Decode.f k a0 a1 = some (r1, r2, r3)) :
    Calls Try.prog 38 #[.string a0, .int .i64 a1] w fun e w' => e = .returned (.tuple #[.int .i32 r1, .int .i64 r2, .int .i64 r3]) ∧ Drawn0 w w' := by
  have H := h
  clear h
  unfold utf_Decode.f at H
  by_cases c1 : a1 < 0
  · rw [if_pos c1] at H
    have c1b : decide (a1 < 0) = true := decide_eq_true c1
    clear c1
    simp only [Option.some.injEq, Prod.mk.injEq] at H
    obtain ⟨rfl, rfl, rfl⟩ := H
    go_enter Try.func38, Try.ntmps38
    go_wp2
    go_step3
    go_wp2
    rw [Exit.noGoto_ret]
    go_ret3
    exact ⟨rfl, Drawn0.refl _⟩
  · rw [if_neg c1] at H
    have c1b : decide (a1 < 0) = false := decide_eq_false c1
    have c1p : 0 ≤ a1 := by omega
    clear c1
    by_cases c2 : a1 ≥ (a0.size : Int)
    · rw [if_pos c2] at H
      have c2b : decide ((a0.size : Int) ≤ a1) = true := decide_eq_true c2
      clear c2
      simp only [Option.some.injEq, Prod.mk.injEq] at H
      obtain ⟨rfl, rfl, rfl⟩ := H
      go_enter Try.func38, Try.ntmps38
      go_wp2
      go_step3
      go_wp2
      rw [Exit.noGoto_ret]
      go_ret3
      exact ⟨rfl, Drawn0.refl _⟩
    · rw [if_neg c2] at H
      have c2b : decide ((a0.size : Int) ≤ a1) = false := decide_eq_false c2
      have c2p : a1 < (a0.size : Int) := by omega
      have hb := bt_at a0 a1
      have hr := bt_range a0 a1
      clear c2
      by_cases c3 : bt a0 a1 < 128
      · rw [if_pos c3] at H
        have c3b : decide (bt a0 a1 < 128) = true := decide_eq_true c3
        simp only [Option.some.injEq, Prod.mk.injEq] at H
        obtain ⟨rfl, rfl, rfl⟩ := H
        go_enter Try.func38, Try.ntmps38
        go_wp2
        go_step3
        go_wp2
        rw [Exit.noGoto_ret]
        go_ret3
        exact ⟨rfl, Drawn0.refl _⟩
      · rw [if_neg c3] at H
        have c3p : 128 ≤ bt a0 a1 := by omega
        clear c3
        by_cases c4 : bt a0 a1 < 194
        · rw [if_neg (by omega), if_neg (by omega), if_neg (by omega)] at H
          have H' := Aside0.mk H
          clear H
          go_enter Try.func38, Try.ntmps38
          go_wp2
          refine wp_scope_jumps 0 (fun a w' => (a.tmps.size = 93 ∧ a.defers = []) ∧ Aside0 (some ((0 : Int), (0 : Int), (10 : Int)) = some (r1, r2, r3)) ∧ Drawn0 w w') (fun _ _ => 0) rfl ?first ?pass
          case pass =>
            clear H'
            rintro ⟨tm, df⟩ w2 ⟨⟨hz, hd⟩, H2, ⟨nd, rfl⟩⟩
            have H3 := H2.out
            clear H2
            simp only [Option.some.injEq, Prod.mk.injEq] at H3
            obtain ⟨rfl, rfl, rfl⟩ := H3
            replace hd : df = [] := hd
            subst hd
            have HZ := Lib.hid hz
            clear hz
            go_wp2
            go_ret3
            have hz := HZ.out
            exact ⟨by simp [Array.getD, hz], ⟨_, rfl⟩⟩
          case first =>
            go_wp2
            go_step3
            go_simp
            exact ⟨rfl, ⟨rfl, rfl⟩, H', Drawn0.refl _⟩
        · by_cases c5 : bt a0 a1 < 224
          · rw [if_pos (by omega)] at H
            by_cases cn : (2 : Int) > wrap64 ((a0.size : Int) - a1)
            · rw [if_pos cn] at H
              have H' := Aside0.mk H
              clear H
              have cnb : decide (wrap64 ((a0.size : Int) - a1) < 2) = true := decide_eq_true cn
              clear cn
              go_enter Try.func38, Try.ntmps38
              go_wp2
              refine wp_scope_jumps 0 (fun a w' => (a.tmps.size = 93 ∧ a.defers = []) ∧ Aside0 (some ((0 : Int), (0 : Int), (10 : Int)) = some (r1, r2, r3)) ∧ Drawn0 w w') (fun _ _ => 0) rfl ?first ?pass
              case pass =>
                clear H'
                rintro ⟨tm, df⟩ w2 ⟨⟨hz, hd⟩, H2, ⟨nd, rfl⟩⟩
                have H3 := H2.out
                clear H2
                simp only [Option.some.injEq, Prod.mk.injEq] at H3
                obtain ⟨rfl, rfl, rfl⟩ := H3
                replace hd : df = [] := hd
                subst hd
                have HZ := Lib.hid hz
                clear hz
                go_wp2
                go_ret3
                have hz := HZ.out
                exact ⟨by simp [Array.getD, hz], ⟨_, rfl⟩⟩
              case first =>
                go_wp2
                go_step3
                go_simp
                exact ⟨rfl, ⟨rfl, rfl⟩, H', Drawn0.refl _⟩
            · rw [if_neg cn] at H
              have H' := Aside0.mk H
              clear H
              have cnb : decide (wrap64 ((a0.size : Int) - a1) < 2) = false := decide_eq_false cn
              clear cn
              go_enter Try.func38, Try.ntmps38
              go_wp2
              refine wp_scope_jumps 0 (fun a w' => (a.tmps.size = 93 ∧ a.defers = []) ∧ Aside0 (some ((0 : Int), (0 : Int), (10 : Int)) = some (r1, r2, r3)) ∧ Drawn0 w w') (fun _ _ => 0) rfl ?first ?pass
              case pass =>
                clear H'
                rintro ⟨tm, df⟩ w2 ⟨⟨hz, hd⟩, H2, ⟨nd, rfl⟩⟩
                have H3 := H2.out
                clear H2
                simp only [Option.some.injEq, Prod.mk.injEq] at H3
                obtain ⟨rfl, rfl, rfl⟩ := H3
                replace hd : df = [] := hd
                subst hd
                have HZ := Lib.hid hz
                clear hz
                go_wp2
                go_ret3
                have hz := HZ.out
                exact ⟨by simp [Array.getD, hz], ⟨_, rfl⟩⟩
              case first =>
                go_wp2
                go_loopg [7, 10] k (fun kq v7 v10 w' => ∃ (x7 x10 : Int), v7 = .int .i32 x7 ∧ v10 = .int .i64 x10 ∧ Aside0 (utf_Decode.l0 kq a0 a1 x7 2 x10 = some (r1, r2, r3)) ∧ Aside0 (kq ≤ k) ∧ Drawn0 w w')
                case atStart => exact ⟨_, _, rfl, rfl, H', ⟨Nat.le_refl _⟩, Drawn0.refl _⟩
                case round =>
                  clear H' hb hr
                  obtain ⟨x7, x10, rfl, rfl, HA, HK, ⟨nd, rfl⟩⟩ := hrel
                  cases gk with
                  | zero => exact absurd HA.out (by simp [utf_Decode.l0])
                  | succ k1 =>
                    have H := HA.out
                    clear HA
                    simp only [utf_Decode.l0] at H
                    by_cases d1 : x10 < 2
                    · rw [if_pos d1] at H
                      obtain ⟨j, hj⟩ : ∃ j, wrap64 (a1 + x10) = j := ⟨_, rfl⟩
                      rw [hj] at H
                      have hjw : IntKind.i64.wrap (a1 + x10) = j := (i64_w _).trans hj
                      by_cases d2 : 0 ≤ j
                      · rw [if_pos d2] at H
                        by_cases d3 : j < (a0.size : Int)
                        · rw [if_pos d3] at H
                          have hb := bt_at a0 j
                          have hr := bt_range a0 j
                          by_cases d4 : bt a0 j / 64 = 2
                          · rw [if_pos d4] at H
                            have H' := Aside0.mk H
                            have m1 : (Go.bits .and .u8 (bt a0 j) 192 != 128) = false := by rw [u8_and192 hr.1 hr.2, d4]; rfl
                            clear H d4
                            go_wp2
                            go_roundg k1
                            case measure => have := HK.out; omega
                            case rel => exact ⟨_, _, rfl, rfl, H', ⟨by have := HK.out; omega⟩, ⟨_, rfl⟩⟩
                          · rw [if_neg d4] at H
                            have H' := Aside0.mk H
                            have m1 : (Go.bits .and .u8 (bt a0 j) 192 != 128) = true := by rw [u8_and192 hr.1 hr.2, bne_iff_ne]; omega
                            clear H d4
                            go_wp2
                            go_step3
                            go_simp
                            exact ⟨rfl, ⟨rfl, rfl⟩, H', ⟨_, rfl⟩⟩
                        · rw [if_neg d3] at H
                          cases H
                      · rw [if_neg d2] at H
                        cases H
                    · rw [if_neg d1] at H
                      replace H := Option.bind_eq_some_iff.mp H
                      obtain ⟨t, A1, H⟩ := H
                      have A1' := Aside0.mk A1
                      clear A1
                      by_cases d2 : t = 2
                      · rw [if_pos d2] at H
                        simp only [Option.some.injEq, Prod.mk.injEq] at H
                        obtain ⟨rfl, rfl, rfl⟩ := H
                        have d2b : (t == 2) = true := beq_iff_eq.mpr d2
                        have d2c : (t != 2) = false := bne_eq_false_iff_eq.mpr d2
                        clear d2
                        go_wp2_with fail
                        (with_reducible refine (utf_Length.calls x7 t _ A1'.out).mono ?_)
                        rintro e w' ⟨rfl, ⟨nd2, rfl⟩⟩
                        go_wp2
                        rw [jump_ret]
                        go_ret3
                        exact ⟨rfl, ⟨_, rfl⟩⟩
                      · rw [if_neg d2] at H
                        have H' := Aside0.mk H
                        have d2b : (t == 2) = false := beq_eq_false_iff_ne.mpr d2
                        have d2c : (t != 2) = true := bne_iff_ne.mpr d2
                        clear d2 H
                        go_wp2_with fail
                        (with_reducible refine (utf_Length.calls x7 t _ A1'.out).mono ?_)
                        rintro e w' ⟨rfl, ⟨nd2, rfl⟩⟩
                        go_wp2
                        go_step3
                        go_simp
                        exact ⟨rfl, ⟨rfl, rfl⟩, H', ⟨_, rfl⟩⟩
          · by_cases c6 : bt a0 a1 < 240
            · rw [if_neg (by omega), if_pos (by omega)] at H
              by_cases cn : (3 : Int) > wrap64 ((a0.size : Int) - a1)
              · rw [if_pos cn] at H
                have H' := Aside0.mk H
                clear H
                have cnb : decide (wrap64 ((a0.size : Int) - a1) < 3) = true := decide_eq_true cn
                clear cn
                go_enter Try.func38, Try.ntmps38
                go_wp2
                refine wp_scope_jumps 0 (fun a w' => (a.tmps.size = 93 ∧ a.defers = []) ∧ Aside0 (some ((0 : Int), (0 : Int), (10 : Int)) = some (r1, r2, r3)) ∧ Drawn0 w w') (fun _ _ => 0) rfl ?first ?pass
                case pass =>
                  clear H'
                  rintro ⟨tm, df⟩ w2 ⟨⟨hz, hd⟩, H2, ⟨nd, rfl⟩⟩
                  have H3 := H2.out
                  clear H2
                  simp only [Option.some.injEq, Prod.mk.injEq] at H3
                  obtain ⟨rfl, rfl, rfl⟩ := H3
                  replace hd : df = [] := hd
                  subst hd
                  have HZ := Lib.hid hz
                  clear hz
                  go_wp2
                  go_ret3
                  have hz := HZ.out
                  exact ⟨by simp [Array.getD, hz], ⟨_, rfl⟩⟩
                case first =>
                  go_wp2
                  go_step3
                  go_simp
                  exact ⟨rfl, ⟨rfl, rfl⟩, H', Drawn0.refl _⟩
              · rw [if_neg cn] at H
                have H' := Aside0.mk H
                clear H
                have cnb : decide (wrap64 ((a0.size : Int) - a1) < 3) = false := decide_eq_false cn
                clear cn
                go_enter Try.func38, Try.ntmps38
                go_wp2
                refine wp_scope_jumps 0 (fun a w' => (a.tmps.size = 93 ∧ a.defers = []) ∧ Aside0 (some ((0 : Int), (0 : Int), (10 : Int)) = some (r1, r2, r3)) ∧ Drawn0 w w') (fun _ _ => 0) rfl ?first ?pass
                case pass =>
                  clear H'
                  rintro ⟨tm, df⟩ w2 ⟨⟨hz, hd⟩, H2, ⟨nd, rfl⟩⟩
                  have H3 := H2.out
                  clear H2
                  simp only [Option.some.injEq, Prod.mk.injEq] at H3
                  obtain ⟨rfl, rfl, rfl⟩ := H3
                  replace hd : df = [] := hd
                  subst hd
                  have HZ := Lib.hid hz
                  clear hz
                  go_wp2
                  go_ret3
                  have hz := HZ.out
                  exact ⟨by simp [Array.getD, hz], ⟨_, rfl⟩⟩
                case first =>
                  go_wp2
                  go_loopg [7, 10] k (fun kq v7 v10 w' => ∃ (x7 x10 : Int), v7 = .int .i32 x7 ∧ v10 = .int .i64 x10 ∧ Aside0 (utf_Decode.l0 kq a0 a1 x7 3 x10 = some (r1, r2, r3)) ∧ Aside0 (kq ≤ k) ∧ Drawn0 w w')
                  case atStart => exact ⟨_, _, rfl, rfl, H', ⟨Nat.le_refl _⟩, Drawn0.refl _⟩
                  case round =>
                    clear H' hb hr
                    obtain ⟨x7, x10, rfl, rfl, HA, HK, ⟨nd, rfl⟩⟩ := hrel
                    cases gk with
                    | zero => exact absurd HA.out (by simp [utf_Decode.l0])
                    | succ k1 =>
                      have H := HA.out
                      clear HA
                      simp only [utf_Decode.l0] at H
                      by_cases d1 : x10 < 3
                      · rw [if_pos d1] at H
                        obtain ⟨j, hj⟩ : ∃ j, wrap64 (a1 + x10) = j := ⟨_, rfl⟩
                        rw [hj] at H
                        have hjw : IntKind.i64.wrap (a1 + x10) = j := (i64_w _).trans hj
                        by_cases d2 : 0 ≤ j
                        · rw [if_pos d2] at H
                          by_cases d3 : j < (a0.size : Int)
                          · rw [if_pos d3] at H
                            have hb := bt_at a0 j
                            have hr := bt_range a0 j
                            by_cases d4 : bt a0 j / 64 = 2
                            · rw [if_pos d4] at H
                              have H' := Aside0.mk H
                              have m1 : (Go.bits .and .u8 (bt a0 j) 192 != 128) = false := by rw [u8_and192 hr.1 hr.2, d4]; rfl
                              clear H d4
                              go_wp2
                              go_roundg k1
                              case measure => have := HK.out; omega
                              case rel => exact ⟨_, _, rfl, rfl, H', ⟨by have := HK.out; omega⟩, ⟨_, rfl⟩⟩
                            · rw [if_neg d4] at H
                              have H' := Aside0.mk H
                              have m1 : (Go.bits .and .u8 (bt a0 j) 192 != 128) = true := by rw [u8_and192 hr.1 hr.2, bne_iff_ne]; omega
                              clear H d4
                              go_wp2
                              go_step3
                              go_simp
                              exact ⟨rfl, ⟨rfl, rfl⟩, H', ⟨_, rfl⟩⟩
                          · rw [if_neg d3] at H
                            cases H
                        · rw [if_neg d2] at H
                          cases H
                      · rw [if_neg d1] at H
                        replace H := Option.bind_eq_some_iff.mp H
                        obtain ⟨t, A1, H⟩ := H
                        have A1' := Aside0.mk A1
                        clear A1
                        by_cases d2 : t = 3
                        · rw [if_pos d2] at H
                          simp only [Option.some.injEq, Prod.mk.injEq] at H
                          obtain ⟨rfl, rfl, rfl⟩ := H
                          have d2b : (t == 3) = true := beq_iff_eq.mpr d2
                          have d2c : (t != 3) = false := bne_eq_false_iff_eq.mpr d2
                          clear d2
                          go_wp2_with fail
                          (with_reducible refine (utf_Length.calls x7 t _ A1'.out).mono ?_)
                          rintro e w' ⟨rfl, ⟨nd2, rfl⟩⟩
                          go_wp2
                          rw [jump_ret]
                          go_ret3
                          exact ⟨rfl, ⟨_, rfl⟩⟩
                        · rw [if_neg d2] at H
                          have H' := Aside0.mk H
                          have d2b : (t == 3) = false := beq_eq_false_iff_ne.mpr d2
                          have d2c : (t != 3) = true := bne_iff_ne.mpr d2
                          clear d2 H
                          go_wp2_with fail
                          (with_reducible refine (utf_Length.calls x7 t _ A1'.out).mono ?_)
                          rintro e w' ⟨rfl, ⟨nd2, rfl⟩⟩
                          go_wp2
                          go_step3
                          go_simp
                          exact ⟨rfl, ⟨rfl, rfl⟩, H', ⟨_, rfl⟩⟩
            · by_cases c7 : bt a0 a1 < 245
              · rw [if_neg (by omega), if_neg (by omega), if_pos (by omega)] at H
                by_cases cn : (4 : Int) > wrap64 ((a0.size : Int) - a1)
                · rw [if_pos cn] at H
                  have H' := Aside0.mk H
                  clear H
                  have cnb : decide (wrap64 ((a0.size : Int) - a1) < 4) = true := decide_eq_true cn
                  clear cn
                  go_enter Try.func38, Try.ntmps38
                  go_wp2
                  refine wp_scope_jumps 0 (fun a w' => (a.tmps.size = 93 ∧ a.defers = []) ∧ Aside0 (some ((0 : Int), (0 : Int), (10 : Int)) = some (r1, r2, r3)) ∧ Drawn0 w w') (fun _ _ => 0) rfl ?first ?pass
                  case pass =>
                    clear H'
                    rintro ⟨tm, df⟩ w2 ⟨⟨hz, hd⟩, H2, ⟨nd, rfl⟩⟩
                    have H3 := H2.out
                    clear H2
                    simp only [Option.some.injEq, Prod.mk.injEq] at H3
                    obtain ⟨rfl, rfl, rfl⟩ := H3
                    replace hd : df = [] := hd
                    subst hd
                    have HZ := Lib.hid hz
                    clear hz
                    go_wp2
                    go_ret3
                    have hz := HZ.out
                    exact ⟨by simp [Array.getD, hz], ⟨_, rfl⟩⟩
                  case first =>
                    go_wp2
                    go_step3
                    go_simp
                    exact ⟨rfl, ⟨rfl, rfl⟩, H', Drawn0.refl _⟩
                · rw [if_neg cn] at H
                  have H' := Aside0.mk H
                  clear H
                  have cnb : decide (wrap64 ((a0.size : Int) - a1) < 4) = false := decide_eq_false cn
                  clear cn
                  go_enter Try.func38, Try.ntmps38
                  go_wp2
                  refine wp_scope_jumps 0 (fun a w' => (a.tmps.size = 93 ∧ a.defers = []) ∧ Aside0 (some ((0 : Int), (0 : Int), (10 : Int)) = some (r1, r2, r3)) ∧ Drawn0 w w') (fun _ _ => 0) rfl ?first ?pass
                  case pass =>
                    clear H'
                    rintro ⟨tm, df⟩ w2 ⟨⟨hz, hd⟩, H2, ⟨nd, rfl⟩⟩
                    have H3 := H2.out
                    clear H2
                    simp only [Option.some.injEq, Prod.mk.injEq] at H3
                    obtain ⟨rfl, rfl, rfl⟩ := H3
                    replace hd : df = [] := hd
                    subst hd
                    have HZ := Lib.hid hz
                    clear hz
                    go_wp2
                    go_ret3
                    have hz := HZ.out
                    exact ⟨by simp [Array.getD, hz], ⟨_, rfl⟩⟩
                  case first =>
                    go_wp2
                    go_loopg [7, 10] k (fun kq v7 v10 w' => ∃ (x7 x10 : Int), v7 = .int .i32 x7 ∧ v10 = .int .i64 x10 ∧ Aside0 (utf_Decode.l0 kq a0 a1 x7 4 x10 = some (r1, r2, r3)) ∧ Aside0 (kq ≤ k) ∧ Drawn0 w w')
                    case atStart => exact ⟨_, _, rfl, rfl, H', ⟨Nat.le_refl _⟩, Drawn0.refl _⟩
                    case round =>
                      clear H' hb hr
                      obtain ⟨x7, x10, rfl, rfl, HA, HK, ⟨nd, rfl⟩⟩ := hrel
                      cases gk with
                      | zero => exact absurd HA.out (by simp [utf_Decode.l0])
                      | succ k1 =>
                        have H := HA.out
                        clear HA
                        simp only [utf_Decode.l0] at H
                        by_cases d1 : x10 < 4
                        · rw [if_pos d1] at H
                          obtain ⟨j, hj⟩ : ∃ j, wrap64 (a1 + x10) = j := ⟨_, rfl⟩
                          rw [hj] at H
                          have hjw : IntKind.i64.wrap (a1 + x10) = j := (i64_w _).trans hj
                          by_cases d2 : 0 ≤ j
                          · rw [if_pos d2] at H
                            by_cases d3 : j < (a0.size : Int)
                            · rw [if_pos d3] at H
                              have hb := bt_at a0 j
                              have hr := bt_range a0 j
                              by_cases d4 : bt a0 j / 64 = 2
                              · rw [if_pos d4] at H
                                have H' := Aside0.mk H
                                have m1 : (Go.bits .and .u8 (bt a0 j) 192 != 128) = false := by rw [u8_and192 hr.1 hr.2, d4]; rfl
                                clear H d4
                                go_wp2
                                go_roundg k1
                                case measure => have := HK.out; omega
                                case rel => exact ⟨_, _, rfl, rfl, H', ⟨by have := HK.out; omega⟩, ⟨_, rfl⟩⟩
                              · rw [if_neg d4] at H
                                have H' := Aside0.mk H
                                have m1 : (Go.bits .and .u8 (bt a0 j) 192 != 128) = true := by rw [u8_and192 hr.1 hr.2, bne_iff_ne]; omega
                                clear H d4
                                go_wp2
                                go_step3
                                go_simp
                                exact ⟨rfl, ⟨rfl, rfl⟩, H', ⟨_, rfl⟩⟩
                            · rw [if_neg d3] at H
                              cases H
                          · rw [if_neg d2] at H
                            cases H
                        · rw [if_neg d1] at H
                          replace H := Option.bind_eq_some_iff.mp H
                          obtain ⟨t, A1, H⟩ := H
                          have A1' := Aside0.mk A1
                          clear A1
                          by_cases d2 : t = 4
                          · rw [if_pos d2] at H
                            simp only [Option.some.injEq, Prod.mk.injEq] at H
                            obtain ⟨rfl, rfl, rfl⟩ := H
                            have d2b : (t == 4) = true := beq_iff_eq.mpr d2
                            have d2c : (t != 4) = false := bne_eq_false_iff_eq.mpr d2
                            clear d2
                            go_wp2_with fail
                            (with_reducible refine (utf_Length.calls x7 t _ A1'.out).mono ?_)
                            rintro e w' ⟨rfl, ⟨nd2, rfl⟩⟩
                            go_wp2
                            rw [jump_ret]
                            go_ret3
                            exact ⟨rfl, ⟨_, rfl⟩⟩
                          · rw [if_neg d2] at H
                            have H' := Aside0.mk H
                            have d2b : (t == 4) = false := beq_eq_false_iff_ne.mpr d2
                            have d2c : (t != 4) = true := bne_iff_ne.mpr d2
                            clear d2 H
                            go_wp2_with fail
                            (with_reducible refine (utf_Length.calls x7 t _ A1'.out).mono ?_)
                            rintro e w' ⟨rfl, ⟨nd2, rfl⟩⟩
                            go_wp2
                            go_step3
                            go_simp
                            exact ⟨rfl, ⟨rfl, rfl⟩, H', ⟨_, rfl⟩⟩
              · rw [if_neg (by omega), if_neg (by omega), if_neg (by omega)] at H
                have H' := Aside0.mk H
                clear H
                go_enter Try.func38, Try.ntmps38
                go_wp2
                refine wp_scope_jumps 0 (fun a w' => (a.tmps.size = 93 ∧ a.defers = []) ∧ Aside0 (some ((0 : Int), (0 : Int), (10 : Int)) = some (r1, r2, r3)) ∧ Drawn0 w w') (fun _ _ => 0) rfl ?first ?pass
                case pass =>
                  clear H'
                  rintro ⟨tm, df⟩ w2 ⟨⟨hz, hd⟩, H2, ⟨nd, rfl⟩⟩
                  have H3 := H2.out
                  clear H2
                  simp only [Option.some.injEq, Prod.mk.injEq] at H3
                  obtain ⟨rfl, rfl, rfl⟩ := H3
                  replace hd : df = [] := hd
                  subst hd
                  have HZ := Lib.hid hz
                  clear hz
                  go_wp2
                  go_ret3
                  have hz := HZ.out
                  exact ⟨by simp [Array.getD, hz], ⟨_, rfl⟩⟩
                case first =>
                  go_wp2
                  go_step3
                  go_simp
                  exact ⟨rfl, ⟨rfl, rfl⟩, H', Drawn0.refl _⟩

end Go.Proofs.Ytncppcjobimilaa.P
