-- Printed by wip/mk.py (this session's driver over the kit's print) and from wip/manual.
import Derived.Test.YtncppcjobimilaaT0
import Derived.Test.YtncppcjobimilaaT3
import Derived.Test.YtncppcjobimilaaT4
import Derived.Test.YtncppcjobimilaaT5
namespace Go.Proofs.Ytncppcjobimilaa.P
open Go.RowKit Go.Proofs.YtncppcjobimilaaW.PrintWords Go.Proofs.YtncppcjobimilaaW.PrintLast Go.Proofs.YtncppcjobimilaaW.PrintMore
attribute [local go_sem] max2_int min2_int max_two min_two max_three min_three max_four min_four   -- for this text's walks alone
set_option linter.unusedVariables false
set_option linter.unusedSimpArgs false

/-! ### letters_Made: function 84 -/
def letters_Made.l0 : Nat → Int → Int → List (S113) → Int → Int → Option (Int)
 | 0, _, _, _, _, _ => none
 | k + 1, x0, x1, x8, x9, x10 => if x10 < x9 then (if 0 ≤ x10 then (if x10 < (x8.length : Int) then ((letters_find.f k ((rd_T113 x8 x10).f2) x0).bind fun t233 => (if ((rd_T113 x8 x10).f0) = x1 then (if t233 ≥ 0 then ((letters_nth.f k ((rd_T113 x8 x10).f1) t233).bind fun t234 => (some t234)) else (letters_Made.l0 k x0 x1 x8 x9 (wrap64 (x10 + 1)))) else (letters_Made.l0 k x0 x1 x8 x9 (wrap64 (x10 + 1))))) else (none)) else (none)) else (some 0)
def letters_Made.f (k : Nat) (a0 : Int) (a1 : Int) : Option (Int) := (letters_Rows.f).bind fun t228 => (letters_Made.l0 k a0 a1 t228 (t228.length : Int) 0)
theorem letters_Made.mono_l : ∀ k, (∀ y0 y1 y2 y3 y4, LeO (letters_Made.l0 k y0 y1 y2 y3 y4) (letters_Made.l0 (k + 1) y0 y1 y2 y3 y4))
 | 0 => fun _ _ _ _ _ r h => by simp [letters_Made.l0] at h
 | k + 1 => by
  have ih0 := letters_Made.mono_l k
  ·intro y0 y1 y2 y3 y4
   unfold letters_Made.l0
   repeat' first
   | (with_reducible exact ih0 _ _ _ _ _)
   | (with_reducible exact letters_find.mono _ _ _)
   | (with_reducible exact letters_nth.mono _ _ _)
   | (with_reducible exact LeO.refl _)
   | exact ih0 _ _ _ _ _
   | exact letters_find.mono _ _ _
   | exact letters_nth.mono _ _ _
   | exact LeO.none _
   | refine LeO.ite ?_ ?_
   | refine LeO.bind ?_ (fun _ => ?_)
theorem letters_Made.mono : ∀ a0 a1 k, LeO (letters_Made.f k a0 a1) (letters_Made.f (k + 1) a0 a1) := by
 intro a0 a1 k
 have ih0 := letters_Made.mono_l k
 unfold letters_Made.f
 repeat' first
   | (with_reducible exact ih0 _ _ _ _ _)
   | (with_reducible exact letters_find.mono _ _ _)
   | (with_reducible exact letters_nth.mono _ _ _)
   | (with_reducible exact LeO.refl _)
   | exact ih0 _ _ _ _ _
   | exact letters_find.mono _ _ _
   | exact letters_nth.mono _ _ _
   | exact LeO.none _
   | refine LeO.ite ?_ ?_
   | refine LeO.bind ?_ (fun _ => ?_)
set_option maxHeartbeats 8000000 in
set_option maxRecDepth 100000 in
theorem letters_Made.calls (k : Nat) (a0 : Int) (a1 : Int) (r : Int) (w : World) (h : letters_Made.f k a0 a1 = some r) :
  Calls Try.prog 84 #[.int .i32 a0, .int .i32 a1] w fun e w' => e = .returned (.int .i32 r) ∧ Below w.heap.size w w' := by
 have hu113 := Try.underlying113
 have HB := aM (Below.refl w.heap.size w)
 have H := h
 clear h
 unfold letters_Made.f at H
 obtain ⟨t228, A3, H⟩ := zO H
 have H' := aM H
 clear H
 go_enter Try.func84, Try.ntmps84
 go_wp2_with (first | ((with_reducible refine gate_callee (f := 99) rfl ?_); refine goesL_ (some 8) rfl rfl Try.func99 zK rfl #[] rfl zM ?_; (with_reducible refine (letters_Rows.calls  t228 _ A3.out).mono ?_); rintro e w4 ⟨v229, rfl, ho0, hb⟩; refine ⟨_, rfl, ?_⟩; have n_ := zI (aM (Kd.R_lower ho0 (below_size zB))) (aM (below_step zB hb)); clear HB; obtain ⟨HO230, HB⟩ := n_; (try clear hb); (try clear ho0); obtain ⟨Ao5, co5, rfl⟩ := Kd.R_slice HO230.out))
 go_loopg [10] k (fun kq v10 w' => ∃ (x10_1 : Int), v10 = .int .i64 x10_1 ∧ Aside0 (letters_Made.l0 kq a0 a1 t228 (t228.length : Int) x10_1 = some r) ∧ Aside0 (kq ≤ k) ∧ Aside0 (Kd.R k113 113 w' w.heap.size (fun _ => True) (.slice Ao5 t228.length co5) t228) ∧ Aside0 (Below w.heap.size w w'))
 case atStart => exact ⟨(0), zP, H', ⟨Nat.le_refl _⟩, ⟨zR HO230⟩, ⟨zB⟩⟩
 case round =>
  clear H'
  try clear p2
  obtain ⟨x10_1, rfl, HA, HK1, HO_8, HB⟩ := hrel
  cases gk with
  | zero => exact absurd HA.out (by simp [letters_Made.l0])
  | succ k1 =>
   have H := HA.out
   clear HA
   simp only [letters_Made.l0] at H
   by_cases c6 : x10_1 < (t228.length : Int)
   ·rw [if_pos c6] at H
    have c6b0 : decide (x10_1 < (t228.length : Int)) = true := decide_eq_true c6
    clear c6
    by_cases c7 : 0 ≤ x10_1
    ·rw [if_pos c7] at H
     have c7b0 : decide (0 ≤ x10_1) = true := decide_eq_true c7
     clear c7
     by_cases c8 : x10_1 < (t228.length : Int)
     ·rw [if_pos c8] at H
      have c8b0 : decide (x10_1 < (t228.length : Int)) = true := decide_eq_true c8
      clear c8
      obtain ⟨t233, A9, H⟩ := zO H
      by_cases c10 : ((rd_T113 t228 x10_1).f0) = a1
      ·rw [if_pos c10] at H
       have c10b0 : (((rd_T113 t228 x10_1).f0) == a1) = true := beq_iff_eq.mpr c10
       have c10b1 : (((rd_T113 t228 x10_1).f0) != a1) = false := bne_eq_false_iff_eq.mpr c10
       clear c10
       by_cases c11 : t233 ≥ 0
       ·rw [if_pos c11] at H
        have c11b0 : decide (0 ≤ t233) = true := decide_eq_true c11
        clear c11
        obtain ⟨t234, A12, H⟩ := zO H
        obtain rfl := sI H
        have p231 : 0 ≤ (x10_1 : Int) := zoA
        have q231 : x10_1 < (t228.length : Int) := zoA
        obtain ⟨ad231, e231, hx231_0, hx231_1, hx231_2⟩ := at_T113 (Kd.R_reads' HO_8.out).2.2 x10_1 p231 q231
        cases e231
        replace p231 := eq_true p231
        replace q231 := eq_true q231
        go_wp2_with (first | ((with_reducible refine gate_dst (N := 6) rfl ?_); refine box_event ?hg (N := 6) ?hd (cs := #[.int .i32 0, .string (⟨#[]⟩ : ByteArray), .string (⟨#[]⟩ : ByteArray)]) (t := 113) ?hr ?_; (case hd => rfl); (case hg => rfl); (case hr => first | (go_simp; done) | (go_simp; rfl)); intro gb232 hg w13 hbox hb; have n_ := zI (aM (Kd.R_below (Kd.R_elderB (zR HO_8) gb232 (Nat.le_of_eq hg.symm)) hb)) (zI (aM (below_step zB hb)) (zI (aM (hbox)) (zI (aM ((by rw [hg]; exact (below_size zB) : w.heap.size ≤ gb232))) (aM ((by rw [hg]; exact (below_size zB) : w.heap.size ≤ gb232)))))); clear HO_8 HB; obtain ⟨HO_8, HB, BK232, GW232, GE232⟩ := n_; clear hb hbox hg; have hcz14_0 : w13.cell? ⟨gb232, 0, none⟩ = some (.int .i32 0) := (blk_cell BK232.out 0).trans rfl; have hcz14_1 : w13.cell? ⟨gb232, 1, none⟩ = some (.string (⟨#[]⟩ : ByteArray)) := (blk_cell BK232.out 1).trans rfl; have hcz14_2 : w13.cell? ⟨gb232, 2, none⟩ = some (.string (⟨#[]⟩ : ByteArray)) := (blk_cell BK232.out 2).trans rfl; have hfz14_0 := blk_frozen BK232.out 0; have hfz14_1 := blk_frozen BK232.out 1; have hfz14_2 := blk_frozen BK232.out 2) | ((with_reducible refine gate_callee (f := 100) rfl ?_); refine goesL_ (some 17) rfl rfl Try.func100 zK rfl #[.string ((rd_T113 t228 x10_1).f2), .int .i32 a0] rfl zM ?_; (with_reducible refine (letters_find.calls k1 ((rd_T113 t228 x10_1).f2) a0 t233 _ A9.out).mono ?_); rintro e w15 ⟨rfl, hb⟩; refine ⟨_, rfl, ?_⟩; have n_ := zI (aM (Kd.R_below (by (with_reducible repeat (first | apply Kd.R_alloc | apply Kd.R_drewN | apply Kd.R_drew)); exact (Kd.R_mono (Kd.R_far (p := ⟨gb232, 2, none⟩) (Kd.R_far (p := ⟨gb232, 1, none⟩) (Kd.R_far (p := ⟨gb232, 0, none⟩) (Kd.R_mono HO_8.out (fun k_ hk => (⟨hk, hk.2⟩ : _ ∧ k_ ≠ gb232))) (fun _ hk => hk.2) (.int .i32 ((rd_T113 t228 x10_1).f0))) (fun _ hk => hk.2) (.string ((rd_T113 t228 x10_1).f1))) (fun _ hk => hk.2) (.string ((rd_T113 t228 x10_1).f2))) (fun _ h_ => h_.1))) hb)) (zI (aM (blk_below (g := gb232) (o := .cells #[.int .i32 ((rd_T113 t228 x10_1).f0), .string ((rd_T113 t228 x10_1).f1), .string ((rd_T113 t228 x10_1).f2)] 113 (0, 0)) (by (with_reducible repeat (first | refine blk_drewN ?_ _ | refine blk_drew ?_ | refine blk_alloc ?_ _)); refine blk_put (cs := #[.int .i32 ((rd_T113 t228 x10_1).f0), .string ((rd_T113 t228 x10_1).f1), .string (⟨#[]⟩ : ByteArray)]) ?_ 2 _ rfl; (with_reducible repeat (first | refine blk_drewN ?_ _ | refine blk_drew ?_ | refine blk_alloc ?_ _)); refine blk_put (cs := #[.int .i32 ((rd_T113 t228 x10_1).f0), .string (⟨#[]⟩ : ByteArray), .string (⟨#[]⟩ : ByteArray)]) ?_ 1 _ rfl; (with_reducible repeat (first | refine blk_drewN ?_ _ | refine blk_drew ?_ | refine blk_alloc ?_ _)); refine blk_put (cs := #[.int .i32 0, .string (⟨#[]⟩ : ByteArray), .string (⟨#[]⟩ : ByteArray)]) ?_ 0 _ rfl; (with_reducible repeat (first | refine blk_drewN ?_ _ | refine blk_drew ?_ | refine blk_alloc ?_ _)); exact BK232.out) hb)) (aM (below_step (by repeat (first | (with_reducible first | exact HB.out | apply bA | apply bN | apply bD | refine below_set ?_ GE232.out) | exact HB.out)) hb))); clear HO_8 BK232 HB; obtain ⟨HO_8, BK232, HB⟩ := n_; (try clear hb); (try clear hk); have hcz16_0 : w15.cell? ⟨gb232, 0, none⟩ = some (.int .i32 ((rd_T113 t228 x10_1).f0)) := (blk_cell BK232.out 0).trans rfl; have hcz16_1 : w15.cell? ⟨gb232, 1, none⟩ = some (.string ((rd_T113 t228 x10_1).f1)) := (blk_cell BK232.out 1).trans rfl; have hcz16_2 : w15.cell? ⟨gb232, 2, none⟩ = some (.string ((rd_T113 t228 x10_1).f2)) := (blk_cell BK232.out 2).trans rfl; have hfz16_0 := blk_frozen BK232.out 0; have hfz16_1 := blk_frozen BK232.out 1; have hfz16_2 := blk_frozen BK232.out 2) | ((with_reducible refine gate_callee (f := 101) rfl ?_); refine goesL_ (some 29) rfl rfl Try.func101 zK rfl #[.string ((rd_T113 t228 x10_1).f1), .int .i64 t233] rfl zM ?_; (with_reducible refine (letters_nth.calls k1 ((rd_T113 t228 x10_1).f1) t233 t234 _ A12.out).mono ?_); rintro e w17 ⟨rfl, hb⟩; refine ⟨_, rfl, ?_⟩; have n_ := zI (aM (Kd.R_below (zR HO_8) hb)) (zI (aM (blk_below (g := gb232) (o := .cells #[.int .i32 ((rd_T113 t228 x10_1).f0), .string ((rd_T113 t228 x10_1).f1), .string ((rd_T113 t228 x10_1).f2)] 113 (0, 0)) (by (with_reducible repeat (first | refine blk_drewN ?_ _ | refine blk_drew ?_ | refine blk_alloc ?_ _)); exact BK232.out) hb)) (aM (below_step (by repeat (first | (with_reducible first | exact HB.out | apply bA | apply bN | apply bD | refine below_set ?_ GE232.out) | exact HB.out)) hb))); clear HO_8 BK232 HB; obtain ⟨HO_8, BK232, HB⟩ := n_; (try clear hb); (try clear hk)))
        go_ret
        exact ⟨zE, by repeat (first | (with_reducible first | exact HB.out | apply bA | apply bN | apply bD | refine below_set ?_ GE232.out) | exact HB.out)⟩
       ·rw [if_neg c11] at H
        have c11b0 : decide (0 ≤ t233) = false := decide_eq_false c11
        clear c11
        have H' := aM H
        clear H
        have p231 : 0 ≤ (x10_1 : Int) := zoA
        have q231 : x10_1 < (t228.length : Int) := zoA
        obtain ⟨ad231, e231, hx231_0, hx231_1, hx231_2⟩ := at_T113 (Kd.R_reads' HO_8.out).2.2 x10_1 p231 q231
        cases e231
        replace p231 := eq_true p231
        replace q231 := eq_true q231
        go_wp2_with (first | ((with_reducible refine gate_dst (N := 6) rfl ?_); refine box_event ?hg (N := 6) ?hd (cs := #[.int .i32 0, .string (⟨#[]⟩ : ByteArray), .string (⟨#[]⟩ : ByteArray)]) (t := 113) ?hr ?_; (case hd => rfl); (case hg => rfl); (case hr => first | (go_simp; done) | (go_simp; rfl)); intro gb232 hg w18 hbox hb; have n_ := zI (aM (Kd.R_below (Kd.R_elderB (zR HO_8) gb232 (Nat.le_of_eq hg.symm)) hb)) (zI (aM (below_step zB hb)) (zI (aM (hbox)) (zI (aM ((by rw [hg]; exact (below_size zB) : w.heap.size ≤ gb232))) (aM ((by rw [hg]; exact (below_size zB) : w.heap.size ≤ gb232)))))); clear HO_8 HB; obtain ⟨HO_8, HB, BK232, GW232, GE232⟩ := n_; clear hb hbox hg; have hcz19_0 : w18.cell? ⟨gb232, 0, none⟩ = some (.int .i32 0) := (blk_cell BK232.out 0).trans rfl; have hcz19_1 : w18.cell? ⟨gb232, 1, none⟩ = some (.string (⟨#[]⟩ : ByteArray)) := (blk_cell BK232.out 1).trans rfl; have hcz19_2 : w18.cell? ⟨gb232, 2, none⟩ = some (.string (⟨#[]⟩ : ByteArray)) := (blk_cell BK232.out 2).trans rfl; have hfz19_0 := blk_frozen BK232.out 0; have hfz19_1 := blk_frozen BK232.out 1; have hfz19_2 := blk_frozen BK232.out 2) | ((with_reducible refine gate_callee (f := 100) rfl ?_); refine goesL_ (some 17) rfl rfl Try.func100 zK rfl #[.string ((rd_T113 t228 x10_1).f2), .int .i32 a0] rfl zM ?_; (with_reducible refine (letters_find.calls k1 ((rd_T113 t228 x10_1).f2) a0 t233 _ A9.out).mono ?_); rintro e w20 ⟨rfl, hb⟩; refine ⟨_, rfl, ?_⟩; have n_ := zI (aM (Kd.R_below (by (with_reducible repeat (first | apply Kd.R_alloc | apply Kd.R_drewN | apply Kd.R_drew)); exact (Kd.R_mono (Kd.R_far (p := ⟨gb232, 2, none⟩) (Kd.R_far (p := ⟨gb232, 1, none⟩) (Kd.R_far (p := ⟨gb232, 0, none⟩) (Kd.R_mono HO_8.out (fun k_ hk => (⟨hk, hk.2⟩ : _ ∧ k_ ≠ gb232))) (fun _ hk => hk.2) (.int .i32 ((rd_T113 t228 x10_1).f0))) (fun _ hk => hk.2) (.string ((rd_T113 t228 x10_1).f1))) (fun _ hk => hk.2) (.string ((rd_T113 t228 x10_1).f2))) (fun _ h_ => h_.1))) hb)) (zI (aM (blk_below (g := gb232) (o := .cells #[.int .i32 ((rd_T113 t228 x10_1).f0), .string ((rd_T113 t228 x10_1).f1), .string ((rd_T113 t228 x10_1).f2)] 113 (0, 0)) (by (with_reducible repeat (first | refine blk_drewN ?_ _ | refine blk_drew ?_ | refine blk_alloc ?_ _)); refine blk_put (cs := #[.int .i32 ((rd_T113 t228 x10_1).f0), .string ((rd_T113 t228 x10_1).f1), .string (⟨#[]⟩ : ByteArray)]) ?_ 2 _ rfl; (with_reducible repeat (first | refine blk_drewN ?_ _ | refine blk_drew ?_ | refine blk_alloc ?_ _)); refine blk_put (cs := #[.int .i32 ((rd_T113 t228 x10_1).f0), .string (⟨#[]⟩ : ByteArray), .string (⟨#[]⟩ : ByteArray)]) ?_ 1 _ rfl; (with_reducible repeat (first | refine blk_drewN ?_ _ | refine blk_drew ?_ | refine blk_alloc ?_ _)); refine blk_put (cs := #[.int .i32 0, .string (⟨#[]⟩ : ByteArray), .string (⟨#[]⟩ : ByteArray)]) ?_ 0 _ rfl; (with_reducible repeat (first | refine blk_drewN ?_ _ | refine blk_drew ?_ | refine blk_alloc ?_ _)); exact BK232.out) hb)) (aM (below_step (by repeat (first | (with_reducible first | exact HB.out | apply bA | apply bN | apply bD | refine below_set ?_ GE232.out) | exact HB.out)) hb))); clear HO_8 BK232 HB; obtain ⟨HO_8, BK232, HB⟩ := n_; (try clear hb); (try clear hk); have hcz21_0 : w20.cell? ⟨gb232, 0, none⟩ = some (.int .i32 ((rd_T113 t228 x10_1).f0)) := (blk_cell BK232.out 0).trans rfl; have hcz21_1 : w20.cell? ⟨gb232, 1, none⟩ = some (.string ((rd_T113 t228 x10_1).f1)) := (blk_cell BK232.out 1).trans rfl; have hcz21_2 : w20.cell? ⟨gb232, 2, none⟩ = some (.string ((rd_T113 t228 x10_1).f2)) := (blk_cell BK232.out 2).trans rfl; have hfz21_0 := blk_frozen BK232.out 0; have hfz21_1 := blk_frozen BK232.out 1; have hfz21_2 := blk_frozen BK232.out 2))
        go_roundg k1
        case measure => have := HK1.out; omega
        case rel => exact ⟨(wrap64 (x10_1 + 1)), zP, H', ⟨by have := HK1.out; omega⟩, ⟨by (with_reducible repeat (first | apply Kd.R_alloc | apply Kd.R_drewN | apply Kd.R_drew)); exact Kd.R_mono HO_8.out (fun _ hk => trivial)⟩, ⟨by repeat (first | (with_reducible first | exact HB.out | apply bA | apply bN | apply bD | refine below_set ?_ GE232.out) | exact HB.out)⟩⟩
      ·rw [if_neg c10] at H
       have c10b0 : (((rd_T113 t228 x10_1).f0) == a1) = false := beq_eq_false_iff_ne.mpr c10
       have c10b1 : (((rd_T113 t228 x10_1).f0) != a1) = true := bne_iff_ne.mpr c10
       have H' := aM H
       clear H
       have p231 : 0 ≤ (x10_1 : Int) := zoA
       have q231 : x10_1 < (t228.length : Int) := zoA
       obtain ⟨ad231, e231, hx231_0, hx231_1, hx231_2⟩ := at_T113 (Kd.R_reads' HO_8.out).2.2 x10_1 p231 q231
       cases e231
       replace p231 := eq_true p231
       replace q231 := eq_true q231
       go_wp2_with (first | ((with_reducible refine gate_dst (N := 6) rfl ?_); refine box_event ?hg (N := 6) ?hd (cs := #[.int .i32 0, .string (⟨#[]⟩ : ByteArray), .string (⟨#[]⟩ : ByteArray)]) (t := 113) ?hr ?_; (case hd => rfl); (case hg => rfl); (case hr => first | (go_simp; done) | (go_simp; rfl)); intro gb232 hg w22 hbox hb; have n_ := zI (aM (Kd.R_below (Kd.R_elderB (zR HO_8) gb232 (Nat.le_of_eq hg.symm)) hb)) (zI (aM (below_step zB hb)) (zI (aM (hbox)) (zI (aM ((by rw [hg]; exact (below_size zB) : w.heap.size ≤ gb232))) (aM ((by rw [hg]; exact (below_size zB) : w.heap.size ≤ gb232)))))); clear HO_8 HB; obtain ⟨HO_8, HB, BK232, GW232, GE232⟩ := n_; clear hb hbox hg; have hcz23_0 : w22.cell? ⟨gb232, 0, none⟩ = some (.int .i32 0) := (blk_cell BK232.out 0).trans rfl; have hcz23_1 : w22.cell? ⟨gb232, 1, none⟩ = some (.string (⟨#[]⟩ : ByteArray)) := (blk_cell BK232.out 1).trans rfl; have hcz23_2 : w22.cell? ⟨gb232, 2, none⟩ = some (.string (⟨#[]⟩ : ByteArray)) := (blk_cell BK232.out 2).trans rfl; have hfz23_0 := blk_frozen BK232.out 0; have hfz23_1 := blk_frozen BK232.out 1; have hfz23_2 := blk_frozen BK232.out 2) | ((with_reducible refine gate_callee (f := 100) rfl ?_); refine goesL_ (some 17) rfl rfl Try.func100 zK rfl #[.string ((rd_T113 t228 x10_1).f2), .int .i32 a0] rfl zM ?_; (with_reducible refine (letters_find.calls k1 ((rd_T113 t228 x10_1).f2) a0 t233 _ A9.out).mono ?_); rintro e w24 ⟨rfl, hb⟩; refine ⟨_, rfl, ?_⟩; have n_ := zI (aM (Kd.R_below (by (with_reducible repeat (first | apply Kd.R_alloc | apply Kd.R_drewN | apply Kd.R_drew)); exact (Kd.R_mono (Kd.R_far (p := ⟨gb232, 2, none⟩) (Kd.R_far (p := ⟨gb232, 1, none⟩) (Kd.R_far (p := ⟨gb232, 0, none⟩) (Kd.R_mono HO_8.out (fun k_ hk => (⟨hk, hk.2⟩ : _ ∧ k_ ≠ gb232))) (fun _ hk => hk.2) (.int .i32 ((rd_T113 t228 x10_1).f0))) (fun _ hk => hk.2) (.string ((rd_T113 t228 x10_1).f1))) (fun _ hk => hk.2) (.string ((rd_T113 t228 x10_1).f2))) (fun _ h_ => h_.1))) hb)) (zI (aM (blk_below (g := gb232) (o := .cells #[.int .i32 ((rd_T113 t228 x10_1).f0), .string ((rd_T113 t228 x10_1).f1), .string ((rd_T113 t228 x10_1).f2)] 113 (0, 0)) (by (with_reducible repeat (first | refine blk_drewN ?_ _ | refine blk_drew ?_ | refine blk_alloc ?_ _)); refine blk_put (cs := #[.int .i32 ((rd_T113 t228 x10_1).f0), .string ((rd_T113 t228 x10_1).f1), .string (⟨#[]⟩ : ByteArray)]) ?_ 2 _ rfl; (with_reducible repeat (first | refine blk_drewN ?_ _ | refine blk_drew ?_ | refine blk_alloc ?_ _)); refine blk_put (cs := #[.int .i32 ((rd_T113 t228 x10_1).f0), .string (⟨#[]⟩ : ByteArray), .string (⟨#[]⟩ : ByteArray)]) ?_ 1 _ rfl; (with_reducible repeat (first | refine blk_drewN ?_ _ | refine blk_drew ?_ | refine blk_alloc ?_ _)); refine blk_put (cs := #[.int .i32 0, .string (⟨#[]⟩ : ByteArray), .string (⟨#[]⟩ : ByteArray)]) ?_ 0 _ rfl; (with_reducible repeat (first | refine blk_drewN ?_ _ | refine blk_drew ?_ | refine blk_alloc ?_ _)); exact BK232.out) hb)) (aM (below_step (by repeat (first | (with_reducible first | exact HB.out | apply bA | apply bN | apply bD | refine below_set ?_ GE232.out) | exact HB.out)) hb))); clear HO_8 BK232 HB; obtain ⟨HO_8, BK232, HB⟩ := n_; (try clear hb); (try clear hk); have hcz25_0 : w24.cell? ⟨gb232, 0, none⟩ = some (.int .i32 ((rd_T113 t228 x10_1).f0)) := (blk_cell BK232.out 0).trans rfl; have hcz25_1 : w24.cell? ⟨gb232, 1, none⟩ = some (.string ((rd_T113 t228 x10_1).f1)) := (blk_cell BK232.out 1).trans rfl; have hcz25_2 : w24.cell? ⟨gb232, 2, none⟩ = some (.string ((rd_T113 t228 x10_1).f2)) := (blk_cell BK232.out 2).trans rfl; have hfz25_0 := blk_frozen BK232.out 0; have hfz25_1 := blk_frozen BK232.out 1; have hfz25_2 := blk_frozen BK232.out 2))
       go_roundg k1
       case measure => have := HK1.out; omega
       case rel => exact ⟨(wrap64 (x10_1 + 1)), zP, H', ⟨by have := HK1.out; omega⟩, ⟨by (with_reducible repeat (first | apply Kd.R_alloc | apply Kd.R_drewN | apply Kd.R_drew)); exact Kd.R_mono HO_8.out (fun _ hk => trivial)⟩, ⟨by repeat (first | (with_reducible first | exact HB.out | apply bA | apply bN | apply bD | refine below_set ?_ GE232.out) | exact HB.out)⟩⟩
     ·rw [if_neg c8] at H
      exact absurd H (by simp)
    ·rw [if_neg c7] at H
     exact absurd H (by simp)
   ·rw [if_neg c6] at H
    have c6b0 : decide (x10_1 < (t228.length : Int)) = false := decide_eq_false c6
    clear c6
    obtain rfl := sI H
    go_wp2
    go_ret
    exact ⟨zE, zB⟩

/-! ### compose_Pair: function 67 -/
def compose_Pair.f (k : Nat) (a0 : Int) (a1 : Int) : Option (Int × Bool) := (hangul_Join.f k a0 a1).bind fun bt235 => (if bt235.2 = true then (some (bt235.1, true)) else ((chars_Class.f k a1).bind fun t237 => (if t237 > 0 then ((letters_Made.f k a0 a1).bind fun t238 => (some (t238, (t238 != 0)))) else (some (0, (0 != 0))))))
theorem compose_Pair.mono : ∀ a0 a1 k, LeO (compose_Pair.f k a0 a1) (compose_Pair.f (k + 1) a0 a1) := by
 intro a0 a1 k
 unfold compose_Pair.f
 repeat' first
   | (with_reducible exact chars_Class.mono _ _)
   | (with_reducible exact hangul_Join.mono _ _ _)
   | (with_reducible exact letters_Made.mono _ _ _)
   | (with_reducible exact LeO.refl _)
   | exact chars_Class.mono _ _
   | exact hangul_Join.mono _ _ _
   | exact letters_Made.mono _ _ _
   | exact LeO.none _
   | refine LeO.ite ?_ ?_
   | refine LeO.bind ?_ (fun _ => ?_)
set_option maxHeartbeats 8000000 in
set_option maxRecDepth 100000 in
theorem compose_Pair.calls (k : Nat) (a0 : Int) (a1 : Int) (r1 : Int) (r2 : Bool) (w : World) (h : compose_Pair.f k a0 a1 = some (r1, r2)) :
  Calls Try.prog 67 #[.int .i32 a0, .int .i32 a1] w fun e w' => e = .returned (.tuple #[.int .i32 r1, .bool r2]) ∧ Below w.heap.size w w' := by
 have HB := aM (Below.refl w.heap.size w)
 have H := h
 clear h
 unfold compose_Pair.f at H
 obtain ⟨⟨t235, t236⟩, A3, H⟩ := zO H
 try dsimp only at H
 by_cases c4 : t236 = true
 ·subst c4
  rw [if_pos rfl] at H
  simp only [Option.some.injEq, Prod.mk.injEq] at H
  obtain ⟨rfl, rfl⟩ := H
  go_enter Try.func67, Try.ntmps67
  go_wp2_with (first | ((with_reducible refine gate_callee (f := 83) rfl ?_); refine goesL_ (some 12) rfl rfl Try.func83 zK rfl #[.int .i32 a0, .int .i32 a1] rfl zM ?_; (with_reducible refine (hangul_Join.calls k a0 a1 t235 true _ A3.out).mono ?_); rintro e w' ⟨rfl, ⟨nd, rfl⟩⟩; refine ⟨_, rfl, ?_⟩))
  go_ret2
  exact ⟨zE, zB⟩
 ·replace c4 := Bool.eq_false_iff.mpr c4
  subst c4
  rw [if_neg (show ¬ (false = true) by decide)] at H
  obtain ⟨t237, A5, H⟩ := zO H
  by_cases c6 : t237 > 0
  ·rw [if_pos c6] at H
   have c6b0 : decide (0 < t237) = true := decide_eq_true c6
   clear c6
   obtain ⟨t238, A7, H⟩ := zO H
   simp only [Option.some.injEq, Prod.mk.injEq] at H
   obtain ⟨rfl, rfl⟩ := H
   go_enter Try.func67, Try.ntmps67
   go_wp2_with (first | ((with_reducible refine gate_callee (f := 83) rfl ?_); refine goesL_ (some 12) rfl rfl Try.func83 zK rfl #[.int .i32 a0, .int .i32 a1] rfl zM ?_; (with_reducible refine (hangul_Join.calls k a0 a1 t235 false _ A3.out).mono ?_); rintro e w' ⟨rfl, ⟨nd, rfl⟩⟩; refine ⟨_, rfl, ?_⟩) | ((with_reducible refine gate_callee (f := 65) rfl ?_); refine goesL_ (some 18) rfl rfl Try.func65 zK rfl #[.int .i32 a1] rfl zM ?_; (with_reducible refine (chars_Class.calls k a1 t237 _ A5.out).mono ?_); rintro e w' ⟨rfl, ⟨nd, rfl⟩⟩; refine ⟨_, rfl, ?_⟩) | ((with_reducible refine gate_callee (f := 84) rfl ?_); refine goesL_ (some 22) rfl rfl Try.func84 zK rfl #[.int .i32 a0, .int .i32 a1] rfl zM ?_; (with_reducible refine (letters_Made.calls k a0 a1 t238 _ A7.out).mono ?_); rintro e w8 ⟨rfl, hb⟩; refine ⟨_, rfl, ?_⟩; replace HB := aM (below_step zB hb); (try clear hb)))
   go_ret2
   exact ⟨zE, zB⟩
  ·rw [if_neg c6] at H
   have c6b0 : decide (0 < t237) = false := decide_eq_false c6
   clear c6
   simp only [Option.some.injEq, Prod.mk.injEq] at H
   obtain ⟨rfl, rfl⟩ := H
   go_enter Try.func67, Try.ntmps67
   go_wp2_with (first | ((with_reducible refine gate_callee (f := 83) rfl ?_); refine goesL_ (some 12) rfl rfl Try.func83 zK rfl #[.int .i32 a0, .int .i32 a1] rfl zM ?_; (with_reducible refine (hangul_Join.calls k a0 a1 t235 false _ A3.out).mono ?_); rintro e w' ⟨rfl, ⟨nd, rfl⟩⟩; refine ⟨_, rfl, ?_⟩) | ((with_reducible refine gate_callee (f := 65) rfl ?_); refine goesL_ (some 18) rfl rfl Try.func65 zK rfl #[.int .i32 a1] rfl zM ?_; (with_reducible refine (chars_Class.calls k a1 t237 _ A5.out).mono ?_); rintro e w' ⟨rfl, ⟨nd, rfl⟩⟩; refine ⟨_, rfl, ?_⟩))
   go_ret2
   exact ⟨zE, zB⟩

/-! ### compose_All: function 44 -/
mutual
def compose_All.l0 : Nat → List Int → Int → Int → List Int → Int → Int → Option (List Int)
 | 0, _, _, _, _, _, _ => none
 | k + 1, x3, x4, x5, x11, x12, x13 => if x13 < x12 then (if 0 ≤ x13 then (if x13 < (x11.length : Int) then ((chars_Class.f k (rd x11 x13)).bind fun t240 => (if x4 ≥ 0 then (compose_All.j1 k x3 x4 x5 (rd x11 x13) t240 x11 x12 x13 (decide (x5 < t240))) else (compose_All.j1 k x3 x4 x5 (rd x11 x13) t240 x11 x12 x13 false))) else (none)) else (none)) else (some x3)
def compose_All.j1 : Nat → List Int → Int → Int → Int → Int → List Int → Int → Int → Bool → Option (List Int)
 | 0, _, _, _, _, _, _, _, _, _ => none
 | k + 1, x3, x4, x5, x7, x8, x11, x12, x13, x25 => if x25 = true then (if 0 ≤ x4 then (if x4 < (x3.length : Int) then ((compose_Pair.f k (rd x3 x4) x7).bind fun bt242 => (if bt242.2 = true then (compose_All.l0 k (x3.set (x4 : Int).toNat bt242.1) x4 x5 x11 x12 (wrap64 (x13 + 1))) else (if x3.length < 35184372088832 then ((some (x3 ++ [x7] : List Int)).bind fun y245 => (if x8 = 0 then (compose_All.l0 k y245 (wrap64 ((y245.length : Int) - 1)) (-1) x11 x12 (wrap64 (x13 + 1))) else (compose_All.l0 k y245 x4 (mx x5 x8) x11 x12 (wrap64 (x13 + 1))))) else (none)))) else (none)) else (none)) else (if x3.length < 35184372088832 then ((some (x3 ++ [x7] : List Int)).bind fun y248 => (if x8 = 0 then (compose_All.l0 k y248 (wrap64 ((y248.length : Int) - 1)) (-1) x11 x12 (wrap64 (x13 + 1))) else (compose_All.l0 k y248 x4 (mx x5 x8) x11 x12 (wrap64 (x13 + 1))))) else (none))
end
def compose_All.f (k : Nat) (l0 : List Int) : Option (List Int) := compose_All.l0 k ([] : List Int) (-1) (-1) l0 (l0.length : Int) 0
theorem compose_All.mono_l : ∀ k, (∀ y0 y1 y2 y3 y4 y5, LeO (compose_All.l0 k y0 y1 y2 y3 y4 y5) (compose_All.l0 (k + 1) y0 y1 y2 y3 y4 y5)) ∧ (∀ y0 y1 y2 y3 y4 y5 y6 y7 y8, LeO (compose_All.j1 k y0 y1 y2 y3 y4 y5 y6 y7 y8) (compose_All.j1 (k + 1) y0 y1 y2 y3 y4 y5 y6 y7 y8))
 | 0 => ⟨fun _ _ _ _ _ _ r h => by simp [compose_All.l0] at h, fun _ _ _ _ _ _ _ _ _ r h => by simp [compose_All.j1] at h⟩
 | k + 1 => by
  obtain ⟨ih0, ih1⟩ := compose_All.mono_l k
  refine ⟨?_, ?_⟩
  ·intro y0 y1 y2 y3 y4 y5
   unfold compose_All.l0
   repeat' first
   | (with_reducible exact ih0 _ _ _ _ _ _)
   | (with_reducible exact ih1 _ _ _ _ _ _ _ _ _)
   | (with_reducible exact chars_Class.mono _ _)
   | (with_reducible exact compose_Pair.mono _ _ _)
   | (with_reducible exact LeO.refl _)
   | exact ih0 _ _ _ _ _ _
   | exact ih1 _ _ _ _ _ _ _ _ _
   | exact chars_Class.mono _ _
   | exact compose_Pair.mono _ _ _
   | exact LeO.none _
   | refine LeO.ite ?_ ?_
   | refine LeO.bind ?_ (fun _ => ?_)
  ·intro y0 y1 y2 y3 y4 y5 y6 y7 y8
   unfold compose_All.j1
   repeat' first
   | (with_reducible exact ih0 _ _ _ _ _ _)
   | (with_reducible exact ih1 _ _ _ _ _ _ _ _ _)
   | (with_reducible exact chars_Class.mono _ _)
   | (with_reducible exact compose_Pair.mono _ _ _)
   | (with_reducible exact LeO.refl _)
   | exact ih0 _ _ _ _ _ _
   | exact ih1 _ _ _ _ _ _ _ _ _
   | exact chars_Class.mono _ _
   | exact compose_Pair.mono _ _ _
   | exact LeO.none _
   | refine LeO.ite ?_ ?_
   | refine LeO.bind ?_ (fun _ => ?_)
theorem compose_All.mono : ∀ a0 k, LeO (compose_All.f k a0) (compose_All.f (k + 1) a0) := by
 intro a0 k
 obtain ⟨ih0, ih1⟩ := compose_All.mono_l k
 unfold compose_All.f
 repeat' first
   | (with_reducible exact ih0 _ _ _ _ _ _)
   | (with_reducible exact ih1 _ _ _ _ _ _ _ _ _)
   | (with_reducible exact chars_Class.mono _ _)
   | (with_reducible exact compose_Pair.mono _ _ _)
   | (with_reducible exact LeO.refl _)
   | exact ih0 _ _ _ _ _ _
   | exact ih1 _ _ _ _ _ _ _ _ _
   | exact chars_Class.mono _ _
   | exact compose_Pair.mono _ _ _
   | exact LeO.none _
   | refine LeO.ite ?_ ?_
   | refine LeO.bind ?_ (fun _ => ?_)
set_option maxHeartbeats 8000000 in
set_option maxRecDepth 100000 in
theorem compose_All.calls (k : Nat) (A0 : Option Addr) (c0 : Nat) (l0 : List Int) (r : List Int) (w : World) (hr0 : Kd.C (Kd.int .i32) w A0 l0.length l0) (hc0 : l0.length ≤ c0) (h : compose_All.f k l0 = some r) :
  Calls Try.prog 44 #[.slice A0 l0.length c0] w fun e w' => ∃ v0_ : Value, e = .returned (v0_) ∧ Kd.R (Kd.int .i32) 21 w' w.heap.size (fun _ => True) v0_ r ∧ Below w.heap.size w w' := by
 have HR0 := aM hr0
 have HC0 := aM hc0
 clear hr0 hc0
 have HB := aM (Below.refl w.heap.size w)
 have H := h
 clear h
 unfold compose_All.f at H
 have H' := aM H
 clear H
 go_enter Try.func44, Try.ntmps44
 go_wp2
 (repeat (go_step3; try (go_wp2)))
 go_loopg [3, 4, 5, 13] k (fun kq v3 v4 v5 v13 w' => ∃ (x3_1 : List Int) (x4_1 : Int) (x5_1 : Int) (x13_1 : Int), v4 = .int .i64 x4_1 ∧ v5 = .int .i64 x5_1 ∧ v13 = .int .i64 x13_1 ∧ Aside0 (compose_All.l0 kq x3_1 x4_1 x5_1 l0 (l0.length : Int) x13_1 = some r) ∧ Aside0 (kq ≤ k) ∧ Aside0 (Kd.R (Kd.int .i32) 21 w' w.heap.size (fun _ => True) v3 x3_1) ∧ Aside0 (Below w.heap.size w w'))
 case atStart => exact ⟨(([] : List Int)), ((-1)), ((-1)), (0), zP, zP, zP, H', ⟨Nat.le_refl _⟩, ⟨zL⟩, ⟨zB⟩⟩
 case round =>
  clear H'
  obtain ⟨x3_1, x4_1, x5_1, x13_1, rfl, rfl, rfl, HA, HK1, HO_3, HB⟩ := hrel
  cases gk with
  | zero => exact absurd HA.out (by simp [compose_All.l0])
  | succ k1 =>
   have H := HA.out
   clear HA
   simp only [compose_All.l0] at H
   by_cases c2 : x13_1 < (l0.length : Int)
   ·rw [if_pos c2] at H
    have c2b0 : decide (x13_1 < (l0.length : Int)) = true := decide_eq_true c2
    clear c2
    by_cases c3 : 0 ≤ x13_1
    ·rw [if_pos c3] at H
     have c3b0 : decide (0 ≤ x13_1) = true := decide_eq_true c3
     clear c3
     by_cases c4 : x13_1 < (l0.length : Int)
     ·rw [if_pos c4] at H
      have c4b0 : decide (x13_1 < (l0.length : Int)) = true := decide_eq_true c4
      clear c4
      obtain ⟨t240, A5, H⟩ := zO H
      have HC6 := aM H
      clear H
      have p239 : 0 ≤ (x13_1 : Int) := zoA
      have q239 : x13_1 < (l0.length : Int) := zoA
      obtain ⟨ad239, e239, hx239_0⟩ := Kd.at_int HR0.out x13_1 p239 q239
      cases e239
      replace hx239_0 := (HB.out.cell (World.block_lt_of_cell? w _ hx239_0)).trans hx239_0
      replace p239 := eq_true p239
      replace q239 := eq_true q239
      go_upto_region 7 with (first | ((with_reducible refine gate_callee (f := 65) rfl ?_); refine goesL_ (some 18) rfl rfl Try.func65 zK rfl #[.int .i32 (rd l0 x13_1)] rfl zM ?_; (with_reducible refine (chars_Class.calls k1 (rd l0 x13_1) t240 _ A5.out).mono ?_); rintro e w' ⟨rfl, ⟨nd, rfl⟩⟩; refine ⟨_, rfl, ?_⟩))
      (try simp only [Act.put, List.setIfInBounds_toArray, List.set_cons_zero, List.set_cons_succ])
      go_cut [25] (fun v25 wc => ∃ (kq : Nat) (x25_5 : Bool), v25 = .bool x25_5 ∧ Aside0 (compose_All.j1 kq x3_1 x4_1 x5_1 (rd l0 x13_1) t240 l0 (l0.length : Int) x13_1 x25_5 = some r) ∧ Aside0 (kq ≤ k1) ∧ Aside0 (Kd.R (Kd.int .i32) 21 wc w.heap.size (fun _ => True) u3 x3_1) ∧ Aside0 (Below w.heap.size w wc))
      case first =>
       have H := HC6.out
       clear HC6
       by_cases c7 : x4_1 ≥ 0
       ·rw [if_pos c7] at H
        have c7b0 : decide (0 ≤ x4_1) = true := decide_eq_true c7
        clear c7
        (first | rw [c7b0] | (simp only [i64_w, i32_w]; rw [c7b0]) | skip)
        have H' := aM H
        clear H
        go_wp2
        go_meet
        case rel => exact ⟨_, (decide (x5_1 < t240)), zP, H', ⟨by have := HK1.out; first | omega | exact Nat.le_refl _⟩, ⟨zR HO_3⟩, ⟨zB⟩⟩
       ·rw [if_neg c7] at H
        have c7b0 : decide (0 ≤ x4_1) = false := decide_eq_false c7
        clear c7
        (first | rw [c7b0] | (simp only [i64_w, i32_w]; rw [c7b0]) | skip)
        have H' := aM H
        clear H
        go_wp2
        go_meet
        case rel => exact ⟨_, (false), zP, H', ⟨by have := HK1.out; first | omega | exact Nat.le_refl _⟩, ⟨zR HO_3⟩, ⟨zB⟩⟩
      case rest =>
       clear HC6
       try clear c2
       try clear c2b0
       try clear p2
       try clear q2
       try clear hx2
       try clear c3
       try clear c3b0
       try clear c4
       try clear c4b0
       try clear c6
       try clear c7
       try clear c7b0
       try clear hx239_0
       try clear p239
       try clear q239
       obtain ⟨kq, x25_5, rfl, HA, HJ5, HO_3, HB⟩ := hcut
       cases kq with
       | zero => exact absurd HA.out (by simp [compose_All.j1])
       | succ kj5 =>
        have H := HA.out
        clear HA
        simp only [compose_All.j1] at H
        by_cases c8 : x25_5 = true
        ·subst c8
         rw [if_pos rfl] at H
         by_cases c9 : 0 ≤ x4_1
         ·rw [if_pos c9] at H
          have c9b0 : decide (0 ≤ x4_1) = true := decide_eq_true c9
          clear c9
          by_cases c10 : x4_1 < (x3_1.length : Int)
          ·rw [if_pos c10] at H
           have c10b0 : decide (x4_1 < (x3_1.length : Int)) = true := decide_eq_true c10
           clear c10
           obtain ⟨⟨t242, t243⟩, A11, H⟩ := zO H
           try dsimp only at H
           by_cases c12 : t243 = true
           ·subst c12
            rw [if_pos rfl] at H
            obtain ⟨y244, hy244⟩ : ∃ y_ : List Int, y_ = (x3_1.set (x4_1 : Int).toNat t242) := ⟨_, rfl⟩
            replace H : (compose_All.l0 kj5 y244 x4_1 x5_1 l0 (l0.length : Int) (wrap64 (x13_1 + 1))) = some r := zY hy244 H
            have Ny244 := aM hy244
            clear hy244
            have H' := aM H
            clear H
            obtain ⟨Ao14, co14, eo14⟩ := Kd.R_slice HO_3.out
            subst eo14
            have p241 : 0 ≤ (x4_1 : Int) := zoA
            have q241 : x4_1 < (x3_1.length : Int) := zoA
            obtain ⟨ad241, e241, hx241_0⟩ := Kd.at_int (Kd.R_reads' HO_3.out).2.2 x4_1 p241 q241
            cases e241
            replace p241 := eq_true p241
            replace q241 := eq_true q241
            go_wp2_with (first | ((with_reducible refine gate_callee (f := 67) rfl ?_); refine goesL_ (some 32) rfl rfl Try.func67 zK rfl #[.int .i32 (rd x3_1 x4_1), .int .i32 (rd l0 x13_1)] rfl zM ?_; (with_reducible refine (compose_Pair.calls kj5 (rd x3_1 x4_1) (rd l0 x13_1) t242 true _ A11.out).mono ?_); rintro e w15 ⟨rfl, hb⟩; refine ⟨_, rfl, ?_⟩; have n_ := zI (aM (Kd.R_below (zR HO_3) hb)) (aM (below_step zB hb)); clear HO_3 HB; obtain ⟨HO_3, HB⟩ := n_; (try clear hb); have p13 : 0 ≤ (x4_1 : Int) := zoA; have q13 : (x4_1 : Int) < ((x3_1.length : Int) : Int) := zoA; obtain ⟨go13, co13, eo13, gb13, gl13, cl13, HG13⟩ := Kd.R_form HO_3.out (by omega); (first | cases eo13 | (injection eo13 with ea_ en_ ec_; (first | subst ea_ | (injection ea_ with ea_; subst ea_)); subst ec_; clear en_)); have GB13 := aM gb13; have GG13 := aM HG13; clear gb13 gl13 HG13; (first | simp only [add_plain] at hx241_0 | skip); obtain ⟨hx13_0, hf13_0⟩ := Kd.R_celln 0 HO_3.out (x4_1 : Int) p13 q13; replace p13 := eq_true p13; replace q13 := eq_true q13; obtain ⟨hy16_, hz16_⟩ := Kd.R_celln 0 HO_3.out (x4_1 : Int) (zoA) (zoA); have HP16 := Kd.R_putg HO_3.out (x4_1 : Int) t242) | ((with_reducible refine gate_store (t := 21) (p := 39) rfl ?_); refine store_event (t := 21) (p := 39) (v := ?vo_w17) (w1 := (w15.setCell ⟨go13, (x4_1 : Int).toNat, none⟩ (.int .i32 t242))) ?hg ?ho ?hn ?hr ?_; (case ho => rfl); (case hg => rfl); (case hn => rfl); (case hr => first | (go_simp; done) | (go_simp; rfl)); intro w17 hw; have hg : w15.grownBy w17 (some go13) := (by rw [hw]; exact HP16.2); have hp_ : Kd.R (Kd.int .i32) 21 w17 w.heap.size (fun _ => True) (.slice (some ⟨go13, 0, none⟩) x3_1.length co14) y244 := (by rw [hw, Ny244.out]; exact HP16.1); clear HP16; have n_ := zI (aM (hp_)) (aM ((by rw [hw]; exact below_set (HB.out) GB13.out : Below w.heap.size w w17))); clear HO_3 HB; obtain ⟨HO_3, HB⟩ := n_; clear hg hw hp_))
            go_roundg kj5
            case measure => have := HK1.out; have := HJ5.out; omega
            case rel => exact ⟨(y244), (x4_1), (x5_1), (wrap64 (x13_1 + 1)), zP, zP, zP, H', ⟨by have := HK1.out; have := HJ5.out; omega⟩, ⟨zR HO_3⟩, ⟨zB⟩⟩
           ·replace c12 := Bool.eq_false_iff.mpr c12
            subst c12
            rw [if_neg (show ¬ (false = true) by decide)] at H
            by_cases c18 : x3_1.length < 35184372088832
            ·rw [if_pos c18] at H
             have LMc18 := aM c18
             clear c18
             obtain ⟨y245, hy245⟩ : ∃ y_ : List Int, y_ = (x3_1 ++ [(rd l0 x13_1)]) := ⟨_, rfl⟩
             replace H : (if t240 = 0 then (compose_All.l0 kj5 y245 (wrap64 ((y245.length : Int) - 1)) (-1) l0 (l0.length : Int) (wrap64 (x13_1 + 1))) else (compose_All.l0 kj5 y245 x4_1 (mx x5_1 t240) l0 (l0.length : Int) (wrap64 (x13_1 + 1)))) = some r := zY hy245 H
             have Ny245 := aM hy245
             clear hy245
             by_cases c19 : t240 = 0
             ·rw [if_pos c19] at H
              have c19b0 : (t240 == 0) = true := beq_iff_eq.mpr c19
              have c19b1 : (t240 != 0) = false := bne_eq_false_iff_eq.mpr c19
              clear c19
              have H' := aM H
              clear H
              obtain ⟨Ao20, co20, eo20⟩ := Kd.R_slice HO_3.out
              subst eo20
              have p241 : 0 ≤ (x4_1 : Int) := zoA
              have q241 : x4_1 < (x3_1.length : Int) := zoA
              obtain ⟨ad241, e241, hx241_0⟩ := Kd.at_int (Kd.R_reads' HO_3.out).2.2 x4_1 p241 q241
              cases e241
              replace p241 := eq_true p241
              replace q241 := eq_true q241
              go_wp2_with (first | ((with_reducible refine gate_callee (f := 67) rfl ?_); refine goesL_ (some 32) rfl rfl Try.func67 zK rfl #[.int .i32 (rd x3_1 x4_1), .int .i32 (rd l0 x13_1)] rfl zM ?_; (with_reducible refine (compose_Pair.calls kj5 (rd x3_1 x4_1) (rd l0 x13_1) t242 false _ A11.out).mono ?_); rintro e w21 ⟨rfl, hb⟩; refine ⟨_, rfl, ?_⟩; have n_ := zI (aM (Kd.R_below (zR HO_3) hb)) (aM (below_step zB hb)); clear HO_3 HB; obtain ⟨HO_3, HB⟩ := n_; (try clear hb); (try clear hk)) | ((with_reducible refine gate_builtin (b := .append) (xs := #[.tmp 40, .tmp 42]) rfl ?_); at_builtin; refine Kd.R_append (Kd.int .i32) (w0 := w) w.heap.size rfl (.tmp 40) (.tmp 42) 54 21 (.int .i32 0) 4 rfl Try.underlying54 info21 rfl (by decide) (by omega) (.slice (some ad241) x3_1.length co20) x3_1 (rd l0 x13_1) [.int .i32 (rd l0 x13_1)] (fun _ => True) (fun _ => False) rfl rfl ?aP (fun _ hk => hk.elim) ?aF ?aO ?aB ?aS ?aL ?_; (case aP => exact rfl); (case aB => exact zB); (case aF => exact (fun _ _ => trivial)); (case aO => exact (zR HO_3)); (case aS => exact (below_size zB)); (case aL => have := LMc18.out; omega); intro v246 w22 ho hb hg hat; rw [← Ny245.out] at ho; have n_ := zI (aM (hb)) (aM (ho)); clear HB HO_3; obtain ⟨HB, HO247⟩ := n_; clear ho hb hg hat; obtain ⟨Ao23, co23, rfl⟩ := Kd.R_slice HO247.out))
              go_roundg kj5
              case measure => have := HK1.out; have := HJ5.out; omega
              case rel => exact ⟨(y245), (wrap64 ((y245.length : Int) - 1)), ((-1)), (wrap64 (x13_1 + 1)), zP, zP, zP, H', ⟨by have := HK1.out; have := HJ5.out; omega⟩, ⟨zR HO247⟩, ⟨zB⟩⟩
             ·rw [if_neg c19] at H
              have c19b0 : (t240 == 0) = false := beq_eq_false_iff_ne.mpr c19
              have c19b1 : (t240 != 0) = true := bne_iff_ne.mpr c19
              obtain ⟨ji24, hji24⟩ : ∃ j_ : Int, (mx x5_1 t240) = j_ := ⟨_, rfl⟩
              replace H : (compose_All.l0 kj5 y245 x4_1 ji24 l0 (l0.length : Int) (wrap64 (x13_1 + 1))) = some r := by first | (rw [hji24] at H; exact H) | (simp only [hji24] at H ⊢; exact H)
              (try rw [hji24] at A11)
              have hji24_ : (if x5_1 < t240 then t240 else x5_1) = ji24 := hji24
              have H' := aM H
              clear H
              obtain ⟨Ao25, co25, eo25⟩ := Kd.R_slice HO_3.out
              subst eo25
              have p241 : 0 ≤ (x4_1 : Int) := zoA
              have q241 : x4_1 < (x3_1.length : Int) := zoA
              obtain ⟨ad241, e241, hx241_0⟩ := Kd.at_int (Kd.R_reads' HO_3.out).2.2 x4_1 p241 q241
              cases e241
              replace p241 := eq_true p241
              replace q241 := eq_true q241
              go_wp2_with (first | ((with_reducible refine gate_callee (f := 67) rfl ?_); refine goesL_ (some 32) rfl rfl Try.func67 zK rfl #[.int .i32 (rd x3_1 x4_1), .int .i32 (rd l0 x13_1)] rfl zM ?_; (with_reducible refine (compose_Pair.calls kj5 (rd x3_1 x4_1) (rd l0 x13_1) t242 false _ A11.out).mono ?_); rintro e w26 ⟨rfl, hb⟩; refine ⟨_, rfl, ?_⟩; have n_ := zI (aM (Kd.R_below (zR HO_3) hb)) (aM (below_step zB hb)); clear HO_3 HB; obtain ⟨HO_3, HB⟩ := n_; (try clear hb); (try clear hk)) | ((with_reducible refine gate_builtin (b := .append) (xs := #[.tmp 40, .tmp 42]) rfl ?_); at_builtin; refine Kd.R_append (Kd.int .i32) (w0 := w) w.heap.size rfl (.tmp 40) (.tmp 42) 54 21 (.int .i32 0) 4 rfl Try.underlying54 info21 rfl (by decide) (by omega) (.slice (some ad241) x3_1.length co25) x3_1 (rd l0 x13_1) [.int .i32 (rd l0 x13_1)] (fun _ => True) (fun _ => False) rfl rfl ?aP (fun _ hk => hk.elim) ?aF ?aO ?aB ?aS ?aL ?_; (case aP => exact rfl); (case aB => exact zB); (case aF => exact (fun _ _ => trivial)); (case aO => exact (zR HO_3)); (case aS => exact (below_size zB)); (case aL => have := LMc18.out; omega); intro v246 w27 ho hb hg hat; rw [← Ny245.out] at ho; have n_ := zI (aM (hb)) (aM (ho)); clear HB HO_3; obtain ⟨HB, HO247⟩ := n_; clear ho hb hg hat))
              go_roundg kj5
              case measure => have := HK1.out; have := HJ5.out; omega
              case rel => exact ⟨(y245), (x4_1), (ji24), (wrap64 (x13_1 + 1)), zP, (by first | rfl | (simp; done) | (simp only [← hji24] <;> (first | rfl | simp)) | (simp [*]; done)), zP, H', ⟨by have := HK1.out; have := HJ5.out; omega⟩, ⟨zR HO247⟩, ⟨zB⟩⟩
            ·rw [if_neg c18] at H
             exact absurd H (by simp)
          ·rw [if_neg c10] at H
           exact absurd H (by simp)
         ·rw [if_neg c9] at H
          exact absurd H (by simp)
        ·replace c8 := Bool.eq_false_iff.mpr c8
         subst c8
         rw [if_neg (show ¬ (false = true) by decide)] at H
         by_cases c28 : x3_1.length < 35184372088832
         ·rw [if_pos c28] at H
          have LMc28 := aM c28
          clear c28
          obtain ⟨y248, hy248⟩ : ∃ y_ : List Int, y_ = (x3_1 ++ [(rd l0 x13_1)]) := ⟨_, rfl⟩
          replace H : (if t240 = 0 then (compose_All.l0 kj5 y248 (wrap64 ((y248.length : Int) - 1)) (-1) l0 (l0.length : Int) (wrap64 (x13_1 + 1))) else (compose_All.l0 kj5 y248 x4_1 (mx x5_1 t240) l0 (l0.length : Int) (wrap64 (x13_1 + 1)))) = some r := zY hy248 H
          have Ny248 := aM hy248
          clear hy248
          by_cases c29 : t240 = 0
          ·rw [if_pos c29] at H
           have c29b0 : (t240 == 0) = true := beq_iff_eq.mpr c29
           have c29b1 : (t240 != 0) = false := bne_eq_false_iff_eq.mpr c29
           clear c29
           have H' := aM H
           clear H
           go_wp2_with (first | ((with_reducible refine gate_builtin (b := .append) (xs := #[.tmp 40, .tmp 42]) rfl ?_); at_builtin; refine Kd.R_append (Kd.int .i32) (w0 := w) w.heap.size rfl (.tmp 40) (.tmp 42) 54 21 (.int .i32 0) 4 rfl Try.underlying54 info21 rfl (by decide) (by omega) u3 x3_1 (rd l0 x13_1) [.int .i32 (rd l0 x13_1)] (fun _ => True) (fun _ => False) rfl rfl ?aP (fun _ hk => hk.elim) ?aF ?aO ?aB ?aS ?aL ?_; (case aP => exact rfl); (case aB => exact zB); (case aF => exact (fun _ _ => trivial)); (case aO => exact (zR HO_3)); (case aS => exact (below_size zB)); (case aL => have := LMc28.out; omega); intro v249 w30 ho hb hg hat; rw [← Ny248.out] at ho; have n_ := zI (aM (hb)) (aM (ho)); clear HB HO_3; obtain ⟨HB, HO250⟩ := n_; clear ho hb hg hat; obtain ⟨Ao31, co31, rfl⟩ := Kd.R_slice HO250.out))
           go_roundg kj5
           case measure => have := HK1.out; have := HJ5.out; omega
           case rel => exact ⟨(y248), (wrap64 ((y248.length : Int) - 1)), ((-1)), (wrap64 (x13_1 + 1)), zP, zP, zP, H', ⟨by have := HK1.out; have := HJ5.out; omega⟩, ⟨zR HO250⟩, ⟨zB⟩⟩
          ·rw [if_neg c29] at H
           have c29b0 : (t240 == 0) = false := beq_eq_false_iff_ne.mpr c29
           have c29b1 : (t240 != 0) = true := bne_iff_ne.mpr c29
           obtain ⟨ji32, hji32⟩ : ∃ j_ : Int, (mx x5_1 t240) = j_ := ⟨_, rfl⟩
           replace H : (compose_All.l0 kj5 y248 x4_1 ji32 l0 (l0.length : Int) (wrap64 (x13_1 + 1))) = some r := by first | (rw [hji32] at H; exact H) | (simp only [hji32] at H ⊢; exact H)
           have hji32_ : (if x5_1 < t240 then t240 else x5_1) = ji32 := hji32
           have H' := aM H
           clear H
           go_wp2_with (first | ((with_reducible refine gate_builtin (b := .append) (xs := #[.tmp 40, .tmp 42]) rfl ?_); at_builtin; refine Kd.R_append (Kd.int .i32) (w0 := w) w.heap.size rfl (.tmp 40) (.tmp 42) 54 21 (.int .i32 0) 4 rfl Try.underlying54 info21 rfl (by decide) (by omega) u3 x3_1 (rd l0 x13_1) [.int .i32 (rd l0 x13_1)] (fun _ => True) (fun _ => False) rfl rfl ?aP (fun _ hk => hk.elim) ?aF ?aO ?aB ?aS ?aL ?_; (case aP => exact rfl); (case aB => exact zB); (case aF => exact (fun _ _ => trivial)); (case aO => exact (zR HO_3)); (case aS => exact (below_size zB)); (case aL => have := LMc28.out; omega); intro v249 w33 ho hb hg hat; rw [← Ny248.out] at ho; have n_ := zI (aM (hb)) (aM (ho)); clear HB HO_3; obtain ⟨HB, HO250⟩ := n_; clear ho hb hg hat))
           go_roundg kj5
           case measure => have := HK1.out; have := HJ5.out; omega
           case rel => exact ⟨(y248), (x4_1), (ji32), (wrap64 (x13_1 + 1)), zP, (by first | rfl | (simp; done) | (simp only [← hji32] <;> (first | rfl | simp)) | (simp [*]; done)), zP, H', ⟨by have := HK1.out; have := HJ5.out; omega⟩, ⟨zR HO250⟩, ⟨zB⟩⟩
         ·rw [if_neg c28] at H
          exact absurd H (by simp)
     ·rw [if_neg c4] at H
      exact absurd H (by simp)
    ·rw [if_neg c3] at H
     exact absurd H (by simp)
   ·rw [if_neg c2] at H
    have c2b0 : decide (x13_1 < (l0.length : Int)) = false := decide_eq_false c2
    clear c2
    obtain rfl := sI H
    go_wp2
    (try rw [Exit.noGoto_ret])
    go_ret
    exact ⟨_, zE, zR HO_3, zB⟩

/-! ### arrange_wrong: function 68 -/
def arrange_wrong.f (k : Nat) (a0 : Int) (a1 : Int) : Option (Bool) := (chars_Class.f k a1).bind fun t251 => (if t251 > 0 then ((chars_Class.f k a0).bind fun t252 => (some (decide (t252 > t251)))) else (some false))
theorem arrange_wrong.mono : ∀ a0 a1 k, LeO (arrange_wrong.f k a0 a1) (arrange_wrong.f (k + 1) a0 a1) := by
 intro a0 a1 k
 unfold arrange_wrong.f
 repeat' first
   | (with_reducible exact chars_Class.mono _ _)
   | (with_reducible exact LeO.refl _)
   | exact chars_Class.mono _ _
   | exact LeO.none _
   | refine LeO.ite ?_ ?_
   | refine LeO.bind ?_ (fun _ => ?_)
set_option maxHeartbeats 8000000 in
set_option maxRecDepth 100000 in
theorem arrange_wrong.calls (k : Nat) (a0 : Int) (a1 : Int) (r : Bool) (w : World) (h : arrange_wrong.f k a0 a1 = some r) :
  Calls Try.prog 68 #[.int .i32 a0, .int .i32 a1] w fun e w' => e = .returned (.bool r) ∧ Drawn0 w w' := by
 have H := h
 clear h
 unfold arrange_wrong.f at H
 obtain ⟨t251, A3, H⟩ := zO H
 by_cases c4 : t251 > 0
 ·rw [if_pos c4] at H
  have c4b0 : decide (0 < t251) = true := decide_eq_true c4
  clear c4
  obtain ⟨t252, A5, H⟩ := zO H
  obtain rfl := sI H
  go_enter Try.func68, Try.ntmps68
  go_wp2_with (first | ((with_reducible refine gate_callee (f := 65) rfl ?_); refine goesL_ (some 7) rfl rfl Try.func65 zK rfl #[.int .i32 a1] rfl zM ?_; (with_reducible refine (chars_Class.calls k a1 t251 _ A3.out).mono ?_); rintro e w' ⟨rfl, ⟨nd, rfl⟩⟩; (try clear A3); refine ⟨_, rfl, ?_⟩) | (go_at_call 65; (with_reducible refine (chars_Class.calls k a0 t252 _ A5.out).mono ?_); rintro e w' ⟨rfl, ⟨nd, rfl⟩⟩; (try clear A5)))
  go_ret
  exact ⟨zP, zD⟩
 ·rw [if_neg c4] at H
  have c4b0 : decide (0 < t251) = false := decide_eq_false c4
  clear c4
  obtain rfl := sI H
  go_enter Try.func68, Try.ntmps68
  go_wp2_with (first | ((with_reducible refine gate_callee (f := 65) rfl ?_); refine goesL_ (some 7) rfl rfl Try.func65 zK rfl #[.int .i32 a1] rfl zM ?_; (with_reducible refine (chars_Class.calls k a1 t251 _ A3.out).mono ?_); rintro e w' ⟨rfl, ⟨nd, rfl⟩⟩; (try clear A3); refine ⟨_, rfl, ?_⟩))
  go_ret
  exact ⟨zP, zD⟩

/-! ### arrange_Order: function 45 -/
def arrange_Order.l0 : Nat → List Int → Int → Option (List Int)
 | 0, _, _ => none
 | k + 1, x3, x4 => if x4 ≥ (x3.length : Int) then (some x3) else (if x4 > 0 then (if 0 ≤ (wrap64 (x4 - 1)) then (if (wrap64 (x4 - 1)) < (x3.length : Int) then (if 0 ≤ x4 then (if x4 < (x3.length : Int) then ((arrange_wrong.f k (rd x3 (wrap64 (x4 - 1))) (rd x3 x4)).bind fun t258 => (if t258 = true then (arrange_Order.l0 k ((x3.set ((wrap64 (x4 - 1)) : Int).toNat (rd x3 x4)).set (x4 : Int).toNat (rd x3 (wrap64 (x4 - 1)))) (wrap64 (x4 - 1))) else (arrange_Order.l0 k x3 (wrap64 (x4 + 1))))) else (none)) else (none)) else (none)) else (none)) else (arrange_Order.l0 k x3 (wrap64 (x4 + 1))))
def arrange_Order.f (k : Nat) (l0 : List Int) : Option (List Int) := (slices_Clone_rune_rune.f l0).bind fun t253 => (arrange_Order.l0 k t253 1)
theorem arrange_Order.mono_l : ∀ k, (∀ y0 y1, LeO (arrange_Order.l0 k y0 y1) (arrange_Order.l0 (k + 1) y0 y1))
 | 0 => fun _ _ r h => by simp [arrange_Order.l0] at h
 | k + 1 => by
  have ih0 := arrange_Order.mono_l k
  ·intro y0 y1
   unfold arrange_Order.l0
   repeat' first
   | (with_reducible exact ih0 _ _)
   | (with_reducible exact arrange_wrong.mono _ _ _)
   | (with_reducible exact LeO.refl _)
   | exact ih0 _ _
   | exact arrange_wrong.mono _ _ _
   | exact LeO.none _
   | refine LeO.ite ?_ ?_
   | refine LeO.bind ?_ (fun _ => ?_)
theorem arrange_Order.mono : ∀ a0 k, LeO (arrange_Order.f k a0) (arrange_Order.f (k + 1) a0) := by
 intro a0 k
 have ih0 := arrange_Order.mono_l k
 unfold arrange_Order.f
 repeat' first
   | (with_reducible exact ih0 _ _)
   | (with_reducible exact arrange_wrong.mono _ _ _)
   | (with_reducible exact LeO.refl _)
   | exact ih0 _ _
   | exact arrange_wrong.mono _ _ _
   | exact LeO.none _
   | refine LeO.ite ?_ ?_
   | refine LeO.bind ?_ (fun _ => ?_)
def arrange_Order.T5 : Bool × List (List Nat × List Nat) := (true, [([], []), ([0], [0]), ([1], [1]), ([2], [2]), ([2], [2]), ([4, 2], [2, 4]), ([3, 5, 2], [2, 3, 5]), ([6, 2], [2, 6]), ([2], [2]), ([2], [2]), ([8, 9, 2], [2, 8, 9]), ([10, 2], [2, 10]), ([7, 11, 2, 2], [2, 7, 11]), ([2, 12], [2, 12])])
def arrange_Order.B5 : List Nat := [0, 1, 3, 7, 7, 23, 63, 127, 7, 7, 775, 1799, 4095, 8191]
theorem arrange_Order.tab5 : rtab .any (opsOf Try.f45 5) = arrange_Order.T5 := zK
theorem arrange_Order.bits5 : waitsOk arrange_Order.T5.2 arrange_Order.B5 = true := zK
def arrange_Order.T6 : Bool × List (List Nat × List Nat) := (true, [([], []), ([], []), ([1], [1]), ([], []), ([], []), ([], []), ([], []), ([5, 6], [5, 6]), ([7], [7]), ([], []), ([], []), ([10], [10]), ([9, 11], [9, 11]), ([12], [12]), ([0, 2, 0, 1, 2, 5, 6, 7, 8, 13], [0, 2]), ([14, 8, 0, 1, 2, 5, 6, 7, 8, 13], [8, 14]), ([3, 4, 0, 1, 2, 3, 4, 5, 6, 7, 8, 9, 10, 11, 12, 13, 14, 15], [3, 4]), ([16, 13, 15, 0, 1, 2, 3, 4, 5, 6, 7, 8, 9, 10, 11, 12, 13, 14, 15], [13, 16])])
def arrange_Order.B6 : List Nat := [0, 0, 2, 0, 0, 0, 0, 96, 224, 0, 0, 1024, 3584, 7680, 16359, 32743, 65535, 131071]
theorem arrange_Order.tab6 : rtab .any (opsOf Try.f45 6) = arrange_Order.T6 := zK
theorem arrange_Order.bits6 : waitsOk arrange_Order.T6.2 arrange_Order.B6 = true := zK
set_option maxHeartbeats 8000000 in
set_option maxRecDepth 100000 in
theorem arrange_Order.calls (k : Nat) (A0 : Option Addr) (c0 : Nat) (l0 : List Int) (r : List Int) (w : World) (hr0 : Kd.C (Kd.int .i32) w A0 l0.length l0) (hc0 : l0.length ≤ c0) (h : arrange_Order.f k l0 = some r) :
  Calls Try.prog 45 #[.slice A0 l0.length c0] w fun e w' => ∃ v0_ : Value, e = .returned (v0_) ∧ Kd.R (Kd.int .i32) 21 w' w.heap.size (fun _ => True) v0_ r ∧ Below w.heap.size w w' := by
 have HR0 := aM hr0
 have HC0 := aM hc0
 clear hr0 hc0
 have HB := aM (Below.refl w.heap.size w)
 have H := h
 clear h
 unfold arrange_Order.f at H
 obtain ⟨t253, A2, H⟩ := zO H
 have H' := aM H
 clear H
 go_enter Try.func45, Try.ntmps45
 go_wp2_with (first | ((with_reducible refine gate_callee (f := 42) rfl ?_); refine goesL_ (some 6) rfl rfl Try.func42 zK rfl #[.slice A0 l0.length c0] rfl zM ?_; (with_reducible refine (slices_Clone_rune_rune.calls _ _ l0 t253 _ ?side1 ?side2 A2.out).mono ?_); (case side1 => exact zC HR0.out); (case side2 => exact HC0.out); rintro e w3 ⟨v254, rfl, ho0, hb⟩; refine ⟨_, rfl, ?_⟩; have n_ := zI (aM (Kd.R_lower ho0 (below_size zB))) (aM (below_step zB hb)); clear HB; obtain ⟨HO255, HB⟩ := n_; (try clear hb); (try clear ho0)))
 refine wp_scope_back 0 rfl ?_
 go_wp2_with (first | ((with_reducible refine gate_callee (f := 42) rfl ?_); refine goesL_ (some 6) rfl rfl Try.func42 zK rfl #[.slice A0 l0.length c0] rfl zM ?_; (with_reducible refine (slices_Clone_rune_rune.calls _ _ l0 t253 _ ?side1 ?side2 A2.out).mono ?_); (case side1 => exact zC HR0.out); (case side2 => exact HC0.out); rintro e w3 ⟨v254, rfl, ho0, hb⟩; refine ⟨_, rfl, ?_⟩; have n_ := zI (aM (Kd.R_lower ho0 (below_size zB))) (aM (below_step zB hb)); clear HB; obtain ⟨HO255, HB⟩ := n_; (try clear hb); (try clear ho0)))
 go_step3
 (try simp only [Exit.then])
 go_step
 refine wp_back_ghost (fun a0 kq a' w' => ∃ (u2 u4 u7 u8 u9 u10 u11 u12 u13 u14 u15 u16 u17 u18 u19 u20 u21 u22 u23 u24 u25 u26 u27 u28 u29 u30 u31 u32 u33 u34 u35 u36 u37 u38 u39 u40 u41 u42 u43 u44 u45 : Value), (∃ (x3_1 : List Int) (x4_1 : Int), u4 = .int .i64 x4_1 ∧ Aside0 (arrange_Order.l0 kq x3_1 x4_1 = some r) ∧ Aside0 (kq ≤ k) ∧ Aside0 (Kd.R (Kd.int .i32) 21 w' w.heap.size (fun _ => True) v254 x3_1) ∧ Aside0 (Below w.heap.size w w')) ∧ a' = ⟨(((((((((((((((((((((((((((((((((((((((((a0.tmps.setIfInBounds 2 u2).setIfInBounds 4 u4).setIfInBounds 7 u7).setIfInBounds 8 u8).setIfInBounds 9 u9).setIfInBounds 10 u10).setIfInBounds 11 u11).setIfInBounds 12 u12).setIfInBounds 13 u13).setIfInBounds 14 u14).setIfInBounds 15 u15).setIfInBounds 16 u16).setIfInBounds 17 u17).setIfInBounds 18 u18).setIfInBounds 19 u19).setIfInBounds 20 u20).setIfInBounds 21 u21).setIfInBounds 22 u22).setIfInBounds 23 u23).setIfInBounds 24 u24).setIfInBounds 25 u25).setIfInBounds 26 u26).setIfInBounds 27 u27).setIfInBounds 28 u28).setIfInBounds 29 u29).setIfInBounds 30 u30).setIfInBounds 31 u31).setIfInBounds 32 u32).setIfInBounds 33 u33).setIfInBounds 34 u34).setIfInBounds 35 u35).setIfInBounds 36 u36).setIfInBounds 37 u37).setIfInBounds 38 u38).setIfInBounds 39 u39).setIfInBounds 40 u40).setIfInBounds 41 u41).setIfInBounds 42 u42).setIfInBounds 43 u43).setIfInBounds 44 u44).setIfInBounds 45 u45), a0.defers⟩) k ?atStart ?round
 case' atStart => (repeat apply Exists.intro); refine ⟨?_, ?_⟩; rotate_left; (try simp only [List.setIfInBounds_toArray, List.set_cons_zero, List.set_cons_succ]); exact rfl
 case' round => intro gk _ wr hinv; obtain ⟨u2, u4, u7, u8, u9, u10, u11, u12, u13, u14, u15, u16, u17, u18, u19, u20, u21, u22, u23, u24, u25, u26, u27, u28, u29, u30, u31, u32, u33, u34, u35, u36, u37, u38, u39, u40, u41, u42, u43, u44, u45, hrel, ha⟩ := hinv; subst ha; (try simp only [List.setIfInBounds_toArray, List.set_cons_zero, List.set_cons_succ]); intro J_ K_ hJ_ hK_
 case atStart => exact ⟨(t253), (1), zP, H', ⟨Nat.le_refl _⟩, ⟨zR HO255⟩, ⟨zB⟩⟩
 case round =>
  clear H'
  try clear p2
  obtain ⟨x3_1, x4_1, rfl, HA, HK1, HO_3, HB⟩ := hrel
  cases gk with
  | zero => exact absurd HA.out (by simp [arrange_Order.l0])
  | succ k1 =>
   have H := HA.out
   clear HA
   simp only [arrange_Order.l0] at H
   by_cases c4 : x4_1 ≥ (x3_1.length : Int)
   ·rw [if_pos c4] at H
    have c4b0 : decide ((x3_1.length : Int) ≤ x4_1) = true := decide_eq_true c4
    clear c4
    obtain rfl := sI H
    obtain ⟨Ao5, co5, eo5⟩ := Kd.R_slice HO_3.out
    subst eo5
    go_wp2
    (try rw [Exit.noGoto_ret])
    go_ret
    exact ⟨_, zE, zR HO_3, zB⟩
   ·rw [if_neg c4] at H
    have c4b0 : decide ((x3_1.length : Int) ≤ x4_1) = false := decide_eq_false c4
    clear c4
    by_cases c6 : x4_1 > 0
    ·rw [if_pos c6] at H
     have c6b0 : decide (0 < x4_1) = true := decide_eq_true c6
     clear c6
     obtain ⟨ji7, hji7⟩ : ∃ j_ : Int, (wrap64 (x4_1 - 1)) = j_ := ⟨_, rfl⟩
     replace H : (if 0 ≤ (ji7) then (if (ji7) < (x3_1.length : Int) then (if 0 ≤ x4_1 then (if x4_1 < (x3_1.length : Int) then ((arrange_wrong.f k1 (rd x3_1 (ji7)) (rd x3_1 x4_1)).bind fun t258 => (if t258 = true then (arrange_Order.l0 k1 ((x3_1.set ((ji7) : Int).toNat (rd x3_1 x4_1)).set (x4_1 : Int).toNat (rd x3_1 (ji7))) ji7) else (arrange_Order.l0 k1 x3_1 (wrap64 (x4_1 + 1))))) else (none)) else (none)) else (none)) else (none)) = some r := by first | (rw [hji7] at H; exact H) | (simp only [hji7] at H ⊢; exact H)
     have hji7w : (IntKind.i64.wrap (x4_1 - 1)) = ji7 := (i64_w _).trans hji7
     by_cases c8 : 0 ≤ (ji7)
     ·rw [if_pos c8] at H
      have c8b0 : decide (0 ≤ (ji7)) = true := decide_eq_true c8
      clear c8
      by_cases c9 : (ji7) < (x3_1.length : Int)
      ·rw [if_pos c9] at H
       have c9b0 : decide ((ji7) < (x3_1.length : Int)) = true := decide_eq_true c9
       clear c9
       by_cases c10 : 0 ≤ x4_1
       ·rw [if_pos c10] at H
        have c10b0 : decide (0 ≤ x4_1) = true := decide_eq_true c10
        clear c10
        by_cases c11 : x4_1 < (x3_1.length : Int)
        ·rw [if_pos c11] at H
         have c11b0 : decide (x4_1 < (x3_1.length : Int)) = true := decide_eq_true c11
         clear c11
         obtain ⟨t258, A12, H⟩ := zO H
         by_cases c13 : t258 = true
         ·subst c13
          rw [if_pos rfl] at H
          obtain ⟨y261, hy261⟩ : ∃ y_ : List Int, y_ = (x3_1.set ((ji7) : Int).toNat (rd x3_1 x4_1)) := ⟨_, rfl⟩
          replace H : (arrange_Order.l0 k1 (y261.set (x4_1 : Int).toNat (rd x3_1 (ji7))) ji7) = some r := zY hy261 H
          have Ny261 := aM hy261
          clear hy261
          obtain ⟨y262, hy262⟩ : ∃ y_ : List Int, y_ = (y261.set (x4_1 : Int).toNat (rd x3_1 (ji7))) := ⟨_, rfl⟩
          replace H : (arrange_Order.l0 k1 y262 ji7) = some r := zY hy262 H
          have Ny262 := aM hy262
          clear hy262
          have H' := aM H
          clear H
          obtain ⟨Ao16, co16, eo16⟩ := Kd.R_slice HO_3.out
          subst eo16
          try go_wp2
          have n0_ := aM (Kd.R_drew HO_3.out)
          have n1_ := aM (bD HB.out)
          clear HO_3
          clear HB
          have HO_3 := n0_
          have HB := n1_
          clear n0_ n1_
          have p256 : 0 ≤ ((ji7) : Int) := zoA
          have q256 : (ji7) < (x3_1.length : Int) := zoA
          obtain ⟨ad256, e256, hx256_0⟩ := Kd.at_int (Kd.R_reads' HO_3.out).2.2 (ji7) p256 q256
          cases e256
          replace p256 := eq_true p256
          replace q256 := eq_true q256
          have p257 : 0 ≤ (x4_1 : Int) := zoA
          have q257 : x4_1 < (x3_1.length : Int) := zoA
          obtain ⟨ad257, e257, hx257_0⟩ := Kd.at_int (Kd.R_reads' HO_3.out).2.2 x4_1 p257 q257
          obtain rfl : ad256 = ad257 := (by injection e257)
          replace p257 := eq_true p257
          replace q257 := eq_true q257
          refine start_ (n := 14) (S := fun w' => w'.cell? (ad256.add ((ji7)).toNat) = some (.int .i32 (rd x3_1 (ji7))) ∧ w'.cell? (ad256.add (x4_1).toNat) = some (.int .i32 (rd x3_1 x4_1))) (ds := []) #[false, false, false, false, false, false, false, false, false, false, false, false, false, false] zK rfl rfl ⟨hx256_0, hx257_0⟩ (fun hHeld => ?_); refine with_tabW arrange_Order.tab5 arrange_Order.bits5 (fun HT_ HW_ => ?_)
          generalize wr.drew = w17 at HO_3 HB hx256_0 hx257_0 hHeld ⊢
          refine pure_ (i := 0) (N := some 12) (v := ?_) (a' := ?_) #[true, false, false, false, false, false, false, false, false, false, false, false, false, false] rfl rfl (any_of HT_.out zK) (fun _ _ _ h => h) (Or.inl ⟨by rfl, ?_⟩) ?_ ?_
          rotate_left
          ·intro w'
           go_simp
           with_reducible rfl
          rotate_left
          ·simp only [Act.put, List.setIfInBounds_toArray, List.set_cons_zero, List.set_cons_succ, i64_w, i32_w]
           rfl
          refine pure_ (i := 1) (N := some 13) (v := ?_) (a' := ?_) #[true, true, false, false, false, false, false, false, false, false, false, false, false, false] rfl rfl (any_of HT_.out zK) (fun _ _ _ h => h) (Or.inl ⟨by rfl, ?_⟩) ?_ ?_
          rotate_left
          ·intro w'
           go_simp
           with_reducible rfl
          rotate_left
          ·simp only [Act.put, List.setIfInBounds_toArray, List.set_cons_zero, List.set_cons_succ, i64_w, i32_w]
           rfl
          refine pure_ (i := 2) (N := some 14) (v := ?_) (a' := ?_) #[true, true, true, false, false, false, false, false, false, false, false, false, false, false] rfl rfl (any_of HT_.out zK) (fun _ _ _ h => h) (Or.inl ⟨by rfl, ?_⟩) ?_ ?_
          rotate_left
          ·intro w'
           go_simp
           with_reducible rfl
          rotate_left
          ·simp only [Act.put, List.setIfInBounds_toArray, List.set_cons_zero, List.set_cons_succ, i64_w, i32_w]
           rfl
          refine pure_ (i := 3) (N := some 15) (v := ?_) (a' := ?_) #[true, true, true, true, false, false, false, false, false, false, false, false, false, false] rfl rfl (any_of HT_.out zK) (fun _ _ _ h => h) (Or.inl ⟨by rfl, ?_⟩) ?_ ?_
          rotate_left
          ·intro w'
           go_simp
           with_reducible rfl
          rotate_left
          ·simp only [Act.put, List.setIfInBounds_toArray, List.set_cons_zero, List.set_cons_succ, i64_w, i32_w]
           rfl
          refine pure_ (i := 4) (N := some 16) (v := ?_) (a' := ?_) #[true, true, true, true, true, false, false, false, false, false, false, false, false, false] rfl rfl (any_of HT_.out zK) (fun _ _ _ h => h) (Or.inl ⟨by rfl, ?_⟩) ?_ ?_
          rotate_left
          ·intro w'
           go_simp
           with_reducible rfl
          rotate_left
          ·simp only [Act.put, List.setIfInBounds_toArray, List.set_cons_zero, List.set_cons_succ, i64_w, i32_w]
           rfl
          refine pure_ (i := 5) (N := some 17) (v := ?_) (a' := ?_) #[true, true, true, true, true, true, false, false, false, false, false, false, false, false] rfl rfl (any_of HT_.out zK) (fun _ _ _ h => h) (Or.inl ⟨by rfl, ?_⟩) ?_ ?_
          rotate_left
          ·intro w'
           go_simp
           with_reducible rfl
          rotate_left
          ·simp only [Act.put, List.setIfInBounds_toArray, List.set_cons_zero, List.set_cons_succ, i64_w, i32_w]
           rfl
          refine pure_ (i := 6) (N := some 18) (v := ?_) (a' := ?_) #[true, true, true, true, true, true, true, false, false, false, false, false, false, false] rfl rfl (any_of HT_.out zK) (fun _ _ _ h => h) (Or.inl ⟨by rfl, ?_⟩) ?_ ?_
          rotate_left
          ·intro w'
           go_simp
           with_reducible rfl
          rotate_left
          ·simp only [Act.put, List.setIfInBounds_toArray, List.set_cons_zero, List.set_cons_succ, i64_w, i32_w]
           rfl
          refine pure_ (i := 8) (N := some 20) (v := ?_) (a' := ?_) #[true, true, true, true, true, true, true, false, true, false, false, false, false, false] rfl rfl (any_of HT_.out zK) (fun _ _ _ h => h) (Or.inl ⟨by rfl, ?_⟩) ?_ ?_
          rotate_left
          ·intro w'
           go_simp
           with_reducible rfl
          rotate_left
          ·simp only [Act.put, List.setIfInBounds_toArray, List.set_cons_zero, List.set_cons_succ, i64_w, i32_w]
           rfl
          refine pure_ (i := 9) (N := some 21) (v := ?_) (a' := ?_) #[true, true, true, true, true, true, true, false, true, true, false, false, false, false] rfl rfl (any_of HT_.out zK) (fun _ _ _ h => h) (Or.inl ⟨by rfl, ?_⟩) ?_ ?_
          rotate_left
          ·intro w'
           go_simp
           with_reducible rfl
          rotate_left
          ·simp only [Act.put, List.setIfInBounds_toArray, List.set_cons_zero, List.set_cons_succ, i64_w, i32_w]
           rfl
          refine pure_ (i := 10) (N := some 22) (v := ?_) (a' := ?_) #[true, true, true, true, true, true, true, false, true, true, true, false, false, false] rfl rfl (any_of HT_.out zK) (fun _ _ _ h => h) (Or.inl ⟨by rfl, ?_⟩) ?_ ?_
          rotate_left
          ·intro w'
           go_simp
           with_reducible rfl
          rotate_left
          ·simp only [Act.put, List.setIfInBounds_toArray, List.set_cons_zero, List.set_cons_succ, i64_w, i32_w]
           rfl
          refine take_ (i := 7) (N := some 19) (v := ?_) (a' := ?_) #[true, true, true, true, true, true, true, true, true, true, true, false, false, false] rfl rfl (take_ofW HT_.out HW_.out zK) (fun _ _ _ h => h) (Or.inl ⟨by rfl, ?_⟩) hHeld ?_ ?_
          rotate_left
          ·rintro w' ⟨s0, s1⟩
           go_simp
           with_reducible rfl
          rotate_left
          ·simp only [Act.put, List.setIfInBounds_toArray, List.set_cons_zero, List.set_cons_succ, i64_w, i32_w]
           rfl
          refine take_ (i := 11) (N := some 23) (v := ?_) (a' := ?_) #[true, true, true, true, true, true, true, true, true, true, true, true, false, false] rfl rfl (take_ofW HT_.out HW_.out zK) (fun _ _ _ h => h) (Or.inl ⟨by rfl, ?_⟩) hHeld ?_ ?_
          rotate_left
          ·rintro w' ⟨s0, s1⟩
           go_simp
           with_reducible rfl
          rotate_left
          ·simp only [Act.put, List.setIfInBounds_toArray, List.set_cons_zero, List.set_cons_succ, i64_w, i32_w]
           rfl
          refine one_ (i := 12) (N := some 24) #[true, true, true, true, true, true, true, true, true, true, true, true, true, false] rfl rfl (one_of HT_.out zK) (by decide) (fun K hK => ?_)
          refine goes_ Try.func68 zK rfl #[.int .i32 (rd x3_1 (ji7)), .int .i32 (rd x3_1 x4_1)] (by rfl) rfl rfl (by (try simp only [List.map_toArray, List.map_cons, List.map_nil]); first | done | (simp only [hji7]; rfl) | rfl | (simp only [List.length_drop, List.length_take]; rfl)) ?_
          with_reducible refine (arrange_wrong.calls k1 (rd x3_1 (ji7)) (rd x3_1 x4_1) true _ A12.out).mono ?_
          rintro e w' ⟨rfl, ⟨nd, rfl⟩⟩
          refine ⟨_, rfl, ?_⟩
          refine hK.out _ _ ⟨hHeld.1, hHeld.2⟩ (fun hHeld => ?_)
          clear hK K
          refine norm_ (a' := ?_) ?_ ?_
          rotate_left
          ·show Act.put _ (some 24) _ = _
           simp only [Act.put, List.setIfInBounds_toArray, List.set_cons_zero, List.set_cons_succ, i64_w, i32_w]
           rfl
          refine pure_ (i := 13) (N := some 25) (v := ?_) (a' := ?_) #[true, true, true, true, true, true, true, true, true, true, true, true, true, true] rfl rfl (any_of HT_.out zK) (fun _ _ _ h => h) (Or.inl ⟨by rfl, ?_⟩) ?_ ?_
          rotate_left
          ·intro w'
           go_simp
           with_reducible rfl
          rotate_left
          ·simp only [Act.put, List.setIfInBounds_toArray, List.set_cons_zero, List.set_cons_succ, i64_w, i32_w]
           rfl
          refine done_ (done_of HT_.out zK) ?_
          try go_wp2
          (try (rw [drewN_self w17]; generalize hq_ : World.drewN w17 _ = w17; have n0_ : Aside0 (Kd.R (Kd.int .i32) 21 w17 w.heap.size (fun _ => True) (.slice (some ad256) x3_1.length co16) x3_1) := ⟨by rw [← hq_]; exact (zR HO_3)⟩; have n1_ : Aside0 (Below w.heap.size w w17) := ⟨by rw [← hq_]; exact zB⟩; clear HO_3 HB hq_; have HO_3 := n0_; have HB := n1_; clear n0_ n1_))
          have n0_ := aM (Kd.R_drew HO_3.out)
          have n1_ := aM (bD HB.out)
          clear HO_3
          clear HB
          have HO_3 := n0_
          have HB := n1_
          clear n0_ n1_
          have p259 : 0 ≤ (x4_1 : Int) := zoA
          have q259 : x4_1 < (x3_1.length : Int) := zoA
          obtain ⟨ad259, e259, hx259_0⟩ := Kd.at_int (Kd.R_reads' HO_3.out).2.2 x4_1 p259 q259
          obtain rfl : ad256 = ad259 := (by injection e259)
          replace p259 := eq_true p259
          replace q259 := eq_true q259
          have p260 : 0 ≤ ((ji7) : Int) := zoA
          have q260 : (ji7) < (x3_1.length : Int) := zoA
          obtain ⟨ad260, e260, hx260_0⟩ := Kd.at_int (Kd.R_reads' HO_3.out).2.2 (ji7) p260 q260
          obtain rfl : ad256 = ad260 := (by injection e260)
          replace p260 := eq_true p260
          replace q260 := eq_true q260
          have p14 : 0 ≤ ((ji7) : Int) := zoA
          have q14 : ((ji7) : Int) < ((x3_1.length : Int) : Int) := zoA
          obtain ⟨go14, co14, eo14, gb14, gl14, cl14, HG14⟩ := Kd.R_form HO_3.out (by omega)
          (first | cases eo14 | (injection eo14 with ea_ en_ ec_; (first | subst ea_ | (injection ea_ with ea_; subst ea_)); subst ec_; clear en_))
          have GB14 := aM gb14
          have GG14 := aM HG14
          clear gb14 gl14 HG14
          (first | simp only [add_plain] at hx256_0 | skip)
          (first | simp only [add_plain] at hx257_0 | skip)
          (first | simp only [add_plain] at hx259_0 | skip)
          (first | simp only [add_plain] at hx260_0 | skip)
          obtain ⟨hx14_0, hf14_0⟩ := Kd.R_celln 0 HO_3.out ((ji7) : Int) p14 q14
          replace p14 := eq_true p14
          replace q14 := eq_true q14
          have HP19 := Kd.R_putn HO_3.out ((ji7) : Int) (rd x3_1 x4_1)
          rw [← Ny261.out] at HP19
          have HQ19 := aM HP19
          clear HP19
          have p15 : 0 ≤ (x4_1 : Int) := zoA
          have q15 : (x4_1 : Int) < ((x3_1.length : Int) : Int) := zoA
          obtain ⟨hx15_0, hf15_0⟩ := Kd.R_celln 0 HQ19.out (x4_1 : Int) p15 q15
          replace p15 := eq_true p15
          replace q15 := eq_true q15
          have HP20 := Kd.R_putn HQ19.out (x4_1 : Int) (rd x3_1 (ji7))
          rw [← Ny262.out] at HP20
          have HQ20 := aM HP20
          clear HP20
          refine start_ (n := 18) (S := fun w' => w'.cell? ⟨go14, (x4_1).toNat, none⟩ = some (.int .i32 (rd x3_1 x4_1)) ∧ w'.cell? ⟨go14, ((ji7)).toNat, none⟩ = some (.int .i32 (rd x3_1 (ji7)))) (ds := [15, 17]) #[false, false, false, false, false, false, false, false, false, false, false, false, false, false, false, false, false, false] zK rfl rfl ⟨hx259_0, hx260_0⟩ (fun hHeld => ?_); refine with_tabW arrange_Order.tab6 arrange_Order.bits6 (fun HT_ HW_ => ?_)
          generalize w17.drew = w18 at HO_3 HB GG14 HQ19 HQ20 hf14_0 hf15_0 hx14_0 hx15_0 hx256_0 hx257_0 hx259_0 hx260_0 hHeld ⊢
          refine pure_ (i := 0) (N := some 26) (v := ?_) (a' := ?_) #[true, false, false, false, false, false, false, false, false, false, false, false, false, false, false, false, false, false] rfl rfl (any_of HT_.out zK) (fun _ _ _ h => h) (Or.inl ⟨by rfl, ?_⟩) ?_ ?_
          rotate_left
          ·intro w'
           go_simp
           with_reducible rfl
          rotate_left
          ·simp only [Act.put, List.setIfInBounds_toArray, List.set_cons_zero, List.set_cons_succ, i64_w, i32_w]
           rfl
          refine pure_ (i := 1) (N := some 27) (v := ?_) (a' := ?_) #[true, true, false, false, false, false, false, false, false, false, false, false, false, false, false, false, false, false] rfl rfl (any_of HT_.out zK) (fun _ _ _ h => h) (Or.inl ⟨by rfl, ?_⟩) ?_ ?_
          rotate_left
          ·intro w'
           go_simp
           with_reducible rfl
          rotate_left
          ·simp only [Act.put, List.setIfInBounds_toArray, List.set_cons_zero, List.set_cons_succ, i64_w, i32_w]
           rfl
          refine pure_ (i := 2) (N := some 28) (v := ?_) (a' := ?_) #[true, true, true, false, false, false, false, false, false, false, false, false, false, false, false, false, false, false] rfl rfl (any_of HT_.out zK) (fun _ _ _ h => h) (Or.inl ⟨by rfl, ?_⟩) ?_ ?_
          rotate_left
          ·intro w'
           go_simp
           with_reducible rfl
          rotate_left
          ·simp only [Act.put, List.setIfInBounds_toArray, List.set_cons_zero, List.set_cons_succ, i64_w, i32_w]
           rfl
          refine pure_ (i := 3) (N := some 29) (v := ?_) (a' := ?_) #[true, true, true, true, false, false, false, false, false, false, false, false, false, false, false, false, false, false] rfl rfl (any_of HT_.out zK) (fun _ _ _ h => h) (Or.inl ⟨by rfl, ?_⟩) ?_ ?_
          rotate_left
          ·intro w'
           go_simp
           with_reducible rfl
          rotate_left
          ·simp only [Act.put, List.setIfInBounds_toArray, List.set_cons_zero, List.set_cons_succ, i64_w, i32_w]
           rfl
          refine pure_ (i := 4) (N := some 30) (v := ?_) (a' := ?_) #[true, true, true, true, true, false, false, false, false, false, false, false, false, false, false, false, false, false] rfl rfl (any_of HT_.out zK) (fun _ _ _ h => h) (Or.inl ⟨by rfl, ?_⟩) ?_ ?_
          rotate_left
          ·intro w'
           go_simp
           with_reducible rfl
          rotate_left
          ·simp only [Act.put, List.setIfInBounds_toArray, List.set_cons_zero, List.set_cons_succ, i64_w, i32_w]
           rfl
          refine pure_ (i := 5) (N := some 31) (v := ?_) (a' := ?_) #[true, true, true, true, true, true, false, false, false, false, false, false, false, false, false, false, false, false] rfl rfl (any_of HT_.out zK) (fun _ _ _ h => h) (Or.inl ⟨by rfl, ?_⟩) ?_ ?_
          rotate_left
          ·intro w'
           go_simp
           with_reducible rfl
          rotate_left
          ·simp only [Act.put, List.setIfInBounds_toArray, List.set_cons_zero, List.set_cons_succ, i64_w, i32_w]
           rfl
          refine pure_ (i := 6) (N := some 32) (v := ?_) (a' := ?_) #[true, true, true, true, true, true, true, false, false, false, false, false, false, false, false, false, false, false] rfl rfl (any_of HT_.out zK) (fun _ _ _ h => h) (Or.inl ⟨by rfl, ?_⟩) ?_ ?_
          rotate_left
          ·intro w'
           go_simp
           with_reducible rfl
          rotate_left
          ·simp only [Act.put, List.setIfInBounds_toArray, List.set_cons_zero, List.set_cons_succ, i64_w, i32_w]
           rfl
          refine pure_ (i := 7) (N := some 33) (v := ?_) (a' := ?_) #[true, true, true, true, true, true, true, true, false, false, false, false, false, false, false, false, false, false] rfl rfl (any_of HT_.out zK) (fun _ _ _ h => h) (Or.inl ⟨by rfl, ?_⟩) ?_ ?_
          rotate_left
          ·intro w'
           go_simp
           with_reducible rfl
          rotate_left
          ·simp only [Act.put, List.setIfInBounds_toArray, List.set_cons_zero, List.set_cons_succ, i64_w, i32_w]
           rfl
          refine pure_ (i := 9) (N := some 35) (v := ?_) (a' := ?_) #[true, true, true, true, true, true, true, true, false, true, false, false, false, false, false, false, false, false] rfl rfl (any_of HT_.out zK) (fun _ _ _ h => h) (Or.inl ⟨by rfl, ?_⟩) ?_ ?_
          rotate_left
          ·intro w'
           go_simp
           with_reducible rfl
          rotate_left
          ·simp only [Act.put, List.setIfInBounds_toArray, List.set_cons_zero, List.set_cons_succ, i64_w, i32_w]
           rfl
          refine pure_ (i := 10) (N := some 36) (v := ?_) (a' := ?_) #[true, true, true, true, true, true, true, true, false, true, true, false, false, false, false, false, false, false] rfl rfl (any_of HT_.out zK) (fun _ _ _ h => h) (Or.inl ⟨by rfl, ?_⟩) ?_ ?_
          rotate_left
          ·intro w'
           go_simp
           with_reducible rfl
          rotate_left
          ·simp only [Act.put, List.setIfInBounds_toArray, List.set_cons_zero, List.set_cons_succ, i64_w, i32_w]
           rfl
          refine pure_ (i := 11) (N := some 37) (v := ?_) (a' := ?_) #[true, true, true, true, true, true, true, true, false, true, true, true, false, false, false, false, false, false] rfl rfl (any_of HT_.out zK) (fun _ _ _ h => h) (Or.inl ⟨by rfl, ?_⟩) ?_ ?_
          rotate_left
          ·intro w'
           go_simp
           with_reducible rfl
          rotate_left
          ·simp only [Act.put, List.setIfInBounds_toArray, List.set_cons_zero, List.set_cons_succ, i64_w, i32_w]
           rfl
          refine pure_ (i := 12) (N := some 38) (v := ?_) (a' := ?_) #[true, true, true, true, true, true, true, true, false, true, true, true, true, false, false, false, false, false] rfl rfl (any_of HT_.out zK) (fun _ _ _ h => h) (Or.inl ⟨by rfl, ?_⟩) ?_ ?_
          rotate_left
          ·intro w'
           go_simp
           with_reducible rfl
          rotate_left
          ·simp only [Act.put, List.setIfInBounds_toArray, List.set_cons_zero, List.set_cons_succ, i64_w, i32_w]
           rfl
          refine take_ (i := 8) (N := some 34) (v := ?_) (a' := ?_) #[true, true, true, true, true, true, true, true, true, true, true, true, true, false, false, false, false, false] rfl rfl (take_ofW HT_.out HW_.out zK) (fun _ _ _ h => h) (Or.inl ⟨by rfl, ?_⟩) hHeld ?_ ?_
          rotate_left
          ·rintro w' ⟨s0, s1⟩
           go_simp
           with_reducible rfl
          rotate_left
          ·simp only [Act.put, List.setIfInBounds_toArray, List.set_cons_zero, List.set_cons_succ, i64_w, i32_w]
           rfl
          refine take_ (i := 13) (N := some 39) (v := ?_) (a' := ?_) #[true, true, true, true, true, true, true, true, true, true, true, true, true, true, false, false, false, false] rfl rfl (take_ofW HT_.out HW_.out zK) (fun _ _ _ h => h) (Or.inl ⟨by rfl, ?_⟩) hHeld ?_ ?_
          rotate_left
          ·rintro w' ⟨s0, s1⟩
           go_simp
           with_reducible rfl
          rotate_left
          ·simp only [Act.put, List.setIfInBounds_toArray, List.set_cons_zero, List.set_cons_succ, i64_w, i32_w]
           rfl
          refine pure_ (i := 14) (N := some 40) (v := ?_) (a' := ?_) #[true, true, true, true, true, true, true, true, true, true, true, true, true, true, true, false, false, false] rfl rfl (any_of HT_.out zK) (fun _ _ _ h => h) (Or.inl ⟨by rfl, ?_⟩) ?_ ?_
          rotate_left
          ·intro w'
           go_simp
           with_reducible rfl
          rotate_left
          ·simp only [Act.put, List.setIfInBounds_toArray, List.set_cons_zero, List.set_cons_succ, i64_w, i32_w]
           rfl
          refine last_ (i := 15) (N := none) #[true, true, true, true, true, true, true, true, true, true, true, true, true, true, true, true, false, false] rfl rfl (one_of HT_.out zK) (by decide) (fun K hK => ?_)
          refine skip_ (w1 := ?_) (by rfl) rfl ?_ ?_
          rotate_left
          ·go_simp
           rfl
          refine hK.out _ _ ?_
          clear hK K
          refine pure_ (i := 16) (N := some 41) (v := ?_) (a' := ?_) #[true, true, true, true, true, true, true, true, true, true, true, true, true, true, true, true, true, false] rfl rfl (any_of HT_.out zK) (fun _ _ _ h => h) (Or.inl ⟨by rfl, ?_⟩) ?_ ?_
          rotate_left
          ·intro w'
           go_simp
           with_reducible rfl
          rotate_left
          ·simp only [Act.put, List.setIfInBounds_toArray, List.set_cons_zero, List.set_cons_succ, i64_w, i32_w]
           rfl
          refine last_ (i := 17) (N := none) #[true, true, true, true, true, true, true, true, true, true, true, true, true, true, true, true, true, true] rfl rfl (one_of HT_.out zK) (by decide) (fun K hK => ?_)
          refine skip_ (w1 := ?_) (by rfl) rfl ?_ ?_
          rotate_left
          ·go_simp
           rfl
          refine hK.out _ _ ?_
          clear hK K
          refine done_ (done_of HT_.out zK) ?_
          try go_wp2
          go_step3
          refine ⟨rfl, ?_⟩
          refine hK_ _ _ ?_
          go_roundg k1
          case measure => have := HK1.out; omega
          case rel => exact ⟨(y262), (ji7), (by first | rfl | (simp; done) | (simp only [← hji7] <;> (first | rfl | simp)) | (simp [*]; done)), H', ⟨by have := HK1.out; omega⟩, ⟨zR HQ20⟩, ⟨by repeat (first | (with_reducible first | exact HB.out | apply bA | apply bN | apply bD | refine below_set ?_ GB14.out | refine below_set ?_ GB14.out) | exact HB.out)⟩⟩
         ·replace c13 := Bool.eq_false_iff.mpr c13
          subst c13
          rw [if_neg (show ¬ (false = true) by decide)] at H
          have H' := aM H
          clear H
          obtain ⟨Ao21, co21, eo21⟩ := Kd.R_slice HO_3.out
          subst eo21
          try go_wp2
          have n0_ := aM (Kd.R_drew HO_3.out)
          have n1_ := aM (bD HB.out)
          clear HO_3
          clear HB
          have HO_3 := n0_
          have HB := n1_
          clear n0_ n1_
          have p256 : 0 ≤ ((ji7) : Int) := zoA
          have q256 : (ji7) < (x3_1.length : Int) := zoA
          obtain ⟨ad256, e256, hx256_0⟩ := Kd.at_int (Kd.R_reads' HO_3.out).2.2 (ji7) p256 q256
          cases e256
          replace p256 := eq_true p256
          replace q256 := eq_true q256
          have p257 : 0 ≤ (x4_1 : Int) := zoA
          have q257 : x4_1 < (x3_1.length : Int) := zoA
          obtain ⟨ad257, e257, hx257_0⟩ := Kd.at_int (Kd.R_reads' HO_3.out).2.2 x4_1 p257 q257
          obtain rfl : ad256 = ad257 := (by injection e257)
          replace p257 := eq_true p257
          replace q257 := eq_true q257
          refine start_ (n := 14) (S := fun w' => w'.cell? (ad256.add ((ji7)).toNat) = some (.int .i32 (rd x3_1 (ji7))) ∧ w'.cell? (ad256.add (x4_1).toNat) = some (.int .i32 (rd x3_1 x4_1))) (ds := []) #[false, false, false, false, false, false, false, false, false, false, false, false, false, false] zK rfl rfl ⟨hx256_0, hx257_0⟩ (fun hHeld => ?_); refine with_tabW arrange_Order.tab5 arrange_Order.bits5 (fun HT_ HW_ => ?_)
          generalize wr.drew = w22 at HO_3 HB hx256_0 hx257_0 hHeld ⊢
          refine pure_ (i := 0) (N := some 12) (v := ?_) (a' := ?_) #[true, false, false, false, false, false, false, false, false, false, false, false, false, false] rfl rfl (any_of HT_.out zK) (fun _ _ _ h => h) (Or.inl ⟨by rfl, ?_⟩) ?_ ?_
          rotate_left
          ·intro w'
           go_simp
           with_reducible rfl
          rotate_left
          ·simp only [Act.put, List.setIfInBounds_toArray, List.set_cons_zero, List.set_cons_succ, i64_w, i32_w]
           rfl
          refine pure_ (i := 1) (N := some 13) (v := ?_) (a' := ?_) #[true, true, false, false, false, false, false, false, false, false, false, false, false, false] rfl rfl (any_of HT_.out zK) (fun _ _ _ h => h) (Or.inl ⟨by rfl, ?_⟩) ?_ ?_
          rotate_left
          ·intro w'
           go_simp
           with_reducible rfl
          rotate_left
          ·simp only [Act.put, List.setIfInBounds_toArray, List.set_cons_zero, List.set_cons_succ, i64_w, i32_w]
           rfl
          refine pure_ (i := 2) (N := some 14) (v := ?_) (a' := ?_) #[true, true, true, false, false, false, false, false, false, false, false, false, false, false] rfl rfl (any_of HT_.out zK) (fun _ _ _ h => h) (Or.inl ⟨by rfl, ?_⟩) ?_ ?_
          rotate_left
          ·intro w'
           go_simp
           with_reducible rfl
          rotate_left
          ·simp only [Act.put, List.setIfInBounds_toArray, List.set_cons_zero, List.set_cons_succ, i64_w, i32_w]
           rfl
          refine pure_ (i := 3) (N := some 15) (v := ?_) (a' := ?_) #[true, true, true, true, false, false, false, false, false, false, false, false, false, false] rfl rfl (any_of HT_.out zK) (fun _ _ _ h => h) (Or.inl ⟨by rfl, ?_⟩) ?_ ?_
          rotate_left
          ·intro w'
           go_simp
           with_reducible rfl
          rotate_left
          ·simp only [Act.put, List.setIfInBounds_toArray, List.set_cons_zero, List.set_cons_succ, i64_w, i32_w]
           rfl
          refine pure_ (i := 4) (N := some 16) (v := ?_) (a' := ?_) #[true, true, true, true, true, false, false, false, false, false, false, false, false, false] rfl rfl (any_of HT_.out zK) (fun _ _ _ h => h) (Or.inl ⟨by rfl, ?_⟩) ?_ ?_
          rotate_left
          ·intro w'
           go_simp
           with_reducible rfl
          rotate_left
          ·simp only [Act.put, List.setIfInBounds_toArray, List.set_cons_zero, List.set_cons_succ, i64_w, i32_w]
           rfl
          refine pure_ (i := 5) (N := some 17) (v := ?_) (a' := ?_) #[true, true, true, true, true, true, false, false, false, false, false, false, false, false] rfl rfl (any_of HT_.out zK) (fun _ _ _ h => h) (Or.inl ⟨by rfl, ?_⟩) ?_ ?_
          rotate_left
          ·intro w'
           go_simp
           with_reducible rfl
          rotate_left
          ·simp only [Act.put, List.setIfInBounds_toArray, List.set_cons_zero, List.set_cons_succ, i64_w, i32_w]
           rfl
          refine pure_ (i := 6) (N := some 18) (v := ?_) (a' := ?_) #[true, true, true, true, true, true, true, false, false, false, false, false, false, false] rfl rfl (any_of HT_.out zK) (fun _ _ _ h => h) (Or.inl ⟨by rfl, ?_⟩) ?_ ?_
          rotate_left
          ·intro w'
           go_simp
           with_reducible rfl
          rotate_left
          ·simp only [Act.put, List.setIfInBounds_toArray, List.set_cons_zero, List.set_cons_succ, i64_w, i32_w]
           rfl
          refine pure_ (i := 8) (N := some 20) (v := ?_) (a' := ?_) #[true, true, true, true, true, true, true, false, true, false, false, false, false, false] rfl rfl (any_of HT_.out zK) (fun _ _ _ h => h) (Or.inl ⟨by rfl, ?_⟩) ?_ ?_
          rotate_left
          ·intro w'
           go_simp
           with_reducible rfl
          rotate_left
          ·simp only [Act.put, List.setIfInBounds_toArray, List.set_cons_zero, List.set_cons_succ, i64_w, i32_w]
           rfl
          refine pure_ (i := 9) (N := some 21) (v := ?_) (a' := ?_) #[true, true, true, true, true, true, true, false, true, true, false, false, false, false] rfl rfl (any_of HT_.out zK) (fun _ _ _ h => h) (Or.inl ⟨by rfl, ?_⟩) ?_ ?_
          rotate_left
          ·intro w'
           go_simp
           with_reducible rfl
          rotate_left
          ·simp only [Act.put, List.setIfInBounds_toArray, List.set_cons_zero, List.set_cons_succ, i64_w, i32_w]
           rfl
          refine pure_ (i := 10) (N := some 22) (v := ?_) (a' := ?_) #[true, true, true, true, true, true, true, false, true, true, true, false, false, false] rfl rfl (any_of HT_.out zK) (fun _ _ _ h => h) (Or.inl ⟨by rfl, ?_⟩) ?_ ?_
          rotate_left
          ·intro w'
           go_simp
           with_reducible rfl
          rotate_left
          ·simp only [Act.put, List.setIfInBounds_toArray, List.set_cons_zero, List.set_cons_succ, i64_w, i32_w]
           rfl
          refine take_ (i := 7) (N := some 19) (v := ?_) (a' := ?_) #[true, true, true, true, true, true, true, true, true, true, true, false, false, false] rfl rfl (take_ofW HT_.out HW_.out zK) (fun _ _ _ h => h) (Or.inl ⟨by rfl, ?_⟩) hHeld ?_ ?_
          rotate_left
          ·rintro w' ⟨s0, s1⟩
           go_simp
           with_reducible rfl
          rotate_left
          ·simp only [Act.put, List.setIfInBounds_toArray, List.set_cons_zero, List.set_cons_succ, i64_w, i32_w]
           rfl
          refine take_ (i := 11) (N := some 23) (v := ?_) (a' := ?_) #[true, true, true, true, true, true, true, true, true, true, true, true, false, false] rfl rfl (take_ofW HT_.out HW_.out zK) (fun _ _ _ h => h) (Or.inl ⟨by rfl, ?_⟩) hHeld ?_ ?_
          rotate_left
          ·rintro w' ⟨s0, s1⟩
           go_simp
           with_reducible rfl
          rotate_left
          ·simp only [Act.put, List.setIfInBounds_toArray, List.set_cons_zero, List.set_cons_succ, i64_w, i32_w]
           rfl
          refine one_ (i := 12) (N := some 24) #[true, true, true, true, true, true, true, true, true, true, true, true, true, false] rfl rfl (one_of HT_.out zK) (by decide) (fun K hK => ?_)
          refine goes_ Try.func68 zK rfl #[.int .i32 (rd x3_1 (ji7)), .int .i32 (rd x3_1 x4_1)] (by rfl) rfl rfl (by (try simp only [List.map_toArray, List.map_cons, List.map_nil]); first | done | (simp only [hji7]; rfl) | rfl | (simp only [List.length_drop, List.length_take]; rfl)) ?_
          with_reducible refine (arrange_wrong.calls k1 (rd x3_1 (ji7)) (rd x3_1 x4_1) false _ A12.out).mono ?_
          rintro e w' ⟨rfl, ⟨nd, rfl⟩⟩
          refine ⟨_, rfl, ?_⟩
          refine hK.out _ _ ⟨hHeld.1, hHeld.2⟩ (fun hHeld => ?_)
          clear hK K
          refine norm_ (a' := ?_) ?_ ?_
          rotate_left
          ·show Act.put _ (some 24) _ = _
           simp only [Act.put, List.setIfInBounds_toArray, List.set_cons_zero, List.set_cons_succ, i64_w, i32_w]
           rfl
          refine pure_ (i := 13) (N := some 25) (v := ?_) (a' := ?_) #[true, true, true, true, true, true, true, true, true, true, true, true, true, true] rfl rfl (any_of HT_.out zK) (fun _ _ _ h => h) (Or.inl ⟨by rfl, ?_⟩) ?_ ?_
          rotate_left
          ·intro w'
           go_simp
           with_reducible rfl
          rotate_left
          ·simp only [Act.put, List.setIfInBounds_toArray, List.set_cons_zero, List.set_cons_succ, i64_w, i32_w]
           rfl
          refine done_ (done_of HT_.out zK) ?_
          try go_wp2
          go_step3
          refine ⟨rfl, ?_⟩
          refine hK_ _ _ ?_
          go_roundg k1
          case measure => have := HK1.out; omega
          case rel => exact ⟨(x3_1), (wrap64 (x4_1 + 1)), zP, H', ⟨by have := HK1.out; omega⟩, ⟨zR HO_3⟩, ⟨zB⟩⟩
        ·rw [if_neg c11] at H
         exact absurd H (by simp)
       ·rw [if_neg c10] at H
        exact absurd H (by simp)
      ·rw [if_neg c9] at H
       exact absurd H (by simp)
     ·rw [if_neg c8] at H
      exact absurd H (by simp)
    ·rw [if_neg c6] at H
     have c6b0 : decide (0 < x4_1) = false := decide_eq_false c6
     clear c6
     have H' := aM H
     clear H
     obtain ⟨Ao23, co23, eo23⟩ := Kd.R_slice HO_3.out
     subst eo23
     try go_wp2
     have n0_ := aM (Kd.R_drew HO_3.out)
     have n1_ := aM (bD HB.out)
     clear HO_3
     clear HB
     have HO_3 := n0_
     have HB := n1_
     clear n0_ n1_
     refine start_ (n := 14) (S := fun w' => True) (ds := []) #[false, false, false, false, false, false, false, false, false, false, false, false, false, false] zK rfl rfl trivial (fun hHeld => ?_); refine with_tabW arrange_Order.tab5 arrange_Order.bits5 (fun HT_ HW_ => ?_)
     generalize wr.drew = w24 at HO_3 HB hHeld ⊢
     refine pure_ (i := 0) (N := some 12) (v := ?_) (a' := ?_) #[true, false, false, false, false, false, false, false, false, false, false, false, false, false] rfl rfl (any_of HT_.out zK) (fun _ _ _ h => h) (Or.inl ⟨by rfl, ?_⟩) ?_ ?_
     rotate_left
     ·intro w'
      go_simp
      with_reducible rfl
     rotate_left
     ·simp only [Act.put, List.setIfInBounds_toArray, List.set_cons_zero, List.set_cons_succ, i64_w, i32_w]
      rfl
     refine pure_ (i := 1) (N := some 13) (v := ?_) (a' := ?_) #[true, true, false, false, false, false, false, false, false, false, false, false, false, false] rfl rfl (any_of HT_.out zK) (fun _ _ _ h => h) (Or.inl ⟨by rfl, ?_⟩) ?_ ?_
     rotate_left
     ·intro w'
      go_simp
      with_reducible rfl
     rotate_left
     ·simp only [Act.put, List.setIfInBounds_toArray, List.set_cons_zero, List.set_cons_succ, i64_w, i32_w]
      rfl
     refine pure_ (i := 2) (N := some 14) (v := ?_) (a' := ?_) #[true, true, true, false, false, false, false, false, false, false, false, false, false, false] rfl rfl (any_of HT_.out zK) (fun _ _ _ h => h) (Or.inl ⟨by rfl, ?_⟩) ?_ ?_
     rotate_left
     ·intro w'
      go_simp
      with_reducible rfl
     rotate_left
     ·simp only [Act.put, List.setIfInBounds_toArray, List.set_cons_zero, List.set_cons_succ, i64_w, i32_w]
      rfl
     refine pure_ (i := 3) (N := some 15) (v := undef) (a' := ?_) #[true, true, true, true, false, false, false, false, false, false, false, false, false, false] rfl rfl (any_of HT_.out zK) (fun _ _ _ h => h) (Or.inr ⟨by rfl, rfl⟩) ?_ ?_
     rotate_left
     ·simp only [Act.put, List.setIfInBounds_toArray, List.set_cons_zero, List.set_cons_succ, i64_w, i32_w]
      rfl
     refine pure_ (i := 4) (N := some 16) (v := undef) (a' := ?_) #[true, true, true, true, true, false, false, false, false, false, false, false, false, false] rfl rfl (any_of HT_.out zK) (fun _ _ _ h => h) (Or.inr ⟨by rfl, rfl⟩) ?_ ?_
     rotate_left
     ·simp only [Act.put, List.setIfInBounds_toArray, List.set_cons_zero, List.set_cons_succ, i64_w, i32_w]
      rfl
     refine pure_ (i := 5) (N := some 17) (v := undef) (a' := ?_) #[true, true, true, true, true, true, false, false, false, false, false, false, false, false] rfl rfl (any_of HT_.out zK) (fun _ _ _ h => h) (Or.inr ⟨by rfl, rfl⟩) ?_ ?_
     rotate_left
     ·simp only [Act.put, List.setIfInBounds_toArray, List.set_cons_zero, List.set_cons_succ, i64_w, i32_w]
      rfl
     refine pure_ (i := 6) (N := some 18) (v := undef) (a' := ?_) #[true, true, true, true, true, true, true, false, false, false, false, false, false, false] rfl rfl (any_of HT_.out zK) (fun _ _ _ h => h) (Or.inr ⟨by rfl, rfl⟩) ?_ ?_
     rotate_left
     ·simp only [Act.put, List.setIfInBounds_toArray, List.set_cons_zero, List.set_cons_succ, i64_w, i32_w]
      rfl
     refine pure_ (i := 7) (N := some 19) (v := undef) (a' := ?_) #[true, true, true, true, true, true, true, true, false, false, false, false, false, false] rfl rfl (any_of HT_.out zK) (fun _ _ _ h => h) (Or.inr ⟨by rfl, rfl⟩) ?_ ?_
     rotate_left
     ·simp only [Act.put, List.setIfInBounds_toArray, List.set_cons_zero, List.set_cons_succ, i64_w, i32_w]
      rfl
     refine pure_ (i := 8) (N := some 20) (v := undef) (a' := ?_) #[true, true, true, true, true, true, true, true, true, false, false, false, false, false] rfl rfl (any_of HT_.out zK) (fun _ _ _ h => h) (Or.inr ⟨by rfl, rfl⟩) ?_ ?_
     rotate_left
     ·simp only [Act.put, List.setIfInBounds_toArray, List.set_cons_zero, List.set_cons_succ, i64_w, i32_w]
      rfl
     refine pure_ (i := 9) (N := some 21) (v := undef) (a' := ?_) #[true, true, true, true, true, true, true, true, true, true, false, false, false, false] rfl rfl (any_of HT_.out zK) (fun _ _ _ h => h) (Or.inr ⟨by rfl, rfl⟩) ?_ ?_
     rotate_left
     ·simp only [Act.put, List.setIfInBounds_toArray, List.set_cons_zero, List.set_cons_succ, i64_w, i32_w]
      rfl
     refine pure_ (i := 10) (N := some 22) (v := undef) (a' := ?_) #[true, true, true, true, true, true, true, true, true, true, true, false, false, false] rfl rfl (any_of HT_.out zK) (fun _ _ _ h => h) (Or.inr ⟨by rfl, rfl⟩) ?_ ?_
     rotate_left
     ·simp only [Act.put, List.setIfInBounds_toArray, List.set_cons_zero, List.set_cons_succ, i64_w, i32_w]
      rfl
     refine pure_ (i := 11) (N := some 23) (v := undef) (a' := ?_) #[true, true, true, true, true, true, true, true, true, true, true, true, false, false] rfl rfl (any_of HT_.out zK) (fun _ _ _ h => h) (Or.inr ⟨by rfl, rfl⟩) ?_ ?_
     rotate_left
     ·simp only [Act.put, List.setIfInBounds_toArray, List.set_cons_zero, List.set_cons_succ, i64_w, i32_w]
      rfl
     refine pure_ (i := 12) (N := some 24) (v := undef) (a' := ?_) #[true, true, true, true, true, true, true, true, true, true, true, true, true, false] rfl rfl (any_of HT_.out zK) (fun _ _ _ h => h) (Or.inr ⟨by rfl, rfl⟩) ?_ ?_
     rotate_left
     ·simp only [Act.put, List.setIfInBounds_toArray, List.set_cons_zero, List.set_cons_succ, i64_w, i32_w]
      rfl
     refine pure_ (i := 13) (N := some 25) (v := ?_) (a' := ?_) #[true, true, true, true, true, true, true, true, true, true, true, true, true, true] rfl rfl (any_of HT_.out zK) (fun _ _ _ h => h) (Or.inl ⟨by rfl, ?_⟩) ?_ ?_
     rotate_left
     ·intro w'
      go_simp
      with_reducible rfl
     rotate_left
     ·simp only [Act.put, List.setIfInBounds_toArray, List.set_cons_zero, List.set_cons_succ, i64_w, i32_w]
      rfl
     refine done_ (done_of HT_.out zK) ?_
     try go_wp2
     go_step3
     refine ⟨rfl, ?_⟩
     refine hK_ _ _ ?_
     go_roundg k1
     case measure => have := HK1.out; omega
     case rel => exact ⟨(x3_1), (wrap64 (x4_1 + 1)), zP, H', ⟨by have := HK1.out; omega⟩, ⟨zR HO_3⟩, ⟨zB⟩⟩

end Go.Proofs.Ytncppcjobimilaa.P
