-- Printed by wip/mk.py (this session's driver over the kit's print) and from wip/manual.
import Derived.Test.YtoadfanppajhhaaDoorP0
import Derived.Test.YtoadfanppajhhaaDoorP1
import Derived.Test.YtoadfanppajhhaaDoorP2
namespace Go.Proofs.YtoadfanppajhhaaDoor.P
open Go.RowKit Go.Proofs.YtoadfanppajhhaaDoorW.PrintWords Go.Proofs.YtoadfanppajhhaaDoorW.PrintLast Go.Proofs.YtoadfanppajhhaaDoorW.PrintMore
attribute [local go_sem] run_store_float run_store_complex max2_int min2_int max_two min_two max_three min_three max_four min_four   -- for this text's walks alone
set_option linter.unusedVariables false
set_option linter.unusedSimpArgs false

/-! ### toponymlaw14_GaussTurns: function 7 -/
def toponymlaw14_GaussTurns.j0 : Nat → Nat → Nat → Nat → Nat → Option (Bool)
 | 0, _, _, _, _ => none
 | k + 1, x304000, x304001, x305000, x305001 => (toponymlaw14_Two_z.f x304000 x304001).bind fun t314 => ((toponymlaw14_Two_z.f x305000 x305001).bind fun t315 => ((gauss_Times.f k t314 t315).bind fun bt316 => (if bt316.2 = 0 then ((toponymlaw14_Two_z.f x305000 x305001).bind fun t319 => ((toponymlaw14_Two_z.f x304000 x304001).bind fun t320 => ((gauss_Times.f k t319 t320).bind fun bt321 => (if (Go.FloatKind.f64.format.order bt321.1.1 bt316.1.1 == some .eq && Go.FloatKind.f64.format.order bt321.1.2 bt316.1.2 == some .eq) = true then (if bt321.2 = 0 then ((gauss_Norm.f bt316.1).bind fun t323 => ((toponymlaw14_Two_z.f x304000 x304001).bind fun t324 => ((gauss_Norm.f t324).bind fun t325 => ((toponymlaw14_Two_z.f x305000 x305001).bind fun t326 => ((gauss_Norm.f t326).bind fun t327 => (if t323 = (wrap64 (t325 * t327)) then ((toponymlaw14_awake.f k).bind fun t328 => (some t328)) else (some false))))))) else (some false)) else (some false))))) else (if (Go.FloatKind.f64.format.order bt316.1.1 0 == some .eq && Go.FloatKind.f64.format.order bt316.1.2 0 == some .eq) = true then ((toponymlaw14_awake.f k).bind fun t318 => (some t318)) else (some false)))))
def toponymlaw14_GaussTurns.f (k : Nat) (a0_0 : Nat) (a0_1 : Nat) (a1_0 : Nat) (a1_1 : Nat) (a2 : Int) : Option (Bool) := (toponymlaw14_Two_z.f a0_0 a0_1).bind fun t305 => ((gauss_Turn.f t305 a2).bind fun bt306 => (if bt306.2 = 0 then ((gauss_Turn.f bt306.1 (wrap64 (4 - (Int.tmod a2 4)))).bind fun bt308 => (if bt308.2 = 0 then ((toponymlaw14_Two_z.f a0_0 a0_1).bind fun t310 => (if ((Go.FloatKind.f64.format.order bt308.1.1 t310.1 == some .eq && Go.FloatKind.f64.format.order bt308.1.2 t310.2 == some .eq) = true) then ((gauss_Norm.f bt306.1).bind fun t311 => ((toponymlaw14_Two_z.f a0_0 a0_1).bind fun t312 => ((gauss_Norm.f t312).bind fun t313 => (if t311 = t313 then (toponymlaw14_GaussTurns.j0 k a0_0 a0_1 a1_0 a1_1) else (some false))))) else (some false))) else (some false))) else (toponymlaw14_GaussTurns.j0 k a0_0 a0_1 a1_0 a1_1)))
theorem toponymlaw14_GaussTurns.mono_l : ∀ k, (∀ y0 y1 y2 y3, LeO (toponymlaw14_GaussTurns.j0 k y0 y1 y2 y3) (toponymlaw14_GaussTurns.j0 (k + 1) y0 y1 y2 y3))
 | 0 => fun _ _ _ _ r h => by simp [toponymlaw14_GaussTurns.j0] at h
 | k + 1 => by
  have ih0 := toponymlaw14_GaussTurns.mono_l k
  ·intro y0 y1 y2 y3
   unfold toponymlaw14_GaussTurns.j0
   repeat' first
   | (with_reducible exact ih0 _ _ _ _)
   | (with_reducible exact gauss_Times.mono _ _ _)
   | (with_reducible exact toponymlaw14_awake.mono _)
   | (with_reducible exact LeO.refl _)
   | exact ih0 _ _ _ _
   | exact gauss_Times.mono _ _ _
   | exact toponymlaw14_awake.mono _
   | exact LeO.none _
   | refine LeO.ite ?_ ?_
   | refine LeO.bind ?_ (fun _ => ?_)
theorem toponymlaw14_GaussTurns.mono : ∀ a0 a1 a2 a3 a4 k, LeO (toponymlaw14_GaussTurns.f k a0 a1 a2 a3 a4) (toponymlaw14_GaussTurns.f (k + 1) a0 a1 a2 a3 a4) := by
 intro a0 a1 a2 a3 a4 k
 have ih0 := toponymlaw14_GaussTurns.mono_l k
 unfold toponymlaw14_GaussTurns.f
 repeat' first
   | (with_reducible exact ih0 _ _ _ _)
   | (with_reducible exact gauss_Times.mono _ _ _)
   | (with_reducible exact toponymlaw14_awake.mono _)
   | (with_reducible exact LeO.refl _)
   | exact ih0 _ _ _ _
   | exact gauss_Times.mono _ _ _
   | exact toponymlaw14_awake.mono _
   | exact LeO.none _
   | refine LeO.ite ?_ ?_
   | refine LeO.bind ?_ (fun _ => ?_)
def toponymlaw14_GaussTurns.T5 : Bool × List (List Nat × List Nat) := (true, [([], []), ([0], [0]), ([1], [1]), ([2], [2]), ([2], [2]), ([4, 2, 2], [2, 4]), ([3, 5, 2], [2, 3, 5]), ([2, 6], [2, 6]), ([7, 5], [7]), ([8], [8]), ([9, 8, 8], [8, 9]), ([8], [8]), ([11, 10, 8], [8, 11]), ([12, 12, 8], [8, 12]), ([10, 13, 8], [8, 10, 13]), ([8, 14], [8, 14])])
def toponymlaw14_GaussTurns.B5 : List Nat := [0, 1, 3, 7, 7, 23, 63, 127, 255, 511, 1023, 511, 4095, 8191, 16383, 32767]
theorem toponymlaw14_GaussTurns.tab5 : rtab .any (opsOf Tryd.f7 5) = toponymlaw14_GaussTurns.T5 := zK
theorem toponymlaw14_GaussTurns.bits5 : waitsOk toponymlaw14_GaussTurns.T5.2 toponymlaw14_GaussTurns.B5 = true := zK
def toponymlaw14_GaussTurns.T7 : Bool × List (List Nat × List Nat) := (true, [([], []), ([0], [0]), ([], []), ([2, 1], [2]), ([1, 3, 3], [1, 3]), ([4], [4]), ([5], [5]), ([5], [5]), ([6, 4, 0, 1, 2, 3, 4, 5, 6], [6]), ([7, 8, 0, 1, 2, 3, 4, 5, 6, 7, 8], [7])])
def toponymlaw14_GaussTurns.B7 : List Nat := [0, 1, 0, 7, 15, 31, 63, 63, 127, 511]
theorem toponymlaw14_GaussTurns.tab7 : rtab .any (opsOf Tryd.f7 7) = toponymlaw14_GaussTurns.T7 := zK
theorem toponymlaw14_GaussTurns.bits7 : waitsOk toponymlaw14_GaussTurns.T7.2 toponymlaw14_GaussTurns.B7 = true := zK
def toponymlaw14_GaussTurns.T10 : Bool × List (List Nat × List Nat) := (true, [([], []), ([0], [0]), ([], []), ([2, 1], [2]), ([1, 3, 3], [1, 3]), ([4], [4]), ([5], [5]), ([5], [5]), ([6, 4, 0, 1, 2, 3, 4, 5, 6], [6]), ([7, 8, 0, 1, 2, 3, 4, 5, 6, 7, 8], [7])])
def toponymlaw14_GaussTurns.B10 : List Nat := [0, 1, 0, 7, 15, 31, 63, 63, 127, 511]
theorem toponymlaw14_GaussTurns.tab10 : rtab .any (opsOf Tryd.f7 10) = toponymlaw14_GaussTurns.T10 := zK
theorem toponymlaw14_GaussTurns.bits10 : waitsOk toponymlaw14_GaussTurns.T10.2 toponymlaw14_GaussTurns.B10 = true := zK
def toponymlaw14_GaussTurns.T11 : Bool × List (List Nat × List Nat) := (true, [([], []), ([], []), ([0, 1], [0, 1]), ([2], [2]), ([3], [3]), ([4, 3], [3, 4]), ([3, 5], [3, 5]), ([6, 3], [6]), ([7], [7]), ([8, 7, 7], [7, 8]), ([7], [7]), ([10, 9, 7], [7, 10]), ([11, 11, 7], [7, 11]), ([7], [7]), ([13, 12, 7], [7, 13]), ([14, 14, 7], [7, 14]), ([12, 15, 7], [7, 12, 15]), ([9, 16, 7], [7, 9, 16]), ([7, 17], [7, 17]), ([18, 15], [18]), ([19, 19], [19]), ([19, 20], [19, 20]), ([21, 20, 0, 1, 2, 3, 4, 5, 6, 7, 8, 9, 10, 11, 12, 13, 14, 15, 16, 17, 18, 19, 20, 21], [21])])
def toponymlaw14_GaussTurns.B11 : List Nat := [0, 0, 3, 7, 15, 31, 63, 127, 255, 511, 255, 2047, 4095, 255, 16383, 32767, 65535, 131071, 262143, 524287, 1048575, 2097151, 4194303]
theorem toponymlaw14_GaussTurns.tab11 : rtab .any (opsOf Tryd.f7 11) = toponymlaw14_GaussTurns.T11 := zK
theorem toponymlaw14_GaussTurns.bits11 : waitsOk toponymlaw14_GaussTurns.T11.2 toponymlaw14_GaussTurns.B11 = true := zK
set_option maxHeartbeats 8000000 in
set_option maxRecDepth 100000 in
theorem toponymlaw14_GaussTurns.calls (k : Nat) (a0_0 : Nat) (a0_1 : Nat) (a1_0 : Nat) (a1_1 : Nat) (a2 : Int) (r : Bool) (w : World) (hE : Env w) (h : toponymlaw14_GaussTurns.f k a0_0 a0_1 a1_0 a1_1 a2 = some r) (hT_ : r = true) :
  Calls Tryd.prog 7 #[.agg #[.float .f64 a0_0, .float .f64 a0_1], .agg #[.float .f64 a1_0, .float .f64 a1_1], .int .i64 a2] w fun e w' => e = .returned (.bool r) ∧ Below w.heap.size w w' := by
 have hT := aM hT_
 clear hT_
 have HE := aM hE
 clear hE
 have hu24 := Tryd.underlying24
 have HB := aM (Below.refl w.heap.size w)
 have H := h
 clear h
 unfold toponymlaw14_GaussTurns.f at H
 obtain ⟨t305, A4, H⟩ := zO H
 obtain ⟨⟨t306, t307⟩, A5, H⟩ := zO H
 try dsimp only at H
 have HC6 := aM H
 clear H
 go_enter Tryd.func7, Tryd.ntmps7
 go_upto_if 24 with (first | ((with_reducible refine gate_dst (N := 3) rfl ?_); refine box_event ?hg (N := 3) ?hd (cs := #[.float .f64 a0_0, .float .f64 a0_1]) (t := 24) ?hr ?_; (case hd => rfl); (case hg => rfl); (case hr => first | (go_simp; done) | (go_simp; rfl)); intro gb303 hg w7 hbox hb; have n_ := zI (aM (below_step zB hb)) (zI (aM (hbox)) (zI (aM ((by rw [hg]; exact (below_size zB) : w.heap.size ≤ gb303))) (aM ((by rw [hg]; exact (below_size zB) : w.heap.size ≤ gb303))))); clear HB; obtain ⟨HB, BK303, GW303, GE303⟩ := n_; clear hb hbox hg) | ((with_reducible refine gate_dst (N := 4) rfl ?_); refine box_event ?hg (N := 4) ?hd (cs := #[.float .f64 a1_0, .float .f64 a1_1]) (t := 24) ?hr ?_; (case hd => rfl); (case hg => rfl); (case hr => first | (go_simp; done) | (go_simp; rfl)); intro gb304 hg w8 hbox hb; have n_ := zI (aM (blk_below (g := gb303) (o := .cells #[.float .f64 a0_0, .float .f64 a0_1] 24 (0, 0)) (by (with_reducible repeat (first | refine blk_drewN ?_ _ | refine blk_drew ?_ | refine blk_alloc ?_ _)); exact BK303.out) hb)) (zI (aM (below_step (by repeat (first | (with_reducible first | exact HB.out | apply bA | apply bN | apply bD | refine below_set ?_ GE303.out) | exact HB.out)) hb)) (zI (aM (hbox)) (zI (aM ((by rw [hg]; exact (below_size (by repeat (first | (with_reducible first | exact HB.out | apply bA | apply bN | apply bD | refine below_set ?_ GE303.out) | exact HB.out))) : w.heap.size ≤ gb304))) (zI (aM ((by rw [hg]; exact (below_size (by repeat (first | (with_reducible first | exact HB.out | apply bA | apply bN | apply bD | refine below_set ?_ GE303.out) | exact HB.out))) : w.heap.size ≤ gb304))) (zI (aM ((by rw [hg]; exact Nat.ne_of_lt (blk_lt (g := gb303) (o := .cells #[.float .f64 a0_0, .float .f64 a0_1] 24 (0, 0)) (by (with_reducible repeat (first | refine blk_drewN ?_ _ | refine blk_drew ?_ | refine blk_alloc ?_ _)); exact BK303.out)) : gb303 ≠ gb304))) (aM ((by rw [hg]; exact Nat.ne_of_gt (blk_lt (g := gb303) (o := .cells #[.float .f64 a0_0, .float .f64 a0_1] 24 (0, 0)) (by (with_reducible repeat (first | refine blk_drewN ?_ _ | refine blk_drew ?_ | refine blk_alloc ?_ _)); exact BK303.out)) : gb304 ≠ gb303)))))))); clear BK303 HB; obtain ⟨BK303, HB, BK304, GW304, GE304, NB303_304, NB304_303⟩ := n_; clear hb hbox hg; have hnb9 := NB303_304.out; have hnc9 := NB304_303.out; have hcz10_0 : w8.cell? ⟨gb303, 0, none⟩ = some (.float .f64 a0_0) := (blk_cell BK303.out 0).trans rfl; have hcz10_1 : w8.cell? ⟨gb303, 1, none⟩ = some (.float .f64 a0_1) := (blk_cell BK303.out 1).trans rfl; have hfz10_0 := blk_frozen BK303.out 0; have hfz10_1 := blk_frozen BK303.out 1) | ((with_reducible refine gate_callee (f := 10) rfl ?_); refine goesL_ (some 18) rfl rfl Tryd.func10 zK rfl #[.agg #[.float .f64 a0_0, .float .f64 a0_1]] rfl zM ?_; (with_reducible refine (toponymlaw14_Two_z.calls a0_0 a0_1 t305 _ A4.out).mono ?_); rintro e w11 ⟨rfl, hb⟩; refine ⟨_, rfl, ?_⟩; have n_ := zI (aM (blk_below (g := gb303) (o := .cells #[.float .f64 a0_0, .float .f64 a0_1] 24 (0, 0)) (by (with_reducible repeat (first | refine blk_drewN ?_ _ | refine blk_drew ?_ | refine blk_alloc ?_ _)); exact BK303.out) hb)) (zI (aM (blk_below (g := gb304) (o := .cells #[.float .f64 a1_0, .float .f64 a1_1] 24 (0, 0)) (by (with_reducible repeat (first | refine blk_drewN ?_ _ | refine blk_drew ?_ | refine blk_alloc ?_ _)); exact BK304.out) hb)) (aM (below_step (by repeat (first | (with_reducible first | exact HB.out | apply bA | apply bN | apply bD | refine below_set ?_ GE303.out | refine below_set ?_ GE304.out) | exact HB.out)) hb))); clear BK303 BK304 HB; obtain ⟨BK303, BK304, HB⟩ := n_; (try clear hb)) | ((with_reducible refine gate_callee (f := 13) rfl ?_); refine goesL_ (some 20) rfl rfl Tryd.func13 zK rfl #[.complex .f64 t305.1 t305.2, .int .i64 a2] rfl zM ?_; (with_reducible refine (gauss_Turn.calls t305 a2 t306 t307 _ A5.out).mono ?_); rintro e w12 ⟨rfl, hb⟩; (try clear A5); refine ⟨_, rfl, ?_⟩; have n_ := zI (aM (blk_below (g := gb303) (o := .cells #[.float .f64 a0_0, .float .f64 a0_1] 24 (0, 0)) (by (with_reducible repeat (first | refine blk_drewN ?_ _ | refine blk_drew ?_ | refine blk_alloc ?_ _)); exact BK303.out) hb)) (zI (aM (blk_below (g := gb304) (o := .cells #[.float .f64 a1_0, .float .f64 a1_1] 24 (0, 0)) (by (with_reducible repeat (first | refine blk_drewN ?_ _ | refine blk_drew ?_ | refine blk_alloc ?_ _)); exact BK304.out) hb)) (aM (below_step (by repeat (first | (with_reducible first | exact HB.out | apply bA | apply bN | apply bD | refine below_set ?_ GE303.out | refine below_set ?_ GE304.out) | exact HB.out)) hb))); clear BK303 BK304 HB; obtain ⟨BK303, BK304, HB⟩ := n_; (try clear hb)))
 (try simp only [Act.put, List.setIfInBounds_toArray, List.set_cons_zero, List.set_cons_succ])
 go_cut [] (fun wc => ∃ (kq : Nat), Aside0 (toponymlaw14_GaussTurns.j0 kq a0_0 a0_1 a1_0 a1_1 = some r) ∧ Aside0 (kq ≤ k) ∧ Aside0 (wc.heap[gb303]? = some (.cells #[.float .f64 a0_0, .float .f64 a0_1] 24 (0, 0))) ∧ Aside0 (wc.heap[gb304]? = some (.cells #[.float .f64 a1_0, .float .f64 a1_1] 24 (0, 0))) ∧ Aside0 (Below w.heap.size w wc))
 case first =>
  have H := HC6.out
  clear HC6
  by_cases c13 : t307 = 0
  ·rw [if_pos c13] at H
   have c13b0 : (t307 == 0) = true := beq_iff_eq.mpr c13
   have c13b1 : (t307 != 0) = false := bne_eq_false_iff_eq.mpr c13
   clear c13
   (first | rw [c13b0] | (simp only [i64_w, i32_w]; rw [c13b0]) | skip)
   obtain ⟨⟨t308, t309⟩, A14, H⟩ := zO H
   try dsimp only at H
   by_cases c15 : t309 = 0
   ·rw [if_pos c15] at H
    have c15b0 : (t309 == 0) = true := beq_iff_eq.mpr c15
    have c15b1 : (t309 != 0) = false := bne_eq_false_iff_eq.mpr c15
    clear c15
    obtain ⟨t310, A16, H⟩ := zO H
    by_cases c17 : ((Go.FloatKind.f64.format.order t308.1 t310.1 == some .eq && Go.FloatKind.f64.format.order t308.2 t310.2 == some .eq) = true)
    ·rw [if_pos c17] at H
     have c17b0 : (Go.FloatKind.f64.format.order t308.1 t310.1 == some .eq && Go.FloatKind.f64.format.order t308.2 t310.2 == some .eq) = true := c17
     (try (have c17b1 : decide (Go.FloatKind.f64.format.order t308.1 t310.1 = some .eq && Go.FloatKind.f64.format.order t308.2 t310.2 == some .eq) = true := by simpa using c17))
     (try (have c17b2 : (Go.FloatKind.f64.format.order t308.1 t310.1 == some .eq && Go.FloatKind.f64.format.order t308.2 t310.2 == some .eq) = true := by simpa using c17))
     clear c17
     obtain ⟨t311, A18, H⟩ := zO H
     obtain ⟨t312, A19, H⟩ := zO H
     obtain ⟨t313, A20, H⟩ := zO H
     by_cases c21 : t311 = t313
     ·rw [if_pos c21] at H
      have c21b0 : (t311 == t313) = true := beq_iff_eq.mpr c21
      have c21b1 : (t311 != t313) = false := bne_eq_false_iff_eq.mpr c21
      clear c21
      have H' := aM H
      clear H
      try go_wp2_with (first | ((with_reducible refine gate_callee (f := 13) rfl ?_); refine goesL_ (some 31) rfl rfl Tryd.func13 zK rfl #[.complex .f64 t306.1 t306.2, .int .i64 (wrap64 (4 - (Int.tmod a2 4)))] rfl zM ?_; (with_reducible refine (gauss_Turn.calls t306 (wrap64 (4 - (Int.tmod a2 4))) t308 t309 _ A14.out).mono ?_); rintro e w22 ⟨rfl, hb⟩; (try clear A14); refine ⟨_, rfl, ?_⟩; have n_ := zI (aM (blk_below (g := gb303) (o := .cells #[.float .f64 a0_0, .float .f64 a0_1] 24 (0, 0)) (by (with_reducible repeat (first | refine blk_drewN ?_ _ | refine blk_drew ?_ | refine blk_alloc ?_ _)); exact BK303.out) hb)) (zI (aM (blk_below (g := gb304) (o := .cells #[.float .f64 a1_0, .float .f64 a1_1] 24 (0, 0)) (by (with_reducible repeat (first | refine blk_drewN ?_ _ | refine blk_drew ?_ | refine blk_alloc ?_ _)); exact BK304.out) hb)) (aM (below_step (by repeat (first | (with_reducible first | exact HB.out | apply bA | apply bN | apply bD | refine below_set ?_ GE303.out | refine below_set ?_ GE304.out) | exact HB.out)) hb))); clear BK303 BK304 HB; obtain ⟨BK303, BK304, HB⟩ := n_; (try clear hb)))
      have n0_ := aM (blk_drew BK303.out)
      have n1_ := aM (blk_drew BK304.out)
      have n2_ := aM (bD HB.out)
      clear BK303
      clear BK304
      clear HB
      have BK303 := n0_
      have BK304 := n1_
      have HB := n2_
      clear n0_ n1_ n2_
      refine start_ (n := 16) (S := fun w' => w'.cell? ⟨gb303, 0, none⟩ = some (.float .f64 a0_0) ∧ w'.cell? ⟨gb303, 1, none⟩ = some (.float .f64 a0_1)) (ds := []) #[false, false, false, false, false, false, false, false, false, false, false, false, false, false, false, false] zK rfl rfl ⟨(blk_cell BK303.out 0).trans rfl, (blk_cell BK303.out 1).trans rfl⟩ (fun hHeld => ?_); refine with_tabW toponymlaw14_GaussTurns.tab5 toponymlaw14_GaussTurns.bits5 (fun HT_ HW_ => ?_)
      generalize w22.drew = w23 at BK303 BK304 HB hHeld ⊢
      refine pure_ (i := 0) (N := some 34) (v := ?_) (a' := ?_) #[true, false, false, false, false, false, false, false, false, false, false, false, false, false, false, false] rfl rfl (any_of HT_.out zK) (fun _ _ _ h => h) (Or.inl ⟨by rfl, ?_⟩) ?_ ?_
      rotate_left
      ·intro w'
       go_simp
       with_reducible rfl
      rotate_left
      ·simp only [Act.put, List.setIfInBounds_toArray, List.set_cons_zero, List.set_cons_succ, i64_w, i32_w]
       rfl
      refine pure_ (i := 1) (N := some 35) (v := ?_) (a' := ?_) #[true, true, false, false, false, false, false, false, false, false, false, false, false, false, false, false] rfl rfl (any_of HT_.out zK) (fun _ _ _ h => h) (Or.inl ⟨by rfl, ?_⟩) ?_ ?_
      rotate_left
      ·intro w'
       go_simp
       with_reducible rfl
      rotate_left
      ·simp only [Act.put, List.setIfInBounds_toArray, List.set_cons_zero, List.set_cons_succ, i64_w, i32_w]
       rfl
      refine pure_ (i := 2) (N := some 36) (v := ?_) (a' := ?_) #[true, true, true, false, false, false, false, false, false, false, false, false, false, false, false, false] rfl rfl (any_of HT_.out zK) (fun _ _ _ h => h) (Or.inl ⟨by rfl, ?_⟩) ?_ ?_
      rotate_left
      ·intro w'
       go_simp
       with_reducible rfl
      rotate_left
      ·simp only [Act.put, List.setIfInBounds_toArray, List.set_cons_zero, List.set_cons_succ, i64_w, i32_w]
       rfl
      refine pure_ (i := 3) (N := some 37) (v := ?_) (a' := ?_) #[true, true, true, true, false, false, false, false, false, false, false, false, false, false, false, false] rfl rfl (any_of HT_.out zK) (fun _ _ _ h => h) (Or.inl ⟨by rfl, ?_⟩) ?_ ?_
      rotate_left
      ·intro w'
       go_simp
       with_reducible rfl
      rotate_left
      ·simp only [Act.put, List.setIfInBounds_toArray, List.set_cons_zero, List.set_cons_succ, i64_w, i32_w]
       rfl
      refine take_ (i := 4) (N := some 38) (v := ?_) (a' := ?_) #[true, true, true, true, true, false, false, false, false, false, false, false, false, false, false, false] rfl rfl (take_ofW HT_.out HW_.out zK) (fun _ _ _ h => h) (Or.inl ⟨by rfl, ?_⟩) hHeld ?_ ?_
      rotate_left
      ·rintro w' ⟨s0, s1⟩
       go_simp
       with_reducible rfl
      rotate_left
      ·simp only [Act.put, List.setIfInBounds_toArray, List.set_cons_zero, List.set_cons_succ, i64_w, i32_w]
       rfl
      refine one_ (i := 5) (N := some 39) #[true, true, true, true, true, true, false, false, false, false, false, false, false, false, false, false] rfl rfl (one_of HT_.out zK) (by decide) (fun K hK => ?_)
      refine goes_ Tryd.func10 zK rfl #[.agg #[.float .f64 a0_0, .float .f64 a0_1]] (by rfl) rfl rfl zM ?_
      with_reducible refine (toponymlaw14_Two_z.calls a0_0 a0_1 t310 _ A16.out).mono ?_
      rintro e w24 ⟨rfl, hb⟩
      refine ⟨_, rfl, ?_⟩
      have n0_ := aM (blk_below (g := gb303) (o := .cells #[.float .f64 a0_0, .float .f64 a0_1] 24 (0, 0)) (by (with_reducible repeat (first | refine blk_drewN ?_ _ | refine blk_drew ?_ | refine blk_alloc ?_ _)); exact BK303.out) hb)
      have n1_ := aM (blk_below (g := gb304) (o := .cells #[.float .f64 a1_0, .float .f64 a1_1] 24 (0, 0)) (by (with_reducible repeat (first | refine blk_drewN ?_ _ | refine blk_drew ?_ | refine blk_alloc ?_ _)); exact BK304.out) hb)
      have n2_ := aM (below_step (by repeat (first | (with_reducible first | exact HB.out | apply bA | apply bN | apply bD | refine below_set ?_ GE303.out | refine below_set ?_ GE304.out) | exact HB.out)) hb)
      clear BK303
      clear BK304
      clear HB
      have BK303 := n0_
      have BK304 := n1_
      have HB := n2_
      clear n0_ n1_ n2_
      (try clear hb)
      (try clear hb2)
      (try clear hk)
      (try clear hi)
      refine hK.out _ _ ⟨(blk_cell BK303.out 0).trans rfl, (blk_cell BK303.out 1).trans rfl⟩ (fun hHeld => ?_)
      clear hK K
      refine norm_ (a' := ?_) ?_ ?_
      rotate_left
      ·show Act.put _ (some 39) _ = _
       simp only [Act.put, List.setIfInBounds_toArray, List.set_cons_zero, List.set_cons_succ, i64_w, i32_w]
       rfl
      refine pure_ (i := 6) (N := some 40) (v := ?_) (a' := ?_) #[true, true, true, true, true, true, true, false, false, false, false, false, false, false, false, false] rfl rfl (any_of HT_.out zK) (fun _ _ _ h => h) (Or.inl ⟨by rfl, ?_⟩) ?_ ?_
      rotate_left
      ·intro w'
       go_simp
       with_reducible rfl
      rotate_left
      ·simp only [Act.put, List.setIfInBounds_toArray, List.set_cons_zero, List.set_cons_succ, i64_w, i32_w]
       rfl
      refine pure_ (i := 7) (N := some 41) (v := ?_) (a' := ?_) #[true, true, true, true, true, true, true, true, false, false, false, false, false, false, false, false] rfl rfl (any_of HT_.out zK) (fun _ _ _ h => h) (Or.inl ⟨by rfl, ?_⟩) ?_ ?_
      rotate_left
      ·intro w'
       go_simp
       with_reducible rfl
      rotate_left
      ·simp only [Act.put, List.setIfInBounds_toArray, List.set_cons_zero, List.set_cons_succ, i64_w, i32_w]
       rfl
      refine pure_ (i := 8) (N := some 42) (v := ?_) (a' := ?_) #[true, true, true, true, true, true, true, true, true, false, false, false, false, false, false, false] rfl rfl (any_of HT_.out zK) (fun _ _ _ h => h) (Or.inl ⟨by rfl, ?_⟩) ?_ ?_
      rotate_left
      ·intro w'
       go_simp
       with_reducible rfl
      rotate_left
      ·simp only [Act.put, List.setIfInBounds_toArray, List.set_cons_zero, List.set_cons_succ, i64_w, i32_w]
       rfl
      refine pure_ (i := 9) (N := some 43) (v := ?_) (a' := ?_) #[true, true, true, true, true, true, true, true, true, true, false, false, false, false, false, false] rfl rfl (any_of HT_.out zK) (fun _ _ _ h => h) (Or.inl ⟨by rfl, ?_⟩) ?_ ?_
      rotate_left
      ·intro w'
       go_simp
       with_reducible rfl
      rotate_left
      ·simp only [Act.put, List.setIfInBounds_toArray, List.set_cons_zero, List.set_cons_succ, i64_w, i32_w]
       rfl
      refine take_ (i := 11) (N := some 45) (v := ?_) (a' := ?_) #[true, true, true, true, true, true, true, true, true, true, false, true, false, false, false, false] rfl rfl (take_ofW HT_.out HW_.out zK) (fun _ _ _ h => h) (Or.inl ⟨by rfl, ?_⟩) hHeld ?_ ?_
      rotate_left
      ·rintro w' ⟨s0, s1⟩
       go_simp
       with_reducible rfl
      rotate_left
      ·simp only [Act.put, List.setIfInBounds_toArray, List.set_cons_zero, List.set_cons_succ, i64_w, i32_w]
       rfl
      refine one_ (i := 10) (N := some 44) #[true, true, true, true, true, true, true, true, true, true, true, true, false, false, false, false] rfl rfl (one_of HT_.out zK) (by decide) (fun K hK => ?_)
      refine goes_ Tryd.func18 zK rfl #[.complex .f64 t306.1 t306.2] (by rfl) rfl rfl zM ?_
      with_reducible refine (gauss_Norm.calls t306 t311 _ A18.out).mono ?_
      rintro e w25 ⟨rfl, hb⟩
      refine ⟨_, rfl, ?_⟩
      have n0_ := aM (blk_below (g := gb303) (o := .cells #[.float .f64 a0_0, .float .f64 a0_1] 24 (0, 0)) (by (with_reducible repeat (first | refine blk_drewN ?_ _ | refine blk_drew ?_ | refine blk_alloc ?_ _)); exact BK303.out) hb)
      have n1_ := aM (blk_below (g := gb304) (o := .cells #[.float .f64 a1_0, .float .f64 a1_1] 24 (0, 0)) (by (with_reducible repeat (first | refine blk_drewN ?_ _ | refine blk_drew ?_ | refine blk_alloc ?_ _)); exact BK304.out) hb)
      have n2_ := aM (below_step (by repeat (first | (with_reducible first | exact HB.out | apply bA | apply bN | apply bD | refine below_set ?_ GE303.out | refine below_set ?_ GE304.out) | exact HB.out)) hb)
      clear BK303
      clear BK304
      clear HB
      have BK303 := n0_
      have BK304 := n1_
      have HB := n2_
      clear n0_ n1_ n2_
      (try clear hb)
      (try clear hb2)
      (try clear hk)
      (try clear hi)
      refine hK.out _ _ ⟨(blk_cell BK303.out 0).trans rfl, (blk_cell BK303.out 1).trans rfl⟩ (fun hHeld => ?_)
      clear hK K
      refine norm_ (a' := ?_) ?_ ?_
      rotate_left
      ·show Act.put _ (some 44) _ = _
       simp only [Act.put, List.setIfInBounds_toArray, List.set_cons_zero, List.set_cons_succ, i64_w, i32_w]
       rfl
      refine one_ (i := 12) (N := some 46) #[true, true, true, true, true, true, true, true, true, true, true, true, true, false, false, false] rfl rfl (one_of HT_.out zK) (by decide) (fun K hK => ?_)
      refine goes_ Tryd.func10 zK rfl #[.agg #[.float .f64 a0_0, .float .f64 a0_1]] (by rfl) rfl rfl zM ?_
      with_reducible refine (toponymlaw14_Two_z.calls a0_0 a0_1 t312 _ A19.out).mono ?_
      rintro e w26 ⟨rfl, hb⟩
      refine ⟨_, rfl, ?_⟩
      have n0_ := aM (blk_below (g := gb303) (o := .cells #[.float .f64 a0_0, .float .f64 a0_1] 24 (0, 0)) (by (with_reducible repeat (first | refine blk_drewN ?_ _ | refine blk_drew ?_ | refine blk_alloc ?_ _)); exact BK303.out) hb)
      have n1_ := aM (blk_below (g := gb304) (o := .cells #[.float .f64 a1_0, .float .f64 a1_1] 24 (0, 0)) (by (with_reducible repeat (first | refine blk_drewN ?_ _ | refine blk_drew ?_ | refine blk_alloc ?_ _)); exact BK304.out) hb)
      have n2_ := aM (below_step (by repeat (first | (with_reducible first | exact HB.out | apply bA | apply bN | apply bD | refine below_set ?_ GE303.out | refine below_set ?_ GE304.out) | exact HB.out)) hb)
      clear BK303
      clear BK304
      clear HB
      have BK303 := n0_
      have BK304 := n1_
      have HB := n2_
      clear n0_ n1_ n2_
      (try clear hb)
      (try clear hb2)
      (try clear hk)
      (try clear hi)
      refine hK.out _ _ ⟨(blk_cell BK303.out 0).trans rfl, (blk_cell BK303.out 1).trans rfl⟩ (fun hHeld => ?_)
      clear hK K
      refine norm_ (a' := ?_) ?_ ?_
      rotate_left
      ·show Act.put _ (some 46) _ = _
       simp only [Act.put, List.setIfInBounds_toArray, List.set_cons_zero, List.set_cons_succ, i64_w, i32_w]
       rfl
      refine one_ (i := 13) (N := some 47) #[true, true, true, true, true, true, true, true, true, true, true, true, true, true, false, false] rfl rfl (one_of HT_.out zK) (by decide) (fun K hK => ?_)
      refine goes_ Tryd.func18 zK rfl #[.complex .f64 t312.1 t312.2] (by rfl) rfl rfl zM ?_
      with_reducible refine (gauss_Norm.calls t312 t313 _ A20.out).mono ?_
      rintro e w27 ⟨rfl, hb⟩
      refine ⟨_, rfl, ?_⟩
      have n0_ := aM (blk_below (g := gb303) (o := .cells #[.float .f64 a0_0, .float .f64 a0_1] 24 (0, 0)) (by (with_reducible repeat (first | refine blk_drewN ?_ _ | refine blk_drew ?_ | refine blk_alloc ?_ _)); exact BK303.out) hb)
      have n1_ := aM (blk_below (g := gb304) (o := .cells #[.float .f64 a1_0, .float .f64 a1_1] 24 (0, 0)) (by (with_reducible repeat (first | refine blk_drewN ?_ _ | refine blk_drew ?_ | refine blk_alloc ?_ _)); exact BK304.out) hb)
      have n2_ := aM (below_step (by repeat (first | (with_reducible first | exact HB.out | apply bA | apply bN | apply bD | refine below_set ?_ GE303.out | refine below_set ?_ GE304.out) | exact HB.out)) hb)
      clear BK303
      clear BK304
      clear HB
      have BK303 := n0_
      have BK304 := n1_
      have HB := n2_
      clear n0_ n1_ n2_
      (try clear hb)
      (try clear hb2)
      (try clear hk)
      (try clear hi)
      refine hK.out _ _ ⟨(blk_cell BK303.out 0).trans rfl, (blk_cell BK303.out 1).trans rfl⟩ (fun hHeld => ?_)
      clear hK K
      refine norm_ (a' := ?_) ?_ ?_
      rotate_left
      ·show Act.put _ (some 47) _ = _
       simp only [Act.put, List.setIfInBounds_toArray, List.set_cons_zero, List.set_cons_succ, i64_w, i32_w]
       rfl
      refine pure_ (i := 14) (N := some 48) (v := ?_) (a' := ?_) #[true, true, true, true, true, true, true, true, true, true, true, true, true, true, true, false] rfl rfl (any_of HT_.out zK) (fun _ _ _ h => h) (Or.inl ⟨by rfl, ?_⟩) ?_ ?_
      rotate_left
      ·intro w'
       go_simp
       with_reducible rfl
      rotate_left
      ·simp only [Act.put, List.setIfInBounds_toArray, List.set_cons_zero, List.set_cons_succ, i64_w, i32_w]
       rfl
      refine pure_ (i := 15) (N := some 49) (v := ?_) (a' := ?_) #[true, true, true, true, true, true, true, true, true, true, true, true, true, true, true, true] rfl rfl (any_of HT_.out zK) (fun _ _ _ h => h) (Or.inl ⟨by rfl, ?_⟩) ?_ ?_
      rotate_left
      ·intro w'
       go_simp
       with_reducible rfl
      rotate_left
      ·simp only [Act.put, List.setIfInBounds_toArray, List.set_cons_zero, List.set_cons_succ, i64_w, i32_w]
       rfl
      refine done_ (done_of HT_.out zK) ?_
      try go_wp2
      go_meet
      case rel => exact ⟨_, H', ⟨by first | omega | exact Nat.le_refl _⟩, ⟨by (with_reducible repeat (first | refine blk_drewN ?_ _ | refine blk_drew ?_ | refine blk_alloc ?_ _)); exact BK303.out⟩, ⟨by (with_reducible repeat (first | refine blk_drewN ?_ _ | refine blk_drew ?_ | refine blk_alloc ?_ _)); exact BK304.out⟩, ⟨by repeat (first | (with_reducible first | exact HB.out | apply bA | apply bN | apply bD | refine below_set ?_ GE303.out | refine below_set ?_ GE304.out) | exact HB.out)⟩⟩
     ·rw [if_neg c21] at H
      exact absurd ((sI H).trans hT.out) (by decide)
    ·rw [if_neg c17] at H
     exact absurd ((sI H).trans hT.out) (by decide)
   ·rw [if_neg c15] at H
    exact absurd ((sI H).trans hT.out) (by decide)
  ·rw [if_neg c13] at H
   have c13b0 : (t307 == 0) = false := beq_eq_false_iff_ne.mpr c13
   have c13b1 : (t307 != 0) = true := bne_iff_ne.mpr c13
   (first | rw [c13b0] | (simp only [i64_w, i32_w]; rw [c13b0]) | skip)
   have H' := aM H
   clear H
   go_wp2
   go_meet
   case rel => exact ⟨_, H', ⟨by first | omega | exact Nat.le_refl _⟩, ⟨by (with_reducible repeat (first | refine blk_drewN ?_ _ | refine blk_drew ?_ | refine blk_alloc ?_ _)); exact BK303.out⟩, ⟨by (with_reducible repeat (first | refine blk_drewN ?_ _ | refine blk_drew ?_ | refine blk_alloc ?_ _)); exact BK304.out⟩, ⟨by repeat (first | (with_reducible first | exact HB.out | apply bA | apply bN | apply bD | refine below_set ?_ GE303.out | refine below_set ?_ GE304.out) | exact HB.out)⟩⟩
 case rest =>
  clear HC6
  try clear c1
  try clear c2
  try clear p2
  try clear p6
  try clear c10
  try clear c13
  try clear c13b0
  try clear c13b1
  try clear c15
  try clear c15b0
  try clear c15b1
  try clear c17
  try clear c17b0
  try clear c17b1
  try clear c17b2
  try clear c18
  try clear c21
  try clear c21b0
  try clear c21b1
  obtain ⟨kq, HA, HJ5, BK303, BK304, HB⟩ := hcut
  cases kq with
  | zero => exact absurd HA.out (by simp [toponymlaw14_GaussTurns.j0])
  | succ kj5 =>
   have H := HA.out
   clear HA
   simp only [toponymlaw14_GaussTurns.j0] at H
   obtain ⟨t314, A39, H⟩ := zO H
   obtain ⟨t315, A40, H⟩ := zO H
   obtain ⟨⟨t316, t317⟩, A41, H⟩ := zO H
   try dsimp only at H
   by_cases c42 : t317 = 0
   ·rw [if_pos c42] at H
    have c42b0 : (t317 == 0) = true := beq_iff_eq.mpr c42
    have c42b1 : (t317 != 0) = false := bne_eq_false_iff_eq.mpr c42
    clear c42
    obtain ⟨t319, A43, H⟩ := zO H
    obtain ⟨t320, A44, H⟩ := zO H
    obtain ⟨⟨t321, t322⟩, A45, H⟩ := zO H
    try dsimp only at H
    by_cases c46 : (Go.FloatKind.f64.format.order t321.1 t316.1 == some .eq && Go.FloatKind.f64.format.order t321.2 t316.2 == some .eq) = true
    ·rw [if_pos c46] at H
     have c46b0 : (Go.FloatKind.f64.format.order t321.1 t316.1 == some .eq && Go.FloatKind.f64.format.order t321.2 t316.2 == some .eq) = true := c46
     (try (have c46b1 : decide (Go.FloatKind.f64.format.order t321.1 t316.1 = some .eq && Go.FloatKind.f64.format.order t321.2 t316.2 == some .eq) = true := by simpa using c46))
     (try (have c46b2 : (Go.FloatKind.f64.format.order t321.1 t316.1 == some .eq && Go.FloatKind.f64.format.order t321.2 t316.2 == some .eq) = true := by simpa using c46))
     clear c46
     by_cases c47 : t322 = 0
     ·rw [if_pos c47] at H
      have c47b0 : (t322 == 0) = true := beq_iff_eq.mpr c47
      have c47b1 : (t322 != 0) = false := bne_eq_false_iff_eq.mpr c47
      clear c47
      obtain ⟨t323, A48, H⟩ := zO H
      obtain ⟨t324, A49, H⟩ := zO H
      obtain ⟨t325, A50, H⟩ := zO H
      obtain ⟨t326, A51, H⟩ := zO H
      obtain ⟨t327, A52, H⟩ := zO H
      by_cases c53 : t323 = (wrap64 (t325 * t327))
      ·rw [if_pos c53] at H
       have c53b0 : (t323 == (wrap64 (t325 * t327))) = true := beq_iff_eq.mpr c53
       have c53b1 : (t323 != (wrap64 (t325 * t327))) = false := bne_eq_false_iff_eq.mpr c53
       clear c53
       obtain ⟨t328, A54, H⟩ := zO H
       obtain rfl := sI H
       try go_wp2
       have n0_ := aM (blk_drew BK303.out)
       have n1_ := aM (blk_drew BK304.out)
       have n2_ := aM (bD HB.out)
       clear BK303
       clear BK304
       clear HB
       have BK303 := n0_
       have BK304 := n1_
       have HB := n2_
       clear n0_ n1_ n2_
       refine start_ (n := 10) (S := fun w' => w'.cell? ⟨gb303, 0, none⟩ = some (.float .f64 a0_0) ∧ w'.cell? ⟨gb303, 1, none⟩ = some (.float .f64 a0_1) ∧ w'.cell? ⟨gb304, 0, none⟩ = some (.float .f64 a1_0) ∧ w'.cell? ⟨gb304, 1, none⟩ = some (.float .f64 a1_1)) (ds := []) #[false, false, false, false, false, false, false, false, false, false] zK rfl rfl ⟨(blk_cell BK303.out 0).trans rfl, (blk_cell BK303.out 1).trans rfl, (blk_cell BK304.out 0).trans rfl, (blk_cell BK304.out 1).trans rfl⟩ (fun hHeld => ?_); refine with_tabW toponymlaw14_GaussTurns.tab7 toponymlaw14_GaussTurns.bits7 (fun HT_ HW_ => ?_)
       generalize wc.drew = w55 at BK303 BK304 HB hHeld ⊢
       refine take_ (i := 0) (N := some 51) (v := ?_) (a' := ?_) #[true, false, false, false, false, false, false, false, false, false] rfl rfl (take_ofW HT_.out HW_.out zK) (fun _ _ _ h => h) (Or.inl ⟨by rfl, ?_⟩) hHeld ?_ ?_
       rotate_left
       ·rintro w' ⟨s0, s1, s2, s3⟩
        go_simp
        with_reducible rfl
       rotate_left
       ·simp only [Act.put, List.setIfInBounds_toArray, List.set_cons_zero, List.set_cons_succ, i64_w, i32_w]
        rfl
       refine take_ (i := 2) (N := some 53) (v := ?_) (a' := ?_) #[true, false, true, false, false, false, false, false, false, false] rfl rfl (take_ofW HT_.out HW_.out zK) (fun _ _ _ h => h) (Or.inl ⟨by rfl, ?_⟩) hHeld ?_ ?_
       rotate_left
       ·rintro w' ⟨s0, s1, s2, s3⟩
        go_simp
        with_reducible rfl
       rotate_left
       ·simp only [Act.put, List.setIfInBounds_toArray, List.set_cons_zero, List.set_cons_succ, i64_w, i32_w]
        rfl
       refine one_ (i := 1) (N := some 52) #[true, true, true, false, false, false, false, false, false, false] rfl rfl (one_of HT_.out zK) (by decide) (fun K hK => ?_)
       refine goes_ Tryd.func10 zK rfl #[.agg #[.float .f64 a0_0, .float .f64 a0_1]] (by rfl) rfl rfl zM ?_
       with_reducible refine (toponymlaw14_Two_z.calls a0_0 a0_1 t314 _ A39.out).mono ?_
       rintro e w56 ⟨rfl, hb⟩
       refine ⟨_, rfl, ?_⟩
       have n0_ := aM (blk_below (g := gb303) (o := .cells #[.float .f64 a0_0, .float .f64 a0_1] 24 (0, 0)) (by (with_reducible repeat (first | refine blk_drewN ?_ _ | refine blk_drew ?_ | refine blk_alloc ?_ _)); exact BK303.out) hb)
       have n1_ := aM (blk_below (g := gb304) (o := .cells #[.float .f64 a1_0, .float .f64 a1_1] 24 (0, 0)) (by (with_reducible repeat (first | refine blk_drewN ?_ _ | refine blk_drew ?_ | refine blk_alloc ?_ _)); exact BK304.out) hb)
       have n2_ := aM (below_step (by repeat (first | (with_reducible first | exact HB.out | apply bA | apply bN | apply bD | refine below_set ?_ GE303.out | refine below_set ?_ GE304.out) | exact HB.out)) hb)
       clear BK303
       clear BK304
       clear HB
       have BK303 := n0_
       have BK304 := n1_
       have HB := n2_
       clear n0_ n1_ n2_
       (try clear hb)
       (try clear hb2)
       (try clear hk)
       (try clear hi)
       refine hK.out _ _ ⟨(blk_cell BK303.out 0).trans rfl, (blk_cell BK303.out 1).trans rfl, (blk_cell BK304.out 0).trans rfl, (blk_cell BK304.out 1).trans rfl⟩ (fun hHeld => ?_)
       clear hK K
       refine norm_ (a' := ?_) ?_ ?_
       rotate_left
       ·show Act.put _ (some 52) _ = _
        simp only [Act.put, List.setIfInBounds_toArray, List.set_cons_zero, List.set_cons_succ, i64_w, i32_w]
        rfl
       refine one_ (i := 3) (N := some 54) #[true, true, true, true, false, false, false, false, false, false] rfl rfl (one_of HT_.out zK) (by decide) (fun K hK => ?_)
       refine goes_ Tryd.func10 zK rfl #[.agg #[.float .f64 a1_0, .float .f64 a1_1]] (by rfl) rfl rfl zM ?_
       with_reducible refine (toponymlaw14_Two_z.calls a1_0 a1_1 t315 _ A40.out).mono ?_
       rintro e w57 ⟨rfl, hb⟩
       refine ⟨_, rfl, ?_⟩
       have n0_ := aM (blk_below (g := gb303) (o := .cells #[.float .f64 a0_0, .float .f64 a0_1] 24 (0, 0)) (by (with_reducible repeat (first | refine blk_drewN ?_ _ | refine blk_drew ?_ | refine blk_alloc ?_ _)); exact BK303.out) hb)
       have n1_ := aM (blk_below (g := gb304) (o := .cells #[.float .f64 a1_0, .float .f64 a1_1] 24 (0, 0)) (by (with_reducible repeat (first | refine blk_drewN ?_ _ | refine blk_drew ?_ | refine blk_alloc ?_ _)); exact BK304.out) hb)
       have n2_ := aM (below_step (by repeat (first | (with_reducible first | exact HB.out | apply bA | apply bN | apply bD | refine below_set ?_ GE303.out | refine below_set ?_ GE304.out) | exact HB.out)) hb)
       clear BK303
       clear BK304
       clear HB
       have BK303 := n0_
       have BK304 := n1_
       have HB := n2_
       clear n0_ n1_ n2_
       (try clear hb)
       (try clear hb2)
       (try clear hk)
       (try clear hi)
       refine hK.out _ _ ⟨(blk_cell BK303.out 0).trans rfl, (blk_cell BK303.out 1).trans rfl, (blk_cell BK304.out 0).trans rfl, (blk_cell BK304.out 1).trans rfl⟩ (fun hHeld => ?_)
       clear hK K
       refine norm_ (a' := ?_) ?_ ?_
       rotate_left
       ·show Act.put _ (some 54) _ = _
        simp only [Act.put, List.setIfInBounds_toArray, List.set_cons_zero, List.set_cons_succ, i64_w, i32_w]
        rfl
       refine one_ (i := 4) (N := some 55) #[true, true, true, true, true, false, false, false, false, false] rfl rfl (one_of HT_.out zK) (by decide) (fun K hK => ?_)
       refine goes_ Tryd.func23 zK rfl #[.complex .f64 t314.1 t314.2, .complex .f64 t315.1 t315.2] (by rfl) rfl rfl zM ?_
       with_reducible refine (gauss_Times.calls kj5 t314 t315 t316 t317 _ A41.out).mono ?_
       rintro e w58 ⟨rfl, hb⟩
       refine ⟨_, rfl, ?_⟩
       have n0_ := aM (blk_below (g := gb303) (o := .cells #[.float .f64 a0_0, .float .f64 a0_1] 24 (0, 0)) (by (with_reducible repeat (first | refine blk_drewN ?_ _ | refine blk_drew ?_ | refine blk_alloc ?_ _)); exact BK303.out) hb)
       have n1_ := aM (blk_below (g := gb304) (o := .cells #[.float .f64 a1_0, .float .f64 a1_1] 24 (0, 0)) (by (with_reducible repeat (first | refine blk_drewN ?_ _ | refine blk_drew ?_ | refine blk_alloc ?_ _)); exact BK304.out) hb)
       have n2_ := aM (below_step (by repeat (first | (with_reducible first | exact HB.out | apply bA | apply bN | apply bD | refine below_set ?_ GE303.out | refine below_set ?_ GE304.out) | exact HB.out)) hb)
       clear BK303
       clear BK304
       clear HB
       have BK303 := n0_
       have BK304 := n1_
       have HB := n2_
       clear n0_ n1_ n2_
       (try clear hb)
       (try clear hb2)
       (try clear hk)
       (try clear hi)
       refine hK.out _ _ ⟨(blk_cell BK303.out 0).trans rfl, (blk_cell BK303.out 1).trans rfl, (blk_cell BK304.out 0).trans rfl, (blk_cell BK304.out 1).trans rfl⟩ (fun hHeld => ?_)
       clear hK K
       refine norm_ (a' := ?_) ?_ ?_
       rotate_left
       ·show Act.put _ (some 55) _ = _
        simp only [Act.put, List.setIfInBounds_toArray, List.set_cons_zero, List.set_cons_succ, i64_w, i32_w]
        rfl
       refine pure_ (i := 5) (N := some 50) (v := ?_) (a' := ?_) #[true, true, true, true, true, true, false, false, false, false] rfl rfl (any_of HT_.out zK) (fun _ _ _ h => h) (Or.inl ⟨by rfl, ?_⟩) ?_ ?_
       rotate_left
       ·intro w'
        go_simp
        with_reducible rfl
       rotate_left
       ·simp only [Act.put, List.setIfInBounds_toArray, List.set_cons_zero, List.set_cons_succ, i64_w, i32_w]
        rfl
       refine pure_ (i := 6) (N := some 56) (v := ?_) (a' := ?_) #[true, true, true, true, true, true, true, false, false, false] rfl rfl (any_of HT_.out zK) (fun _ _ _ h => h) (Or.inl ⟨by rfl, ?_⟩) ?_ ?_
       rotate_left
       ·intro w'
        go_simp
        with_reducible rfl
       rotate_left
       ·simp only [Act.put, List.setIfInBounds_toArray, List.set_cons_zero, List.set_cons_succ, i64_w, i32_w]
        rfl
       refine pure_ (i := 7) (N := some 57) (v := ?_) (a' := ?_) #[true, true, true, true, true, true, true, true, false, false] rfl rfl (any_of HT_.out zK) (fun _ _ _ h => h) (Or.inl ⟨by rfl, ?_⟩) ?_ ?_
       rotate_left
       ·intro w'
        go_simp
        with_reducible rfl
       rotate_left
       ·simp only [Act.put, List.setIfInBounds_toArray, List.set_cons_zero, List.set_cons_succ, i64_w, i32_w]
        rfl
       refine pure_ (i := 8) (N := some 12) (v := ?_) (a' := ?_) #[true, true, true, true, true, true, true, true, true, false] rfl rfl (any_of HT_.out zK) (fun _ _ _ h => h) (Or.inl ⟨by rfl, ?_⟩) ?_ ?_
       rotate_left
       ·intro w'
        go_simp
        with_reducible rfl
       rotate_left
       ·simp only [Act.put, List.setIfInBounds_toArray, List.set_cons_zero, List.set_cons_succ, i64_w, i32_w]
        rfl
       refine pure_ (i := 9) (N := some 13) (v := ?_) (a' := ?_) #[true, true, true, true, true, true, true, true, true, true] rfl rfl (any_of HT_.out zK) (fun _ _ _ h => h) (Or.inl ⟨by rfl, ?_⟩) ?_ ?_
       rotate_left
       ·intro w'
        go_simp
        with_reducible rfl
       rotate_left
       ·simp only [Act.put, List.setIfInBounds_toArray, List.set_cons_zero, List.set_cons_succ, i64_w, i32_w]
        rfl
       refine done_ (done_of HT_.out zK) ?_
       try go_wp2
       have n0_ := aM (blk_drew BK303.out)
       have n1_ := aM (blk_drew BK304.out)
       have n2_ := aM (bD HB.out)
       clear BK303
       clear BK304
       clear HB
       have BK303 := n0_
       have BK304 := n1_
       have HB := n2_
       clear n0_ n1_ n2_
       refine start_ (n := 10) (S := fun w' => w'.cell? ⟨gb304, 0, none⟩ = some (.float .f64 a1_0) ∧ w'.cell? ⟨gb304, 1, none⟩ = some (.float .f64 a1_1) ∧ w'.cell? ⟨gb303, 0, none⟩ = some (.float .f64 a0_0) ∧ w'.cell? ⟨gb303, 1, none⟩ = some (.float .f64 a0_1)) (ds := []) #[false, false, false, false, false, false, false, false, false, false] zK rfl rfl ⟨(blk_cell BK304.out 0).trans rfl, (blk_cell BK304.out 1).trans rfl, (blk_cell BK303.out 0).trans rfl, (blk_cell BK303.out 1).trans rfl⟩ (fun hHeld => ?_); refine with_tabW toponymlaw14_GaussTurns.tab10 toponymlaw14_GaussTurns.bits10 (fun HT_ HW_ => ?_)
       generalize w58.drew = w59 at BK303 BK304 HB hHeld ⊢
       refine take_ (i := 0) (N := some 66) (v := ?_) (a' := ?_) #[true, false, false, false, false, false, false, false, false, false] rfl rfl (take_ofW HT_.out HW_.out zK) (fun _ _ _ h => h) (Or.inl ⟨by rfl, ?_⟩) hHeld ?_ ?_
       rotate_left
       ·rintro w' ⟨s0, s1, s2, s3⟩
        go_simp
        with_reducible rfl
       rotate_left
       ·simp only [Act.put, List.setIfInBounds_toArray, List.set_cons_zero, List.set_cons_succ, i64_w, i32_w]
        rfl
       refine take_ (i := 2) (N := some 68) (v := ?_) (a' := ?_) #[true, false, true, false, false, false, false, false, false, false] rfl rfl (take_ofW HT_.out HW_.out zK) (fun _ _ _ h => h) (Or.inl ⟨by rfl, ?_⟩) hHeld ?_ ?_
       rotate_left
       ·rintro w' ⟨s0, s1, s2, s3⟩
        go_simp
        with_reducible rfl
       rotate_left
       ·simp only [Act.put, List.setIfInBounds_toArray, List.set_cons_zero, List.set_cons_succ, i64_w, i32_w]
        rfl
       refine one_ (i := 1) (N := some 67) #[true, true, true, false, false, false, false, false, false, false] rfl rfl (one_of HT_.out zK) (by decide) (fun K hK => ?_)
       refine goes_ Tryd.func10 zK rfl #[.agg #[.float .f64 a1_0, .float .f64 a1_1]] (by rfl) rfl rfl zM ?_
       with_reducible refine (toponymlaw14_Two_z.calls a1_0 a1_1 t319 _ A43.out).mono ?_
       rintro e w60 ⟨rfl, hb⟩
       refine ⟨_, rfl, ?_⟩
       have n0_ := aM (blk_below (g := gb303) (o := .cells #[.float .f64 a0_0, .float .f64 a0_1] 24 (0, 0)) (by (with_reducible repeat (first | refine blk_drewN ?_ _ | refine blk_drew ?_ | refine blk_alloc ?_ _)); exact BK303.out) hb)
       have n1_ := aM (blk_below (g := gb304) (o := .cells #[.float .f64 a1_0, .float .f64 a1_1] 24 (0, 0)) (by (with_reducible repeat (first | refine blk_drewN ?_ _ | refine blk_drew ?_ | refine blk_alloc ?_ _)); exact BK304.out) hb)
       have n2_ := aM (below_step (by repeat (first | (with_reducible first | exact HB.out | apply bA | apply bN | apply bD | refine below_set ?_ GE303.out | refine below_set ?_ GE304.out) | exact HB.out)) hb)
       clear BK303
       clear BK304
       clear HB
       have BK303 := n0_
       have BK304 := n1_
       have HB := n2_
       clear n0_ n1_ n2_
       (try clear hb)
       (try clear hb2)
       (try clear hk)
       (try clear hi)
       refine hK.out _ _ ⟨(blk_cell BK304.out 0).trans rfl, (blk_cell BK304.out 1).trans rfl, (blk_cell BK303.out 0).trans rfl, (blk_cell BK303.out 1).trans rfl⟩ (fun hHeld => ?_)
       clear hK K
       refine norm_ (a' := ?_) ?_ ?_
       rotate_left
       ·show Act.put _ (some 67) _ = _
        simp only [Act.put, List.setIfInBounds_toArray, List.set_cons_zero, List.set_cons_succ, i64_w, i32_w]
        rfl
       refine one_ (i := 3) (N := some 69) #[true, true, true, true, false, false, false, false, false, false] rfl rfl (one_of HT_.out zK) (by decide) (fun K hK => ?_)
       refine goes_ Tryd.func10 zK rfl #[.agg #[.float .f64 a0_0, .float .f64 a0_1]] (by rfl) rfl rfl zM ?_
       with_reducible refine (toponymlaw14_Two_z.calls a0_0 a0_1 t320 _ A44.out).mono ?_
       rintro e w61 ⟨rfl, hb⟩
       refine ⟨_, rfl, ?_⟩
       have n0_ := aM (blk_below (g := gb303) (o := .cells #[.float .f64 a0_0, .float .f64 a0_1] 24 (0, 0)) (by (with_reducible repeat (first | refine blk_drewN ?_ _ | refine blk_drew ?_ | refine blk_alloc ?_ _)); exact BK303.out) hb)
       have n1_ := aM (blk_below (g := gb304) (o := .cells #[.float .f64 a1_0, .float .f64 a1_1] 24 (0, 0)) (by (with_reducible repeat (first | refine blk_drewN ?_ _ | refine blk_drew ?_ | refine blk_alloc ?_ _)); exact BK304.out) hb)
       have n2_ := aM (below_step (by repeat (first | (with_reducible first | exact HB.out | apply bA | apply bN | apply bD | refine below_set ?_ GE303.out | refine below_set ?_ GE304.out) | exact HB.out)) hb)
       clear BK303
       clear BK304
       clear HB
       have BK303 := n0_
       have BK304 := n1_
       have HB := n2_
       clear n0_ n1_ n2_
       (try clear hb)
       (try clear hb2)
       (try clear hk)
       (try clear hi)
       refine hK.out _ _ ⟨(blk_cell BK304.out 0).trans rfl, (blk_cell BK304.out 1).trans rfl, (blk_cell BK303.out 0).trans rfl, (blk_cell BK303.out 1).trans rfl⟩ (fun hHeld => ?_)
       clear hK K
       refine norm_ (a' := ?_) ?_ ?_
       rotate_left
       ·show Act.put _ (some 69) _ = _
        simp only [Act.put, List.setIfInBounds_toArray, List.set_cons_zero, List.set_cons_succ, i64_w, i32_w]
        rfl
       refine one_ (i := 4) (N := some 70) #[true, true, true, true, true, false, false, false, false, false] rfl rfl (one_of HT_.out zK) (by decide) (fun K hK => ?_)
       refine goes_ Tryd.func23 zK rfl #[.complex .f64 t319.1 t319.2, .complex .f64 t320.1 t320.2] (by rfl) rfl rfl zM ?_
       with_reducible refine (gauss_Times.calls kj5 t319 t320 t321 t322 _ A45.out).mono ?_
       rintro e w62 ⟨rfl, hb⟩
       refine ⟨_, rfl, ?_⟩
       have n0_ := aM (blk_below (g := gb303) (o := .cells #[.float .f64 a0_0, .float .f64 a0_1] 24 (0, 0)) (by (with_reducible repeat (first | refine blk_drewN ?_ _ | refine blk_drew ?_ | refine blk_alloc ?_ _)); exact BK303.out) hb)
       have n1_ := aM (blk_below (g := gb304) (o := .cells #[.float .f64 a1_0, .float .f64 a1_1] 24 (0, 0)) (by (with_reducible repeat (first | refine blk_drewN ?_ _ | refine blk_drew ?_ | refine blk_alloc ?_ _)); exact BK304.out) hb)
       have n2_ := aM (below_step (by repeat (first | (with_reducible first | exact HB.out | apply bA | apply bN | apply bD | refine below_set ?_ GE303.out | refine below_set ?_ GE304.out) | exact HB.out)) hb)
       clear BK303
       clear BK304
       clear HB
       have BK303 := n0_
       have BK304 := n1_
       have HB := n2_
       clear n0_ n1_ n2_
       (try clear hb)
       (try clear hb2)
       (try clear hk)
       (try clear hi)
       refine hK.out _ _ ⟨(blk_cell BK304.out 0).trans rfl, (blk_cell BK304.out 1).trans rfl, (blk_cell BK303.out 0).trans rfl, (blk_cell BK303.out 1).trans rfl⟩ (fun hHeld => ?_)
       clear hK K
       refine norm_ (a' := ?_) ?_ ?_
       rotate_left
       ·show Act.put _ (some 70) _ = _
        simp only [Act.put, List.setIfInBounds_toArray, List.set_cons_zero, List.set_cons_succ, i64_w, i32_w]
        rfl
       refine pure_ (i := 5) (N := some 65) (v := ?_) (a' := ?_) #[true, true, true, true, true, true, false, false, false, false] rfl rfl (any_of HT_.out zK) (fun _ _ _ h => h) (Or.inl ⟨by rfl, ?_⟩) ?_ ?_
       rotate_left
       ·intro w'
        go_simp
        with_reducible rfl
       rotate_left
       ·simp only [Act.put, List.setIfInBounds_toArray, List.set_cons_zero, List.set_cons_succ, i64_w, i32_w]
        rfl
       refine pure_ (i := 6) (N := some 71) (v := ?_) (a' := ?_) #[true, true, true, true, true, true, true, false, false, false] rfl rfl (any_of HT_.out zK) (fun _ _ _ h => h) (Or.inl ⟨by rfl, ?_⟩) ?_ ?_
       rotate_left
       ·intro w'
        go_simp
        with_reducible rfl
       rotate_left
       ·simp only [Act.put, List.setIfInBounds_toArray, List.set_cons_zero, List.set_cons_succ, i64_w, i32_w]
        rfl
       refine pure_ (i := 7) (N := some 72) (v := ?_) (a' := ?_) #[true, true, true, true, true, true, true, true, false, false] rfl rfl (any_of HT_.out zK) (fun _ _ _ h => h) (Or.inl ⟨by rfl, ?_⟩) ?_ ?_
       rotate_left
       ·intro w'
        go_simp
        with_reducible rfl
       rotate_left
       ·simp only [Act.put, List.setIfInBounds_toArray, List.set_cons_zero, List.set_cons_succ, i64_w, i32_w]
        rfl
       refine pure_ (i := 8) (N := some 14) (v := ?_) (a' := ?_) #[true, true, true, true, true, true, true, true, true, false] rfl rfl (any_of HT_.out zK) (fun _ _ _ h => h) (Or.inl ⟨by rfl, ?_⟩) ?_ ?_
       rotate_left
       ·intro w'
        go_simp
        with_reducible rfl
       rotate_left
       ·simp only [Act.put, List.setIfInBounds_toArray, List.set_cons_zero, List.set_cons_succ, i64_w, i32_w]
        rfl
       refine pure_ (i := 9) (N := some 15) (v := ?_) (a' := ?_) #[true, true, true, true, true, true, true, true, true, true] rfl rfl (any_of HT_.out zK) (fun _ _ _ h => h) (Or.inl ⟨by rfl, ?_⟩) ?_ ?_
       rotate_left
       ·intro w'
        go_simp
        with_reducible rfl
       rotate_left
       ·simp only [Act.put, List.setIfInBounds_toArray, List.set_cons_zero, List.set_cons_succ, i64_w, i32_w]
        rfl
       refine done_ (done_of HT_.out zK) ?_
       try go_wp2
       have n0_ := aM (blk_drew BK303.out)
       have n1_ := aM (blk_drew BK304.out)
       have n2_ := aM (bD HB.out)
       clear BK303
       clear BK304
       clear HB
       have BK303 := n0_
       have BK304 := n1_
       have HB := n2_
       clear n0_ n1_ n2_
       refine start_ (n := 23) (S := fun w' => w'.cell? ⟨gb303, 0, none⟩ = some (.float .f64 a0_0) ∧ w'.cell? ⟨gb303, 1, none⟩ = some (.float .f64 a0_1) ∧ w'.cell? ⟨gb304, 0, none⟩ = some (.float .f64 a1_0) ∧ w'.cell? ⟨gb304, 1, none⟩ = some (.float .f64 a1_1)) (ds := []) #[false, false, false, false, false, false, false, false, false, false, false, false, false, false, false, false, false, false, false, false, false, false, false] zK rfl rfl ⟨(blk_cell BK303.out 0).trans rfl, (blk_cell BK303.out 1).trans rfl, (blk_cell BK304.out 0).trans rfl, (blk_cell BK304.out 1).trans rfl⟩ (fun hHeld => ?_); refine with_tabW toponymlaw14_GaussTurns.tab11 toponymlaw14_GaussTurns.bits11 (fun HT_ HW_ => ?_)
       generalize w62.drew = w63 at BK303 BK304 HB hHeld ⊢
       refine pure_ (i := 0) (N := some 73) (v := ?_) (a' := ?_) #[true, false, false, false, false, false, false, false, false, false, false, false, false, false, false, false, false, false, false, false, false, false, false] rfl rfl (any_of HT_.out zK) (fun _ _ _ h => h) (Or.inl ⟨by rfl, ?_⟩) ?_ ?_
       rotate_left
       ·intro w'
        go_simp
        with_reducible rfl
       rotate_left
       ·simp only [Act.put, List.setIfInBounds_toArray, List.set_cons_zero, List.set_cons_succ, i64_w, i32_w]
        rfl
       refine pure_ (i := 1) (N := some 74) (v := ?_) (a' := ?_) #[true, true, false, false, false, false, false, false, false, false, false, false, false, false, false, false, false, false, false, false, false, false, false] rfl rfl (any_of HT_.out zK) (fun _ _ _ h => h) (Or.inl ⟨by rfl, ?_⟩) ?_ ?_
       rotate_left
       ·intro w'
        go_simp
        with_reducible rfl
       rotate_left
       ·simp only [Act.put, List.setIfInBounds_toArray, List.set_cons_zero, List.set_cons_succ, i64_w, i32_w]
        rfl
       refine pure_ (i := 2) (N := some 75) (v := ?_) (a' := ?_) #[true, true, true, false, false, false, false, false, false, false, false, false, false, false, false, false, false, false, false, false, false, false, false] rfl rfl (any_of HT_.out zK) (fun _ _ _ h => h) (Or.inl ⟨by rfl, ?_⟩) ?_ ?_
       rotate_left
       ·intro w'
        go_simp
        with_reducible rfl
       rotate_left
       ·simp only [Act.put, List.setIfInBounds_toArray, List.set_cons_zero, List.set_cons_succ, i64_w, i32_w]
        rfl
       refine pure_ (i := 3) (N := some 76) (v := ?_) (a' := ?_) #[true, true, true, true, false, false, false, false, false, false, false, false, false, false, false, false, false, false, false, false, false, false, false] rfl rfl (any_of HT_.out zK) (fun _ _ _ h => h) (Or.inl ⟨by rfl, ?_⟩) ?_ ?_
       rotate_left
       ·intro w'
        go_simp
        with_reducible rfl
       rotate_left
       ·simp only [Act.put, List.setIfInBounds_toArray, List.set_cons_zero, List.set_cons_succ, i64_w, i32_w]
        rfl
       refine pure_ (i := 4) (N := some 77) (v := ?_) (a' := ?_) #[true, true, true, true, true, false, false, false, false, false, false, false, false, false, false, false, false, false, false, false, false, false, false] rfl rfl (any_of HT_.out zK) (fun _ _ _ h => h) (Or.inl ⟨by rfl, ?_⟩) ?_ ?_
       rotate_left
       ·intro w'
        go_simp
        with_reducible rfl
       rotate_left
       ·simp only [Act.put, List.setIfInBounds_toArray, List.set_cons_zero, List.set_cons_succ, i64_w, i32_w]
        rfl
       refine pure_ (i := 5) (N := some 78) (v := ?_) (a' := ?_) #[true, true, true, true, true, true, false, false, false, false, false, false, false, false, false, false, false, false, false, false, false, false, false] rfl rfl (any_of HT_.out zK) (fun _ _ _ h => h) (Or.inl ⟨by rfl, ?_⟩) ?_ ?_
       rotate_left
       ·intro w'
        go_simp
        with_reducible rfl
       rotate_left
       ·simp only [Act.put, List.setIfInBounds_toArray, List.set_cons_zero, List.set_cons_succ, i64_w, i32_w]
        rfl
       refine pure_ (i := 6) (N := some 79) (v := ?_) (a' := ?_) #[true, true, true, true, true, true, true, false, false, false, false, false, false, false, false, false, false, false, false, false, false, false, false] rfl rfl (any_of HT_.out zK) (fun _ _ _ h => h) (Or.inl ⟨by rfl, ?_⟩) ?_ ?_
       rotate_left
       ·intro w'
        go_simp
        with_reducible rfl
       rotate_left
       ·simp only [Act.put, List.setIfInBounds_toArray, List.set_cons_zero, List.set_cons_succ, i64_w, i32_w]
        rfl
       refine pure_ (i := 7) (N := some 80) (v := ?_) (a' := ?_) #[true, true, true, true, true, true, true, true, false, false, false, false, false, false, false, false, false, false, false, false, false, false, false] rfl rfl (any_of HT_.out zK) (fun _ _ _ h => h) (Or.inl ⟨by rfl, ?_⟩) ?_ ?_
       rotate_left
       ·intro w'
        go_simp
        with_reducible rfl
       rotate_left
       ·simp only [Act.put, List.setIfInBounds_toArray, List.set_cons_zero, List.set_cons_succ, i64_w, i32_w]
        rfl
       refine pure_ (i := 8) (N := some 81) (v := ?_) (a' := ?_) #[true, true, true, true, true, true, true, true, true, false, false, false, false, false, false, false, false, false, false, false, false, false, false] rfl rfl (any_of HT_.out zK) (fun _ _ _ h => h) (Or.inl ⟨by rfl, ?_⟩) ?_ ?_
       rotate_left
       ·intro w'
        go_simp
        with_reducible rfl
       rotate_left
       ·simp only [Act.put, List.setIfInBounds_toArray, List.set_cons_zero, List.set_cons_succ, i64_w, i32_w]
        rfl
       refine take_ (i := 10) (N := some 83) (v := ?_) (a' := ?_) #[true, true, true, true, true, true, true, true, true, false, true, false, false, false, false, false, false, false, false, false, false, false, false] rfl rfl (take_ofW HT_.out HW_.out zK) (fun _ _ _ h => h) (Or.inl ⟨by rfl, ?_⟩) hHeld ?_ ?_
       rotate_left
       ·rintro w' ⟨s0, s1, s2, s3⟩
        go_simp
        with_reducible rfl
       rotate_left
       ·simp only [Act.put, List.setIfInBounds_toArray, List.set_cons_zero, List.set_cons_succ, i64_w, i32_w]
        rfl
       refine take_ (i := 13) (N := some 86) (v := ?_) (a' := ?_) #[true, true, true, true, true, true, true, true, true, false, true, false, false, true, false, false, false, false, false, false, false, false, false] rfl rfl (take_ofW HT_.out HW_.out zK) (fun _ _ _ h => h) (Or.inl ⟨by rfl, ?_⟩) hHeld ?_ ?_
       rotate_left
       ·rintro w' ⟨s0, s1, s2, s3⟩
        go_simp
        with_reducible rfl
       rotate_left
       ·simp only [Act.put, List.setIfInBounds_toArray, List.set_cons_zero, List.set_cons_succ, i64_w, i32_w]
        rfl
       refine one_ (i := 9) (N := some 82) #[true, true, true, true, true, true, true, true, true, true, true, false, false, true, false, false, false, false, false, false, false, false, false] rfl rfl (one_of HT_.out zK) (by decide) (fun K hK => ?_)
       refine goes_ Tryd.func18 zK rfl #[.complex .f64 t316.1 t316.2] (by rfl) rfl rfl zM ?_
       with_reducible refine (gauss_Norm.calls t316 t323 _ A48.out).mono ?_
       rintro e w64 ⟨rfl, hb⟩
       refine ⟨_, rfl, ?_⟩
       have n0_ := aM (blk_below (g := gb303) (o := .cells #[.float .f64 a0_0, .float .f64 a0_1] 24 (0, 0)) (by (with_reducible repeat (first | refine blk_drewN ?_ _ | refine blk_drew ?_ | refine blk_alloc ?_ _)); exact BK303.out) hb)
       have n1_ := aM (blk_below (g := gb304) (o := .cells #[.float .f64 a1_0, .float .f64 a1_1] 24 (0, 0)) (by (with_reducible repeat (first | refine blk_drewN ?_ _ | refine blk_drew ?_ | refine blk_alloc ?_ _)); exact BK304.out) hb)
       have n2_ := aM (below_step (by repeat (first | (with_reducible first | exact HB.out | apply bA | apply bN | apply bD | refine below_set ?_ GE303.out | refine below_set ?_ GE304.out) | exact HB.out)) hb)
       clear BK303
       clear BK304
       clear HB
       have BK303 := n0_
       have BK304 := n1_
       have HB := n2_
       clear n0_ n1_ n2_
       (try clear hb)
       (try clear hb2)
       (try clear hk)
       (try clear hi)
       refine hK.out _ _ ⟨(blk_cell BK303.out 0).trans rfl, (blk_cell BK303.out 1).trans rfl, (blk_cell BK304.out 0).trans rfl, (blk_cell BK304.out 1).trans rfl⟩ (fun hHeld => ?_)
       clear hK K
       refine norm_ (a' := ?_) ?_ ?_
       rotate_left
       ·show Act.put _ (some 82) _ = _
        simp only [Act.put, List.setIfInBounds_toArray, List.set_cons_zero, List.set_cons_succ, i64_w, i32_w]
        rfl
       refine one_ (i := 11) (N := some 84) #[true, true, true, true, true, true, true, true, true, true, true, true, false, true, false, false, false, false, false, false, false, false, false] rfl rfl (one_of HT_.out zK) (by decide) (fun K hK => ?_)
       refine goes_ Tryd.func10 zK rfl #[.agg #[.float .f64 a0_0, .float .f64 a0_1]] (by rfl) rfl rfl zM ?_
       with_reducible refine (toponymlaw14_Two_z.calls a0_0 a0_1 t324 _ A49.out).mono ?_
       rintro e w65 ⟨rfl, hb⟩
       refine ⟨_, rfl, ?_⟩
       have n0_ := aM (blk_below (g := gb303) (o := .cells #[.float .f64 a0_0, .float .f64 a0_1] 24 (0, 0)) (by (with_reducible repeat (first | refine blk_drewN ?_ _ | refine blk_drew ?_ | refine blk_alloc ?_ _)); exact BK303.out) hb)
       have n1_ := aM (blk_below (g := gb304) (o := .cells #[.float .f64 a1_0, .float .f64 a1_1] 24 (0, 0)) (by (with_reducible repeat (first | refine blk_drewN ?_ _ | refine blk_drew ?_ | refine blk_alloc ?_ _)); exact BK304.out) hb)
       have n2_ := aM (below_step (by repeat (first | (with_reducible first | exact HB.out | apply bA | apply bN | apply bD | refine below_set ?_ GE303.out | refine below_set ?_ GE304.out) | exact HB.out)) hb)
       clear BK303
       clear BK304
       clear HB
       have BK303 := n0_
       have BK304 := n1_
       have HB := n2_
       clear n0_ n1_ n2_
       (try clear hb)
       (try clear hb2)
       (try clear hk)
       (try clear hi)
       refine hK.out _ _ ⟨(blk_cell BK303.out 0).trans rfl, (blk_cell BK303.out 1).trans rfl, (blk_cell BK304.out 0).trans rfl, (blk_cell BK304.out 1).trans rfl⟩ (fun hHeld => ?_)
       clear hK K
       refine norm_ (a' := ?_) ?_ ?_
       rotate_left
       ·show Act.put _ (some 84) _ = _
        simp only [Act.put, List.setIfInBounds_toArray, List.set_cons_zero, List.set_cons_succ, i64_w, i32_w]
        rfl
       refine one_ (i := 12) (N := some 85) #[true, true, true, true, true, true, true, true, true, true, true, true, true, true, false, false, false, false, false, false, false, false, false] rfl rfl (one_of HT_.out zK) (by decide) (fun K hK => ?_)
       refine goes_ Tryd.func18 zK rfl #[.complex .f64 t324.1 t324.2] (by rfl) rfl rfl zM ?_
       with_reducible refine (gauss_Norm.calls t324 t325 _ A50.out).mono ?_
       rintro e w66 ⟨rfl, hb⟩
       refine ⟨_, rfl, ?_⟩
       have n0_ := aM (blk_below (g := gb303) (o := .cells #[.float .f64 a0_0, .float .f64 a0_1] 24 (0, 0)) (by (with_reducible repeat (first | refine blk_drewN ?_ _ | refine blk_drew ?_ | refine blk_alloc ?_ _)); exact BK303.out) hb)
       have n1_ := aM (blk_below (g := gb304) (o := .cells #[.float .f64 a1_0, .float .f64 a1_1] 24 (0, 0)) (by (with_reducible repeat (first | refine blk_drewN ?_ _ | refine blk_drew ?_ | refine blk_alloc ?_ _)); exact BK304.out) hb)
       have n2_ := aM (below_step (by repeat (first | (with_reducible first | exact HB.out | apply bA | apply bN | apply bD | refine below_set ?_ GE303.out | refine below_set ?_ GE304.out) | exact HB.out)) hb)
       clear BK303
       clear BK304
       clear HB
       have BK303 := n0_
       have BK304 := n1_
       have HB := n2_
       clear n0_ n1_ n2_
       (try clear hb)
       (try clear hb2)
       (try clear hk)
       (try clear hi)
       refine hK.out _ _ ⟨(blk_cell BK303.out 0).trans rfl, (blk_cell BK303.out 1).trans rfl, (blk_cell BK304.out 0).trans rfl, (blk_cell BK304.out 1).trans rfl⟩ (fun hHeld => ?_)
       clear hK K
       refine norm_ (a' := ?_) ?_ ?_
       rotate_left
       ·show Act.put _ (some 85) _ = _
        simp only [Act.put, List.setIfInBounds_toArray, List.set_cons_zero, List.set_cons_succ, i64_w, i32_w]
        rfl
       refine one_ (i := 14) (N := some 87) #[true, true, true, true, true, true, true, true, true, true, true, true, true, true, true, false, false, false, false, false, false, false, false] rfl rfl (one_of HT_.out zK) (by decide) (fun K hK => ?_)
       refine goes_ Tryd.func10 zK rfl #[.agg #[.float .f64 a1_0, .float .f64 a1_1]] (by rfl) rfl rfl zM ?_
       with_reducible refine (toponymlaw14_Two_z.calls a1_0 a1_1 t326 _ A51.out).mono ?_
       rintro e w67 ⟨rfl, hb⟩
       refine ⟨_, rfl, ?_⟩
       have n0_ := aM (blk_below (g := gb303) (o := .cells #[.float .f64 a0_0, .float .f64 a0_1] 24 (0, 0)) (by (with_reducible repeat (first | refine blk_drewN ?_ _ | refine blk_drew ?_ | refine blk_alloc ?_ _)); exact BK303.out) hb)
       have n1_ := aM (blk_below (g := gb304) (o := .cells #[.float .f64 a1_0, .float .f64 a1_1] 24 (0, 0)) (by (with_reducible repeat (first | refine blk_drewN ?_ _ | refine blk_drew ?_ | refine blk_alloc ?_ _)); exact BK304.out) hb)
       have n2_ := aM (below_step (by repeat (first | (with_reducible first | exact HB.out | apply bA | apply bN | apply bD | refine below_set ?_ GE303.out | refine below_set ?_ GE304.out) | exact HB.out)) hb)
       clear BK303
       clear BK304
       clear HB
       have BK303 := n0_
       have BK304 := n1_
       have HB := n2_
       clear n0_ n1_ n2_
       (try clear hb)
       (try clear hb2)
       (try clear hk)
       (try clear hi)
       refine hK.out _ _ ⟨(blk_cell BK303.out 0).trans rfl, (blk_cell BK303.out 1).trans rfl, (blk_cell BK304.out 0).trans rfl, (blk_cell BK304.out 1).trans rfl⟩ (fun hHeld => ?_)
       clear hK K
       refine norm_ (a' := ?_) ?_ ?_
       rotate_left
       ·show Act.put _ (some 87) _ = _
        simp only [Act.put, List.setIfInBounds_toArray, List.set_cons_zero, List.set_cons_succ, i64_w, i32_w]
        rfl
       refine one_ (i := 15) (N := some 88) #[true, true, true, true, true, true, true, true, true, true, true, true, true, true, true, true, false, false, false, false, false, false, false] rfl rfl (one_of HT_.out zK) (by decide) (fun K hK => ?_)
       refine goes_ Tryd.func18 zK rfl #[.complex .f64 t326.1 t326.2] (by rfl) rfl rfl zM ?_
       with_reducible refine (gauss_Norm.calls t326 t327 _ A52.out).mono ?_
       rintro e w68 ⟨rfl, hb⟩
       refine ⟨_, rfl, ?_⟩
       have n0_ := aM (blk_below (g := gb303) (o := .cells #[.float .f64 a0_0, .float .f64 a0_1] 24 (0, 0)) (by (with_reducible repeat (first | refine blk_drewN ?_ _ | refine blk_drew ?_ | refine blk_alloc ?_ _)); exact BK303.out) hb)
       have n1_ := aM (blk_below (g := gb304) (o := .cells #[.float .f64 a1_0, .float .f64 a1_1] 24 (0, 0)) (by (with_reducible repeat (first | refine blk_drewN ?_ _ | refine blk_drew ?_ | refine blk_alloc ?_ _)); exact BK304.out) hb)
       have n2_ := aM (below_step (by repeat (first | (with_reducible first | exact HB.out | apply bA | apply bN | apply bD | refine below_set ?_ GE303.out | refine below_set ?_ GE304.out) | exact HB.out)) hb)
       clear BK303
       clear BK304
       clear HB
       have BK303 := n0_
       have BK304 := n1_
       have HB := n2_
       clear n0_ n1_ n2_
       (try clear hb)
       (try clear hb2)
       (try clear hk)
       (try clear hi)
       refine hK.out _ _ ⟨(blk_cell BK303.out 0).trans rfl, (blk_cell BK303.out 1).trans rfl, (blk_cell BK304.out 0).trans rfl, (blk_cell BK304.out 1).trans rfl⟩ (fun hHeld => ?_)
       clear hK K
       refine norm_ (a' := ?_) ?_ ?_
       rotate_left
       ·show Act.put _ (some 88) _ = _
        simp only [Act.put, List.setIfInBounds_toArray, List.set_cons_zero, List.set_cons_succ, i64_w, i32_w]
        rfl
       refine pure_ (i := 16) (N := some 89) (v := ?_) (a' := ?_) #[true, true, true, true, true, true, true, true, true, true, true, true, true, true, true, true, true, false, false, false, false, false, false] rfl rfl (any_of HT_.out zK) (fun _ _ _ h => h) (Or.inl ⟨by rfl, ?_⟩) ?_ ?_
       rotate_left
       ·intro w'
        go_simp
        with_reducible rfl
       rotate_left
       ·simp only [Act.put, List.setIfInBounds_toArray, List.set_cons_zero, List.set_cons_succ, i64_w, i32_w]
        rfl
       refine pure_ (i := 17) (N := some 90) (v := ?_) (a' := ?_) #[true, true, true, true, true, true, true, true, true, true, true, true, true, true, true, true, true, true, false, false, false, false, false] rfl rfl (any_of HT_.out zK) (fun _ _ _ h => h) (Or.inl ⟨by rfl, ?_⟩) ?_ ?_
       rotate_left
       ·intro w'
        go_simp
        with_reducible rfl
       rotate_left
       ·simp only [Act.put, List.setIfInBounds_toArray, List.set_cons_zero, List.set_cons_succ, i64_w, i32_w]
        rfl
       refine pure_ (i := 18) (N := some 91) (v := ?_) (a' := ?_) #[true, true, true, true, true, true, true, true, true, true, true, true, true, true, true, true, true, true, true, false, false, false, false] rfl rfl (any_of HT_.out zK) (fun _ _ _ h => h) (Or.inl ⟨by rfl, ?_⟩) ?_ ?_
       rotate_left
       ·intro w'
        go_simp
        with_reducible rfl
       rotate_left
       ·simp only [Act.put, List.setIfInBounds_toArray, List.set_cons_zero, List.set_cons_succ, i64_w, i32_w]
        rfl
       refine pure_ (i := 19) (N := some 92) (v := ?_) (a' := ?_) #[true, true, true, true, true, true, true, true, true, true, true, true, true, true, true, true, true, true, true, true, false, false, false] rfl rfl (any_of HT_.out zK) (fun _ _ _ h => h) (Or.inl ⟨by rfl, ?_⟩) ?_ ?_
       rotate_left
       ·intro w'
        go_simp
        with_reducible rfl
       rotate_left
       ·simp only [Act.put, List.setIfInBounds_toArray, List.set_cons_zero, List.set_cons_succ, i64_w, i32_w]
        rfl
       refine one_ (i := 20) (N := some 93) #[true, true, true, true, true, true, true, true, true, true, true, true, true, true, true, true, true, true, true, true, true, false, false] rfl rfl (one_of HT_.out zK) (by decide) (fun K hK => ?_)
       refine goes_ Tryd.func20 zK rfl #[] (by rfl) rfl rfl zM ?_
       with_reducible refine (toponymlaw14_awake.calls kj5  t328 _ (zEnv HE) A54.out).mono ?_
       rintro e w69 ⟨rfl, hb⟩
       refine ⟨_, rfl, ?_⟩
       have n0_ := aM (blk_below (g := gb303) (o := .cells #[.float .f64 a0_0, .float .f64 a0_1] 24 (0, 0)) (by (with_reducible repeat (first | refine blk_drewN ?_ _ | refine blk_drew ?_ | refine blk_alloc ?_ _)); exact BK303.out) hb)
       have n1_ := aM (blk_below (g := gb304) (o := .cells #[.float .f64 a1_0, .float .f64 a1_1] 24 (0, 0)) (by (with_reducible repeat (first | refine blk_drewN ?_ _ | refine blk_drew ?_ | refine blk_alloc ?_ _)); exact BK304.out) hb)
       have n2_ := aM (below_step (by repeat (first | (with_reducible first | exact HB.out | apply bA | apply bN | apply bD | refine below_set ?_ GE303.out | refine below_set ?_ GE304.out) | exact HB.out)) hb)
       clear BK303
       clear BK304
       clear HB
       have BK303 := n0_
       have BK304 := n1_
       have HB := n2_
       clear n0_ n1_ n2_
       (try clear hb)
       (try clear hb2)
       (try clear hk)
       (try clear hi)
       refine hK.out _ _ ⟨(blk_cell BK303.out 0).trans rfl, (blk_cell BK303.out 1).trans rfl, (blk_cell BK304.out 0).trans rfl, (blk_cell BK304.out 1).trans rfl⟩ (fun hHeld => ?_)
       clear hK K
       refine norm_ (a' := ?_) ?_ ?_
       rotate_left
       ·show Act.put _ (some 93) _ = _
        simp only [Act.put, List.setIfInBounds_toArray, List.set_cons_zero, List.set_cons_succ, i64_w, i32_w]
        rfl
       refine pure_ (i := 21) (N := some 94) (v := ?_) (a' := ?_) #[true, true, true, true, true, true, true, true, true, true, true, true, true, true, true, true, true, true, true, true, true, true, false] rfl rfl (any_of HT_.out zK) (fun _ _ _ h => h) (Or.inl ⟨by rfl, ?_⟩) ?_ ?_
       rotate_left
       ·intro w'
        go_simp
        with_reducible rfl
       rotate_left
       ·simp only [Act.put, List.setIfInBounds_toArray, List.set_cons_zero, List.set_cons_succ, i64_w, i32_w]
        rfl
       refine pure_ (i := 22) (N := some 6) (v := ?_) (a' := ?_) #[true, true, true, true, true, true, true, true, true, true, true, true, true, true, true, true, true, true, true, true, true, true, true] rfl rfl (any_of HT_.out zK) (fun _ _ _ h => h) (Or.inl ⟨by rfl, ?_⟩) ?_ ?_
       rotate_left
       ·intro w'
        go_simp
        with_reducible rfl
       rotate_left
       ·simp only [Act.put, List.setIfInBounds_toArray, List.set_cons_zero, List.set_cons_succ, i64_w, i32_w]
        rfl
       refine done_ (done_of HT_.out zK) ?_
       try go_wp2
       go_ret
       exact ⟨zE, by repeat (first | (with_reducible first | exact HB.out | apply bA | apply bN | apply bD | refine below_set ?_ GE303.out | refine below_set ?_ GE304.out) | exact HB.out)⟩
      ·rw [if_neg c53] at H
       exact absurd ((sI H).trans hT.out) (by decide)
     ·rw [if_neg c47] at H
      exact absurd ((sI H).trans hT.out) (by decide)
    ·rw [if_neg c46] at H
     exact absurd ((sI H).trans hT.out) (by decide)
   ·rw [if_neg c42] at H
    have c42b0 : (t317 == 0) = false := beq_eq_false_iff_ne.mpr c42
    have c42b1 : (t317 != 0) = true := bne_iff_ne.mpr c42
    by_cases c102 : (Go.FloatKind.f64.format.order t316.1 0 == some .eq && Go.FloatKind.f64.format.order t316.2 0 == some .eq) = true
    ·rw [if_pos c102] at H
     have c102b0 : (Go.FloatKind.f64.format.order t316.1 0 == some .eq && Go.FloatKind.f64.format.order t316.2 0 == some .eq) = true := c102
     (try (have c102b1 : decide (Go.FloatKind.f64.format.order t316.1 0 = some .eq && Go.FloatKind.f64.format.order t316.2 0 == some .eq) = true := by simpa using c102))
     (try (have c102b2 : (Go.FloatKind.f64.format.order t316.1 0 == some .eq && Go.FloatKind.f64.format.order t316.2 0 == some .eq) = true := by simpa using c102))
     clear c102
     obtain ⟨t318, A103, H⟩ := zO H
     obtain rfl := sI H
     try go_wp2
     have n0_ := aM (blk_drew BK303.out)
     have n1_ := aM (blk_drew BK304.out)
     have n2_ := aM (bD HB.out)
     clear BK303
     clear BK304
     clear HB
     have BK303 := n0_
     have BK304 := n1_
     have HB := n2_
     clear n0_ n1_ n2_
     refine start_ (n := 10) (S := fun w' => w'.cell? ⟨gb303, 0, none⟩ = some (.float .f64 a0_0) ∧ w'.cell? ⟨gb303, 1, none⟩ = some (.float .f64 a0_1) ∧ w'.cell? ⟨gb304, 0, none⟩ = some (.float .f64 a1_0) ∧ w'.cell? ⟨gb304, 1, none⟩ = some (.float .f64 a1_1)) (ds := []) #[false, false, false, false, false, false, false, false, false, false] zK rfl rfl ⟨(blk_cell BK303.out 0).trans rfl, (blk_cell BK303.out 1).trans rfl, (blk_cell BK304.out 0).trans rfl, (blk_cell BK304.out 1).trans rfl⟩ (fun hHeld => ?_); refine with_tabW toponymlaw14_GaussTurns.tab7 toponymlaw14_GaussTurns.bits7 (fun HT_ HW_ => ?_)
     generalize wc.drew = w104 at BK303 BK304 HB hHeld ⊢
     refine take_ (i := 0) (N := some 51) (v := ?_) (a' := ?_) #[true, false, false, false, false, false, false, false, false, false] rfl rfl (take_ofW HT_.out HW_.out zK) (fun _ _ _ h => h) (Or.inl ⟨by rfl, ?_⟩) hHeld ?_ ?_
     rotate_left
     ·rintro w' ⟨s0, s1, s2, s3⟩
      go_simp
      with_reducible rfl
     rotate_left
     ·simp only [Act.put, List.setIfInBounds_toArray, List.set_cons_zero, List.set_cons_succ, i64_w, i32_w]
      rfl
     refine take_ (i := 2) (N := some 53) (v := ?_) (a' := ?_) #[true, false, true, false, false, false, false, false, false, false] rfl rfl (take_ofW HT_.out HW_.out zK) (fun _ _ _ h => h) (Or.inl ⟨by rfl, ?_⟩) hHeld ?_ ?_
     rotate_left
     ·rintro w' ⟨s0, s1, s2, s3⟩
      go_simp
      with_reducible rfl
     rotate_left
     ·simp only [Act.put, List.setIfInBounds_toArray, List.set_cons_zero, List.set_cons_succ, i64_w, i32_w]
      rfl
     refine one_ (i := 1) (N := some 52) #[true, true, true, false, false, false, false, false, false, false] rfl rfl (one_of HT_.out zK) (by decide) (fun K hK => ?_)
     refine goes_ Tryd.func10 zK rfl #[.agg #[.float .f64 a0_0, .float .f64 a0_1]] (by rfl) rfl rfl zM ?_
     with_reducible refine (toponymlaw14_Two_z.calls a0_0 a0_1 t314 _ A39.out).mono ?_
     rintro e w105 ⟨rfl, hb⟩
     refine ⟨_, rfl, ?_⟩
     have n0_ := aM (blk_below (g := gb303) (o := .cells #[.float .f64 a0_0, .float .f64 a0_1] 24 (0, 0)) (by (with_reducible repeat (first | refine blk_drewN ?_ _ | refine blk_drew ?_ | refine blk_alloc ?_ _)); exact BK303.out) hb)
     have n1_ := aM (blk_below (g := gb304) (o := .cells #[.float .f64 a1_0, .float .f64 a1_1] 24 (0, 0)) (by (with_reducible repeat (first | refine blk_drewN ?_ _ | refine blk_drew ?_ | refine blk_alloc ?_ _)); exact BK304.out) hb)
     have n2_ := aM (below_step (by repeat (first | (with_reducible first | exact HB.out | apply bA | apply bN | apply bD | refine below_set ?_ GE303.out | refine below_set ?_ GE304.out) | exact HB.out)) hb)
     clear BK303
     clear BK304
     clear HB
     have BK303 := n0_
     have BK304 := n1_
     have HB := n2_
     clear n0_ n1_ n2_
     (try clear hb)
     (try clear hb2)
     (try clear hk)
     (try clear hi)
     refine hK.out _ _ ⟨(blk_cell BK303.out 0).trans rfl, (blk_cell BK303.out 1).trans rfl, (blk_cell BK304.out 0).trans rfl, (blk_cell BK304.out 1).trans rfl⟩ (fun hHeld => ?_)
     clear hK K
     refine norm_ (a' := ?_) ?_ ?_
     rotate_left
     ·show Act.put _ (some 52) _ = _
      simp only [Act.put, List.setIfInBounds_toArray, List.set_cons_zero, List.set_cons_succ, i64_w, i32_w]
      rfl
     refine one_ (i := 3) (N := some 54) #[true, true, true, true, false, false, false, false, false, false] rfl rfl (one_of HT_.out zK) (by decide) (fun K hK => ?_)
     refine goes_ Tryd.func10 zK rfl #[.agg #[.float .f64 a1_0, .float .f64 a1_1]] (by rfl) rfl rfl zM ?_
     with_reducible refine (toponymlaw14_Two_z.calls a1_0 a1_1 t315 _ A40.out).mono ?_
     rintro e w106 ⟨rfl, hb⟩
     refine ⟨_, rfl, ?_⟩
     have n0_ := aM (blk_below (g := gb303) (o := .cells #[.float .f64 a0_0, .float .f64 a0_1] 24 (0, 0)) (by (with_reducible repeat (first | refine blk_drewN ?_ _ | refine blk_drew ?_ | refine blk_alloc ?_ _)); exact BK303.out) hb)
     have n1_ := aM (blk_below (g := gb304) (o := .cells #[.float .f64 a1_0, .float .f64 a1_1] 24 (0, 0)) (by (with_reducible repeat (first | refine blk_drewN ?_ _ | refine blk_drew ?_ | refine blk_alloc ?_ _)); exact BK304.out) hb)
     have n2_ := aM (below_step (by repeat (first | (with_reducible first | exact HB.out | apply bA | apply bN | apply bD | refine below_set ?_ GE303.out | refine below_set ?_ GE304.out) | exact HB.out)) hb)
     clear BK303
     clear BK304
     clear HB
     have BK303 := n0_
     have BK304 := n1_
     have HB := n2_
     clear n0_ n1_ n2_
     (try clear hb)
     (try clear hb2)
     (try clear hk)
     (try clear hi)
     refine hK.out _ _ ⟨(blk_cell BK303.out 0).trans rfl, (blk_cell BK303.out 1).trans rfl, (blk_cell BK304.out 0).trans rfl, (blk_cell BK304.out 1).trans rfl⟩ (fun hHeld => ?_)
     clear hK K
     refine norm_ (a' := ?_) ?_ ?_
     rotate_left
     ·show Act.put _ (some 54) _ = _
      simp only [Act.put, List.setIfInBounds_toArray, List.set_cons_zero, List.set_cons_succ, i64_w, i32_w]
      rfl
     refine one_ (i := 4) (N := some 55) #[true, true, true, true, true, false, false, false, false, false] rfl rfl (one_of HT_.out zK) (by decide) (fun K hK => ?_)
     refine goes_ Tryd.func23 zK rfl #[.complex .f64 t314.1 t314.2, .complex .f64 t315.1 t315.2] (by rfl) rfl rfl zM ?_
     with_reducible refine (gauss_Times.calls kj5 t314 t315 t316 t317 _ A41.out).mono ?_
     rintro e w107 ⟨rfl, hb⟩
     refine ⟨_, rfl, ?_⟩
     have n0_ := aM (blk_below (g := gb303) (o := .cells #[.float .f64 a0_0, .float .f64 a0_1] 24 (0, 0)) (by (with_reducible repeat (first | refine blk_drewN ?_ _ | refine blk_drew ?_ | refine blk_alloc ?_ _)); exact BK303.out) hb)
     have n1_ := aM (blk_below (g := gb304) (o := .cells #[.float .f64 a1_0, .float .f64 a1_1] 24 (0, 0)) (by (with_reducible repeat (first | refine blk_drewN ?_ _ | refine blk_drew ?_ | refine blk_alloc ?_ _)); exact BK304.out) hb)
     have n2_ := aM (below_step (by repeat (first | (with_reducible first | exact HB.out | apply bA | apply bN | apply bD | refine below_set ?_ GE303.out | refine below_set ?_ GE304.out) | exact HB.out)) hb)
     clear BK303
     clear BK304
     clear HB
     have BK303 := n0_
     have BK304 := n1_
     have HB := n2_
     clear n0_ n1_ n2_
     (try clear hb)
     (try clear hb2)
     (try clear hk)
     (try clear hi)
     refine hK.out _ _ ⟨(blk_cell BK303.out 0).trans rfl, (blk_cell BK303.out 1).trans rfl, (blk_cell BK304.out 0).trans rfl, (blk_cell BK304.out 1).trans rfl⟩ (fun hHeld => ?_)
     clear hK K
     refine norm_ (a' := ?_) ?_ ?_
     rotate_left
     ·show Act.put _ (some 55) _ = _
      simp only [Act.put, List.setIfInBounds_toArray, List.set_cons_zero, List.set_cons_succ, i64_w, i32_w]
      rfl
     refine pure_ (i := 5) (N := some 50) (v := ?_) (a' := ?_) #[true, true, true, true, true, true, false, false, false, false] rfl rfl (any_of HT_.out zK) (fun _ _ _ h => h) (Or.inl ⟨by rfl, ?_⟩) ?_ ?_
     rotate_left
     ·intro w'
      go_simp
      with_reducible rfl
     rotate_left
     ·simp only [Act.put, List.setIfInBounds_toArray, List.set_cons_zero, List.set_cons_succ, i64_w, i32_w]
      rfl
     refine pure_ (i := 6) (N := some 56) (v := ?_) (a' := ?_) #[true, true, true, true, true, true, true, false, false, false] rfl rfl (any_of HT_.out zK) (fun _ _ _ h => h) (Or.inl ⟨by rfl, ?_⟩) ?_ ?_
     rotate_left
     ·intro w'
      go_simp
      with_reducible rfl
     rotate_left
     ·simp only [Act.put, List.setIfInBounds_toArray, List.set_cons_zero, List.set_cons_succ, i64_w, i32_w]
      rfl
     refine pure_ (i := 7) (N := some 57) (v := ?_) (a' := ?_) #[true, true, true, true, true, true, true, true, false, false] rfl rfl (any_of HT_.out zK) (fun _ _ _ h => h) (Or.inl ⟨by rfl, ?_⟩) ?_ ?_
     rotate_left
     ·intro w'
      go_simp
      with_reducible rfl
     rotate_left
     ·simp only [Act.put, List.setIfInBounds_toArray, List.set_cons_zero, List.set_cons_succ, i64_w, i32_w]
      rfl
     refine pure_ (i := 8) (N := some 12) (v := ?_) (a' := ?_) #[true, true, true, true, true, true, true, true, true, false] rfl rfl (any_of HT_.out zK) (fun _ _ _ h => h) (Or.inl ⟨by rfl, ?_⟩) ?_ ?_
     rotate_left
     ·intro w'
      go_simp
      with_reducible rfl
     rotate_left
     ·simp only [Act.put, List.setIfInBounds_toArray, List.set_cons_zero, List.set_cons_succ, i64_w, i32_w]
      rfl
     refine pure_ (i := 9) (N := some 13) (v := ?_) (a' := ?_) #[true, true, true, true, true, true, true, true, true, true] rfl rfl (any_of HT_.out zK) (fun _ _ _ h => h) (Or.inl ⟨by rfl, ?_⟩) ?_ ?_
     rotate_left
     ·intro w'
      go_simp
      with_reducible rfl
     rotate_left
     ·simp only [Act.put, List.setIfInBounds_toArray, List.set_cons_zero, List.set_cons_succ, i64_w, i32_w]
      rfl
     refine done_ (done_of HT_.out zK) ?_
     try go_wp2_with (first | (go_at_call 20; (with_reducible refine (toponymlaw14_awake.calls kj5  t318 _ (zEnv HE) A103.out).mono ?_); rintro e w108 ⟨rfl, hb⟩; have n_ := zI (aM (blk_below (g := gb303) (o := .cells #[.float .f64 a0_0, .float .f64 a0_1] 24 (0, 0)) (by (with_reducible repeat (first | refine blk_drewN ?_ _ | refine blk_drew ?_ | refine blk_alloc ?_ _)); exact BK303.out) hb)) (zI (aM (blk_below (g := gb304) (o := .cells #[.float .f64 a1_0, .float .f64 a1_1] 24 (0, 0)) (by (with_reducible repeat (first | refine blk_drewN ?_ _ | refine blk_drew ?_ | refine blk_alloc ?_ _)); exact BK304.out) hb)) (aM (below_step (by repeat (first | (with_reducible first | exact HB.out | apply bA | apply bN | apply bD | refine below_set ?_ GE303.out | refine below_set ?_ GE304.out) | exact HB.out)) hb))); clear BK303 BK304 HB; obtain ⟨BK303, BK304, HB⟩ := n_; (try clear hb)))
     go_ret
     exact ⟨zE, by repeat (first | (with_reducible first | exact HB.out | apply bA | apply bN | apply bD | refine below_set ?_ GE303.out | refine below_set ?_ GE304.out) | exact HB.out)⟩
    ·rw [if_neg c102] at H
     exact absurd ((sI H).trans hT.out) (by decide)
end Go.Proofs.YtoadfanppajhhaaDoor.P
