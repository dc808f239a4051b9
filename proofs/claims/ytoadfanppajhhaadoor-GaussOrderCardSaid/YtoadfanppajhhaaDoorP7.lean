-- Printed by wip/mk.py (this session's driver over the kit's print) and from wip/manual.
import Derived.Test.YtoadfanppajhhaaDoorP0
import Derived.Test.YtoadfanppajhhaaDoorP1
import Derived.Test.YtoadfanppajhhaaDoorP2
namespace Go.Proofs.YtoadfanppajhhaaDoor.P
open Go.RowKit Go.Proofs.YtoadfanppajhhaaDoorW.PrintWords Go.Proofs.YtoadfanppajhhaaDoorW.PrintLast Go.Proofs.YtoadfanppajhhaaDoorW.PrintMore
attribute [local go_sem] run_store_float run_store_complex max2_int min2_int max_two min_two max_three min_three max_four min_four   -- for this text's walks alone
set_option linter.unusedVariables false
set_option linter.unusedSimpArgs false

/-! ### toponymlaw14_GaussOrder: function 8 -/
def toponymlaw14_GaussOrder.j0 : Nat → Int → Bool → Nat → Nat → Nat → Nat → Option (Bool)
 | 0, _, _, _, _, _, _ => none
 | k + 1, x7, x57, x330000, x330001, x331000, x331001 => if x57 = true then (some false) else ((toponymlaw14_Two_z.f x330000 x330001).bind fun t344 => ((toponymlaw14_Two_z.f x331000 x331001).bind fun t345 => (if (Go.FloatKind.f64.format.order t344.1 t345.1 == some .eq && Go.FloatKind.f64.format.order t344.2 t345.2 == some .eq) = true then (if ((x7 == 0) == true) = true then ((toponymlaw14_awake.f k).bind fun t346 => (some t346)) else (some false)) else ((toponymlaw14_Two_z.f x330000 x330001).bind fun t347 => ((gauss_Fits.f t347).bind fun t348 => (if t348 = true then (if ((x7 == 0) == false) = true then ((toponymlaw14_awake.f k).bind fun t349 => (some t349)) else (some false)) else ((toponymlaw14_Two_z.f x331000 x331001).bind fun t350 => ((gauss_Fits.f t350).bind fun t351 => (if ((x7 == 0) == (!t351)) = true then ((toponymlaw14_awake.f k).bind fun t352 => (some t352)) else (some false))))))))))
def toponymlaw14_GaussOrder.f (k : Nat) (a0_0 : Nat) (a0_1 : Nat) (a1_0 : Nat) (a1_1 : Nat) (a2_0 : Nat) (a2_1 : Nat) : Option (Bool) := (toponymlaw14_Two_z.f a0_0 a0_1).bind fun t332 => ((toponymlaw14_Two_z.f a1_0 a1_1).bind fun t333 => ((gauss_Cmp.f k t332 t333).bind fun t334 => ((toponymlaw14_Two_z.f a1_0 a1_1).bind fun t335 => ((toponymlaw14_Two_z.f a2_0 a2_1).bind fun t336 => ((gauss_Cmp.f k t335 t336).bind fun t337 => ((toponymlaw14_Two_z.f a0_0 a0_1).bind fun t338 => ((toponymlaw14_Two_z.f a2_0 a2_1).bind fun t339 => ((gauss_Cmp.f k t338 t339).bind fun t340 => ((toponymlaw14_Two_z.f a1_0 a1_1).bind fun t341 => ((toponymlaw14_Two_z.f a0_0 a0_1).bind fun t342 => ((gauss_Cmp.f k t341 t342).bind fun t343 => (if t343 = (wrap64 (-t334)) then (if t334 ≤ 0 then (if t337 ≤ 0 then (if t340 > 0 then (toponymlaw14_GaussOrder.j0 k t334 true a0_0 a0_1 a1_0 a1_1) else (if t334 ≥ 0 then (if t337 ≥ 0 then (toponymlaw14_GaussOrder.j0 k t334 (decide (t340 < 0)) a0_0 a0_1 a1_0 a1_1) else (toponymlaw14_GaussOrder.j0 k t334 false a0_0 a0_1 a1_0 a1_1)) else (toponymlaw14_GaussOrder.j0 k t334 false a0_0 a0_1 a1_0 a1_1))) else (if t334 ≥ 0 then (if t337 ≥ 0 then (toponymlaw14_GaussOrder.j0 k t334 (decide (t340 < 0)) a0_0 a0_1 a1_0 a1_1) else (toponymlaw14_GaussOrder.j0 k t334 false a0_0 a0_1 a1_0 a1_1)) else (toponymlaw14_GaussOrder.j0 k t334 false a0_0 a0_1 a1_0 a1_1))) else (if t334 ≥ 0 then (if t337 ≥ 0 then (toponymlaw14_GaussOrder.j0 k t334 (decide (t340 < 0)) a0_0 a0_1 a1_0 a1_1) else (toponymlaw14_GaussOrder.j0 k t334 false a0_0 a0_1 a1_0 a1_1)) else (toponymlaw14_GaussOrder.j0 k t334 false a0_0 a0_1 a1_0 a1_1))) else (toponymlaw14_GaussOrder.j0 k t334 true a0_0 a0_1 a1_0 a1_1)))))))))))))
theorem toponymlaw14_GaussOrder.mono_l : ∀ k, (∀ y0 y1 y2 y3 y4 y5, LeO (toponymlaw14_GaussOrder.j0 k y0 y1 y2 y3 y4 y5) (toponymlaw14_GaussOrder.j0 (k + 1) y0 y1 y2 y3 y4 y5))
 | 0 => fun _ _ _ _ _ _ r h => by simp [toponymlaw14_GaussOrder.j0] at h
 | k + 1 => by
  have ih0 := toponymlaw14_GaussOrder.mono_l k
  ·intro y0 y1 y2 y3 y4 y5
   unfold toponymlaw14_GaussOrder.j0
   repeat' first
   | (with_reducible exact ih0 _ _ _ _ _ _)
   | (with_reducible exact gauss_Cmp.mono _ _ _)
   | (with_reducible exact toponymlaw14_awake.mono _)
   | (with_reducible exact LeO.refl _)
   | exact ih0 _ _ _ _ _ _
   | exact gauss_Cmp.mono _ _ _
   | exact toponymlaw14_awake.mono _
   | exact LeO.none _
   | refine LeO.ite ?_ ?_
   | refine LeO.bind ?_ (fun _ => ?_)
theorem toponymlaw14_GaussOrder.mono : ∀ a0 a1 a2 a3 a4 a5 k, LeO (toponymlaw14_GaussOrder.f k a0 a1 a2 a3 a4 a5) (toponymlaw14_GaussOrder.f (k + 1) a0 a1 a2 a3 a4 a5) := by
 intro a0 a1 a2 a3 a4 a5 k
 have ih0 := toponymlaw14_GaussOrder.mono_l k
 unfold toponymlaw14_GaussOrder.f
 repeat' first
   | (with_reducible exact ih0 _ _ _ _ _ _)
   | (with_reducible exact gauss_Cmp.mono _ _ _)
   | (with_reducible exact toponymlaw14_awake.mono _)
   | (with_reducible exact LeO.refl _)
   | exact ih0 _ _ _ _ _ _
   | exact gauss_Cmp.mono _ _ _
   | exact toponymlaw14_awake.mono _
   | exact LeO.none _
   | refine LeO.ite ?_ ?_
   | refine LeO.bind ?_ (fun _ => ?_)
def toponymlaw14_GaussOrder.T1 : Bool × List (List Nat × List Nat) := (true, [([], []), ([0], [0]), ([], []), ([2, 1], [2]), ([1, 3, 3], [1, 3]), ([], []), ([5, 4], [5]), ([], []), ([7, 6], [7]), ([6, 8, 8], [6, 8]), ([], []), ([10, 9], [10]), ([], []), ([12, 11], [12]), ([11, 13, 13], [11, 13]), ([4, 14, 0, 1, 2, 3, 4], [4]), ([9, 15, 0, 1, 2, 3, 4, 5, 6, 7, 8, 9, 15], [9]), ([14, 16, 0, 1, 2, 3, 4, 5, 6, 7, 8, 9, 10, 11, 12, 13, 14, 15, 16], [14])])
def toponymlaw14_GaussOrder.B1 : List Nat := [0, 1, 0, 7, 15, 0, 63, 0, 255, 511, 0, 2047, 0, 8191, 16383, 32767, 65535, 131071]
theorem toponymlaw14_GaussOrder.tab1 : rtab .any (opsOf Tryd.f8 1) = toponymlaw14_GaussOrder.T1 := zK
theorem toponymlaw14_GaussOrder.bits1 : waitsOk toponymlaw14_GaussOrder.T1.2 toponymlaw14_GaussOrder.B1 = true := zK
def toponymlaw14_GaussOrder.T2 : Bool × List (List Nat × List Nat) := (true, [([], []), ([0], [0]), ([], []), ([2, 1], [2]), ([1, 3, 3], [1, 3]), ([], []), ([5], [5]), ([4, 6], [4, 6]), ([7, 4], [7]), ([8], [8]), ([9, 8], [8, 9]), ([10, 8, 8], [8, 10]), ([11], [11]), ([12, 11], [11, 12]), ([11, 13, 8], [8, 11, 13]), ([14, 11, 8], [8, 14]), ([15], [15]), ([16, 15], [15, 16]), ([15, 17, 8], [8, 15, 17]), ([8, 18], [8, 18]), ([19, 15], [19]), ([20], [20]), ([21, 20], [20, 21]), ([22, 20, 20], [20, 22]), ([23], [23]), ([24, 23], [23, 24]), ([23, 25, 20], [20, 23, 25]), ([26, 23, 20], [20, 26]), ([27], [27]), ([28, 27], [27, 28]), ([27, 29, 20], [20, 27, 29]), ([20, 30], [20, 30])])
def toponymlaw14_GaussOrder.B2 : List Nat := [0, 1, 0, 7, 15, 0, 32, 127, 255, 511, 1023, 2047, 4095, 8191, 16383, 32767, 65535, 131071, 262143, 524287, 1048575, 2097151, 4194303, 8388607, 16777215, 33554431, 67108863, 134217727, 268435455, 536870911, 1073741823, 2147483647]
theorem toponymlaw14_GaussOrder.tab2 : rtab .any (opsOf Tryd.f8 2) = toponymlaw14_GaussOrder.T2 := zK
theorem toponymlaw14_GaussOrder.bits2 : waitsOk toponymlaw14_GaussOrder.T2.2 toponymlaw14_GaussOrder.B2 = true := zK
def toponymlaw14_GaussOrder.T4 : Bool × List (List Nat × List Nat) := (true, [([], []), ([0], [0]), ([], []), ([2, 1], [2]), ([1, 3], [1, 3]), ([4, 3], [4]), ([5], [5]), ([6, 5, 5], [5, 6]), ([7, 7, 5], [5, 7]), ([8, 5], [5, 8]), ([9, 8, 5], [5, 9]), ([10], [10]), ([11, 10, 10], [10, 11]), ([12, 12, 10], [10, 12]), ([13, 10], [10, 13]), ([10, 14, 5], [5, 10, 14]), ([5, 15], [5, 15]), ([16, 13, 0, 1, 2, 3, 4, 5, 6, 7, 8, 9, 10, 11, 12, 13, 14, 15, 16], [16])])
def toponymlaw14_GaussOrder.B4 : List Nat := [0, 1, 0, 7, 15, 31, 63, 127, 255, 511, 1023, 2047, 4095, 8191, 16383, 32767, 65535, 131071]
theorem toponymlaw14_GaussOrder.tab4 : rtab .any (opsOf Tryd.f8 4) = toponymlaw14_GaussOrder.T4 := zK
theorem toponymlaw14_GaussOrder.bits4 : waitsOk toponymlaw14_GaussOrder.T4.2 toponymlaw14_GaussOrder.B4 = true := zK
set_option maxHeartbeats 8000000 in
set_option maxRecDepth 100000 in
theorem toponymlaw14_GaussOrder.calls (k : Nat) (a0_0 : Nat) (a0_1 : Nat) (a1_0 : Nat) (a1_1 : Nat) (a2_0 : Nat) (a2_1 : Nat) (r : Bool) (w : World) (hE : Env w) (h : toponymlaw14_GaussOrder.f k a0_0 a0_1 a1_0 a1_1 a2_0 a2_1 = some r) (hT_ : r = true) :
  Calls Tryd.prog 8 #[.agg #[.float .f64 a0_0, .float .f64 a0_1], .agg #[.float .f64 a1_0, .float .f64 a1_1], .agg #[.float .f64 a2_0, .float .f64 a2_1]] w fun e w' => e = .returned (.bool r) ∧ Below w.heap.size w w' := by
 have hT := aM hT_
 clear hT_
 have HE := aM hE
 clear hE
 have hu24 := Tryd.underlying24
 have HB := aM (Below.refl w.heap.size w)
 have H := h
 clear h
 unfold toponymlaw14_GaussOrder.f at H
 obtain ⟨t332, A4, H⟩ := zO H
 obtain ⟨t333, A5, H⟩ := zO H
 obtain ⟨t334, A6, H⟩ := zO H
 obtain ⟨t335, A7, H⟩ := zO H
 obtain ⟨t336, A8, H⟩ := zO H
 obtain ⟨t337, A9, H⟩ := zO H
 obtain ⟨t338, A10, H⟩ := zO H
 obtain ⟨t339, A11, H⟩ := zO H
 obtain ⟨t340, A12, H⟩ := zO H
 have HC13 := aM H
 clear H
 go_enter Tryd.func8, Tryd.ntmps8
 try go_wp2_with (first | ((with_reducible refine gate_dst (N := 3) rfl ?_); refine box_event ?hg (N := 3) ?hd (cs := #[.float .f64 a0_0, .float .f64 a0_1]) (t := 24) ?hr ?_; (case hd => rfl); (case hg => rfl); (case hr => first | (go_simp; done) | (go_simp; rfl)); intro gb329 hg w14 hbox hb; have n_ := zI (aM (below_step zB hb)) (zI (aM (hbox)) (zI (aM ((by rw [hg]; exact (below_size zB) : w.heap.size ≤ gb329))) (aM ((by rw [hg]; exact (below_size zB) : w.heap.size ≤ gb329))))); clear HB; obtain ⟨HB, BK329, GW329, GE329⟩ := n_; clear hb hbox hg) | ((with_reducible refine gate_dst (N := 4) rfl ?_); refine box_event ?hg (N := 4) ?hd (cs := #[.float .f64 a1_0, .float .f64 a1_1]) (t := 24) ?hr ?_; (case hd => rfl); (case hg => rfl); (case hr => first | (go_simp; done) | (go_simp; rfl)); intro gb330 hg w15 hbox hb; have n_ := zI (aM (blk_below (zk BK329) hb)) (zI (aM (below_step (by repeat (first | (with_reducible first | exact HB.out | apply bA | apply bN | apply bD | refine below_set ?_ GE329.out) | exact HB.out)) hb)) (zI (aM (hbox)) (zI (aM ((by rw [hg]; exact (below_size (by repeat (first | (with_reducible first | exact HB.out | apply bA | apply bN | apply bD | refine below_set ?_ GE329.out) | exact HB.out))) : w.heap.size ≤ gb330))) (zI (aM ((by rw [hg]; exact (below_size (by repeat (first | (with_reducible first | exact HB.out | apply bA | apply bN | apply bD | refine below_set ?_ GE329.out) | exact HB.out))) : w.heap.size ≤ gb330))) (zI (aM ((by rw [hg]; exact Nat.ne_of_lt (blk_lt (g := gb329) (o := .cells #[.float .f64 a0_0, .float .f64 a0_1] 24 (0, 0)) (by (with_reducible repeat (first | refine blk_drewN ?_ _ | refine blk_drew ?_ | refine blk_alloc ?_ _)); exact BK329.out)) : gb329 ≠ gb330))) (aM ((by rw [hg]; exact Nat.ne_of_gt (blk_lt (g := gb329) (o := .cells #[.float .f64 a0_0, .float .f64 a0_1] 24 (0, 0)) (by (with_reducible repeat (first | refine blk_drewN ?_ _ | refine blk_drew ?_ | refine blk_alloc ?_ _)); exact BK329.out)) : gb330 ≠ gb329)))))))); clear BK329 HB; obtain ⟨BK329, HB, BK330, GW330, GE330, NB329_330, NB330_329⟩ := n_; clear hb hbox hg) | ((with_reducible refine gate_dst (N := 5) rfl ?_); refine box_event ?hg (N := 5) ?hd (cs := #[.float .f64 a2_0, .float .f64 a2_1]) (t := 24) ?hr ?_; (case hd => rfl); (case hg => rfl); (case hr => first | (go_simp; done) | (go_simp; rfl)); intro gb331 hg w16 hbox hb; have n_ := zI (aM (blk_below (zk BK329) hb)) (zI (aM (blk_below (zk BK330) hb)) (zI (aM (below_step (by repeat (first | (with_reducible first | exact HB.out | apply bA | apply bN | apply bD | refine below_set ?_ GE329.out | refine below_set ?_ GE330.out) | exact HB.out)) hb)) (zI (aM (hbox)) (zI (aM ((by rw [hg]; exact (below_size (by repeat (first | (with_reducible first | exact HB.out | apply bA | apply bN | apply bD | refine below_set ?_ GE329.out | refine below_set ?_ GE330.out) | exact HB.out))) : w.heap.size ≤ gb331))) (zI (aM ((by rw [hg]; exact (below_size (by repeat (first | (with_reducible first | exact HB.out | apply bA | apply bN | apply bD | refine below_set ?_ GE329.out | refine below_set ?_ GE330.out) | exact HB.out))) : w.heap.size ≤ gb331))) (zI (aM ((by rw [hg]; exact Nat.ne_of_lt (blk_lt (g := gb329) (o := .cells #[.float .f64 a0_0, .float .f64 a0_1] 24 (0, 0)) (by (with_reducible repeat (first | refine blk_drewN ?_ _ | refine blk_drew ?_ | refine blk_alloc ?_ _)); exact BK329.out)) : gb329 ≠ gb331))) (zI (aM ((by rw [hg]; exact Nat.ne_of_gt (blk_lt (g := gb329) (o := .cells #[.float .f64 a0_0, .float .f64 a0_1] 24 (0, 0)) (by (with_reducible repeat (first | refine blk_drewN ?_ _ | refine blk_drew ?_ | refine blk_alloc ?_ _)); exact BK329.out)) : gb331 ≠ gb329))) (zI (aM ((by rw [hg]; exact Nat.ne_of_lt (blk_lt (g := gb330) (o := .cells #[.float .f64 a1_0, .float .f64 a1_1] 24 (0, 0)) (by (with_reducible repeat (first | refine blk_drewN ?_ _ | refine blk_drew ?_ | refine blk_alloc ?_ _)); exact BK330.out)) : gb330 ≠ gb331))) (aM ((by rw [hg]; exact Nat.ne_of_gt (blk_lt (g := gb330) (o := .cells #[.float .f64 a1_0, .float .f64 a1_1] 24 (0, 0)) (by (with_reducible repeat (first | refine blk_drewN ?_ _ | refine blk_drew ?_ | refine blk_alloc ?_ _)); exact BK330.out)) : gb331 ≠ gb330))))))))))); clear BK329 BK330 HB; obtain ⟨BK329, BK330, HB, BK331, GW331, GE331, NB329_331, NB331_329, NB330_331, NB331_330⟩ := n_; clear hb hbox hg))
 have n0_ := aM (blk_drew BK329.out)
 have n1_ := aM (blk_drew BK330.out)
 have n2_ := aM (blk_drew BK331.out)
 have n3_ := aM (bD HB.out)
 clear BK329
 clear BK330
 clear BK331
 clear HB
 have BK329 := n0_
 have BK330 := n1_
 have BK331 := n2_
 have HB := n3_
 clear n0_ n1_ n2_ n3_
 refine start_ (n := 18) (S := fun w' => w'.cell? ⟨gb329, 0, none⟩ = some (.float .f64 a0_0) ∧ w'.cell? ⟨gb329, 1, none⟩ = some (.float .f64 a0_1) ∧ w'.cell? ⟨gb330, 0, none⟩ = some (.float .f64 a1_0) ∧ w'.cell? ⟨gb330, 1, none⟩ = some (.float .f64 a1_1) ∧ w'.cell? ⟨gb331, 0, none⟩ = some (.float .f64 a2_0) ∧ w'.cell? ⟨gb331, 1, none⟩ = some (.float .f64 a2_1)) (ds := []) #[false, false, false, false, false, false, false, false, false, false, false, false, false, false, false, false, false, false] zK rfl rfl ⟨(blk_cell BK329.out 0).trans rfl, (blk_cell BK329.out 1).trans rfl, (blk_cell BK330.out 0).trans rfl, (blk_cell BK330.out 1).trans rfl, (blk_cell BK331.out 0).trans rfl, (blk_cell BK331.out 1).trans rfl⟩ (fun hHeld => ?_); refine with_tabW toponymlaw14_GaussOrder.tab1 toponymlaw14_GaussOrder.bits1 (fun HT_ HW_ => ?_)
 generalize w16.drew = w17 at BK329 BK330 BK331 HB hHeld ⊢
 refine take_ (i := 0) (N := some 11) (v := ?_) (a' := ?_) #[true, false, false, false, false, false, false, false, false, false, false, false, false, false, false, false, false, false] rfl rfl (take_ofW HT_.out HW_.out zK) (fun _ _ _ h => h) (Or.inl ⟨by rfl, ?_⟩) hHeld ?_ ?_
 rotate_left
 ·rintro w' ⟨s0, s1, s2, s3, s4, s5⟩
  go_simp
  with_reducible rfl
 rotate_left
 ·simp only [Act.put, List.setIfInBounds_toArray, List.set_cons_zero, List.set_cons_succ, i64_w, i32_w]
  rfl
 refine take_ (i := 2) (N := some 13) (v := ?_) (a' := ?_) #[true, false, true, false, false, false, false, false, false, false, false, false, false, false, false, false, false, false] rfl rfl (take_ofW HT_.out HW_.out zK) (fun _ _ _ h => h) (Or.inl ⟨by rfl, ?_⟩) hHeld ?_ ?_
 rotate_left
 ·rintro w' ⟨s0, s1, s2, s3, s4, s5⟩
  go_simp
  with_reducible rfl
 rotate_left
 ·simp only [Act.put, List.setIfInBounds_toArray, List.set_cons_zero, List.set_cons_succ, i64_w, i32_w]
  rfl
 refine take_ (i := 5) (N := some 16) (v := ?_) (a' := ?_) #[true, false, true, false, false, true, false, false, false, false, false, false, false, false, false, false, false, false] rfl rfl (take_ofW HT_.out HW_.out zK) (fun _ _ _ h => h) (Or.inl ⟨by rfl, ?_⟩) hHeld ?_ ?_
 rotate_left
 ·rintro w' ⟨s0, s1, s2, s3, s4, s5⟩
  go_simp
  with_reducible rfl
 rotate_left
 ·simp only [Act.put, List.setIfInBounds_toArray, List.set_cons_zero, List.set_cons_succ, i64_w, i32_w]
  rfl
 refine take_ (i := 7) (N := some 18) (v := ?_) (a' := ?_) #[true, false, true, false, false, true, false, true, false, false, false, false, false, false, false, false, false, false] rfl rfl (take_ofW HT_.out HW_.out zK) (fun _ _ _ h => h) (Or.inl ⟨by rfl, ?_⟩) hHeld ?_ ?_
 rotate_left
 ·rintro w' ⟨s0, s1, s2, s3, s4, s5⟩
  go_simp
  with_reducible rfl
 rotate_left
 ·simp only [Act.put, List.setIfInBounds_toArray, List.set_cons_zero, List.set_cons_succ, i64_w, i32_w]
  rfl
 refine take_ (i := 10) (N := some 21) (v := ?_) (a' := ?_) #[true, false, true, false, false, true, false, true, false, false, true, false, false, false, false, false, false, false] rfl rfl (take_ofW HT_.out HW_.out zK) (fun _ _ _ h => h) (Or.inl ⟨by rfl, ?_⟩) hHeld ?_ ?_
 rotate_left
 ·rintro w' ⟨s0, s1, s2, s3, s4, s5⟩
  go_simp
  with_reducible rfl
 rotate_left
 ·simp only [Act.put, List.setIfInBounds_toArray, List.set_cons_zero, List.set_cons_succ, i64_w, i32_w]
  rfl
 refine take_ (i := 12) (N := some 23) (v := ?_) (a' := ?_) #[true, false, true, false, false, true, false, true, false, false, true, false, true, false, false, false, false, false] rfl rfl (take_ofW HT_.out HW_.out zK) (fun _ _ _ h => h) (Or.inl ⟨by rfl, ?_⟩) hHeld ?_ ?_
 rotate_left
 ·rintro w' ⟨s0, s1, s2, s3, s4, s5⟩
  go_simp
  with_reducible rfl
 rotate_left
 ·simp only [Act.put, List.setIfInBounds_toArray, List.set_cons_zero, List.set_cons_succ, i64_w, i32_w]
  rfl
 refine one_ (i := 1) (N := some 12) #[true, true, true, false, false, true, false, true, false, false, true, false, true, false, false, false, false, false] rfl rfl (one_of HT_.out zK) (by decide) (fun K hK => ?_)
 refine goes_ Tryd.func10 zK rfl #[.agg #[.float .f64 a0_0, .float .f64 a0_1]] (by rfl) rfl rfl zM ?_
 with_reducible refine (toponymlaw14_Two_z.calls a0_0 a0_1 t332 _ A4.out).mono ?_
 rintro e w18 ⟨rfl, hb⟩
 refine ⟨_, rfl, ?_⟩
 have n0_ := aM (blk_below (zk BK329) hb)
 have n1_ := aM (blk_below (zk BK330) hb)
 have n2_ := aM (blk_below (zk BK331) hb)
 have n3_ := aM (below_step (by repeat (first | (with_reducible first | exact HB.out | apply bA | apply bN | apply bD | refine below_set ?_ GE329.out | refine below_set ?_ GE330.out | refine below_set ?_ GE331.out) | exact HB.out)) hb)
 clear BK329
 clear BK330
 clear BK331
 clear HB
 have BK329 := n0_
 have BK330 := n1_
 have BK331 := n2_
 have HB := n3_
 clear n0_ n1_ n2_ n3_
 (try clear hb)
 (try clear hb2)
 (try clear hk)
 (try clear hi)
 refine hK.out _ _ ⟨(blk_cell BK329.out 0).trans rfl, (blk_cell BK329.out 1).trans rfl, (blk_cell BK330.out 0).trans rfl, (blk_cell BK330.out 1).trans rfl, (blk_cell BK331.out 0).trans rfl, (blk_cell BK331.out 1).trans rfl⟩ (fun hHeld => ?_)
 clear hK K
 refine norm_ (a' := ?_) ?_ ?_
 rotate_left
 ·show Act.put _ (some 12) _ = _
  simp only [Act.put, List.setIfInBounds_toArray, List.set_cons_zero, List.set_cons_succ, i64_w, i32_w]
  rfl
 refine one_ (i := 3) (N := some 14) #[true, true, true, true, false, true, false, true, false, false, true, false, true, false, false, false, false, false] rfl rfl (one_of HT_.out zK) (by decide) (fun K hK => ?_)
 refine goes_ Tryd.func10 zK rfl #[.agg #[.float .f64 a1_0, .float .f64 a1_1]] (by rfl) rfl rfl zM ?_
 with_reducible refine (toponymlaw14_Two_z.calls a1_0 a1_1 t333 _ A5.out).mono ?_
 rintro e w19 ⟨rfl, hb⟩
 refine ⟨_, rfl, ?_⟩
 have n0_ := aM (blk_below (zk BK329) hb)
 have n1_ := aM (blk_below (zk BK330) hb)
 have n2_ := aM (blk_below (zk BK331) hb)
 have n3_ := aM (below_step (by repeat (first | (with_reducible first | exact HB.out | apply bA | apply bN | apply bD | refine below_set ?_ GE329.out | refine below_set ?_ GE330.out | refine below_set ?_ GE331.out) | exact HB.out)) hb)
 clear BK329
 clear BK330
 clear BK331
 clear HB
 have BK329 := n0_
 have BK330 := n1_
 have BK331 := n2_
 have HB := n3_
 clear n0_ n1_ n2_ n3_
 (try clear hb)
 (try clear hb2)
 (try clear hk)
 (try clear hi)
 refine hK.out _ _ ⟨(blk_cell BK329.out 0).trans rfl, (blk_cell BK329.out 1).trans rfl, (blk_cell BK330.out 0).trans rfl, (blk_cell BK330.out 1).trans rfl, (blk_cell BK331.out 0).trans rfl, (blk_cell BK331.out 1).trans rfl⟩ (fun hHeld => ?_)
 clear hK K
 refine norm_ (a' := ?_) ?_ ?_
 rotate_left
 ·show Act.put _ (some 14) _ = _
  simp only [Act.put, List.setIfInBounds_toArray, List.set_cons_zero, List.set_cons_succ, i64_w, i32_w]
  rfl
 refine one_ (i := 4) (N := some 15) #[true, true, true, true, true, true, false, true, false, false, true, false, true, false, false, false, false, false] rfl rfl (one_of HT_.out zK) (by decide) (fun K hK => ?_)
 refine goes_ Tryd.func25 zK rfl #[.complex .f64 t332.1 t332.2, .complex .f64 t333.1 t333.2] (by rfl) rfl rfl zM ?_
 with_reducible refine (gauss_Cmp.calls k t332 t333 t334 _ A6.out).mono ?_
 rintro e w20 ⟨rfl, hb⟩
 refine ⟨_, rfl, ?_⟩
 have n0_ := aM (blk_below (zk BK329) hb)
 have n1_ := aM (blk_below (zk BK330) hb)
 have n2_ := aM (blk_below (zk BK331) hb)
 have n3_ := aM (below_step (by repeat (first | (with_reducible first | exact HB.out | apply bA | apply bN | apply bD | refine below_set ?_ GE329.out | refine below_set ?_ GE330.out | refine below_set ?_ GE331.out) | exact HB.out)) hb)
 clear BK329
 clear BK330
 clear BK331
 clear HB
 have BK329 := n0_
 have BK330 := n1_
 have BK331 := n2_
 have HB := n3_
 clear n0_ n1_ n2_ n3_
 (try clear hb)
 (try clear hb2)
 (try clear hk)
 (try clear hi)
 refine hK.out _ _ ⟨(blk_cell BK329.out 0).trans rfl, (blk_cell BK329.out 1).trans rfl, (blk_cell BK330.out 0).trans rfl, (blk_cell BK330.out 1).trans rfl, (blk_cell BK331.out 0).trans rfl, (blk_cell BK331.out 1).trans rfl⟩ (fun hHeld => ?_)
 clear hK K
 refine norm_ (a' := ?_) ?_ ?_
 rotate_left
 ·show Act.put _ (some 15) _ = _
  simp only [Act.put, List.setIfInBounds_toArray, List.set_cons_zero, List.set_cons_succ, i64_w, i32_w]
  rfl
 refine one_ (i := 6) (N := some 17) #[true, true, true, true, true, true, true, true, false, false, true, false, true, false, false, false, false, false] rfl rfl (one_of HT_.out zK) (by decide) (fun K hK => ?_)
 refine goes_ Tryd.func10 zK rfl #[.agg #[.float .f64 a1_0, .float .f64 a1_1]] (by rfl) rfl rfl zM ?_
 with_reducible refine (toponymlaw14_Two_z.calls a1_0 a1_1 t335 _ A7.out).mono ?_
 rintro e w21 ⟨rfl, hb⟩
 refine ⟨_, rfl, ?_⟩
 have n0_ := aM (blk_below (zk BK329) hb)
 have n1_ := aM (blk_below (zk BK330) hb)
 have n2_ := aM (blk_below (zk BK331) hb)
 have n3_ := aM (below_step (by repeat (first | (with_reducible first | exact HB.out | apply bA | apply bN | apply bD | refine below_set ?_ GE329.out | refine below_set ?_ GE330.out | refine below_set ?_ GE331.out) | exact HB.out)) hb)
 clear BK329
 clear BK330
 clear BK331
 clear HB
 have BK329 := n0_
 have BK330 := n1_
 have BK331 := n2_
 have HB := n3_
 clear n0_ n1_ n2_ n3_
 (try clear hb)
 (try clear hb2)
 (try clear hk)
 (try clear hi)
 refine hK.out _ _ ⟨(blk_cell BK329.out 0).trans rfl, (blk_cell BK329.out 1).trans rfl, (blk_cell BK330.out 0).trans rfl, (blk_cell BK330.out 1).trans rfl, (blk_cell BK331.out 0).trans rfl, (blk_cell BK331.out 1).trans rfl⟩ (fun hHeld => ?_)
 clear hK K
 refine norm_ (a' := ?_) ?_ ?_
 rotate_left
 ·show Act.put _ (some 17) _ = _
  simp only [Act.put, List.setIfInBounds_toArray, List.set_cons_zero, List.set_cons_succ, i64_w, i32_w]
  rfl
 refine one_ (i := 8) (N := some 19) #[true, true, true, true, true, true, true, true, true, false, true, false, true, false, false, false, false, false] rfl rfl (one_of HT_.out zK) (by decide) (fun K hK => ?_)
 refine goes_ Tryd.func10 zK rfl #[.agg #[.float .f64 a2_0, .float .f64 a2_1]] (by rfl) rfl rfl zM ?_
 with_reducible refine (toponymlaw14_Two_z.calls a2_0 a2_1 t336 _ A8.out).mono ?_
 rintro e w22 ⟨rfl, hb⟩
 refine ⟨_, rfl, ?_⟩
 have n0_ := aM (blk_below (zk BK329) hb)
 have n1_ := aM (blk_below (zk BK330) hb)
 have n2_ := aM (blk_below (zk BK331) hb)
 have n3_ := aM (below_step (by repeat (first | (with_reducible first | exact HB.out | apply bA | apply bN | apply bD | refine below_set ?_ GE329.out | refine below_set ?_ GE330.out | refine below_set ?_ GE331.out) | exact HB.out)) hb)
 clear BK329
 clear BK330
 clear BK331
 clear HB
 have BK329 := n0_
 have BK330 := n1_
 have BK331 := n2_
 have HB := n3_
 clear n0_ n1_ n2_ n3_
 (try clear hb)
 (try clear hb2)
 (try clear hk)
 (try clear hi)
 refine hK.out _ _ ⟨(blk_cell BK329.out 0).trans rfl, (blk_cell BK329.out 1).trans rfl, (blk_cell BK330.out 0).trans rfl, (blk_cell BK330.out 1).trans rfl, (blk_cell BK331.out 0).trans rfl, (blk_cell BK331.out 1).trans rfl⟩ (fun hHeld => ?_)
 clear hK K
 refine norm_ (a' := ?_) ?_ ?_
 rotate_left
 ·show Act.put _ (some 19) _ = _
  simp only [Act.put, List.setIfInBounds_toArray, List.set_cons_zero, List.set_cons_succ, i64_w, i32_w]
  rfl
 refine one_ (i := 9) (N := some 20) #[true, true, true, true, true, true, true, true, true, true, true, false, true, false, false, false, false, false] rfl rfl (one_of HT_.out zK) (by decide) (fun K hK => ?_)
 refine goes_ Tryd.func25 zK rfl #[.complex .f64 t335.1 t335.2, .complex .f64 t336.1 t336.2] (by rfl) rfl rfl zM ?_
 with_reducible refine (gauss_Cmp.calls k t335 t336 t337 _ A9.out).mono ?_
 rintro e w23 ⟨rfl, hb⟩
 refine ⟨_, rfl, ?_⟩
 have n0_ := aM (blk_below (zk BK329) hb)
 have n1_ := aM (blk_below (zk BK330) hb)
 have n2_ := aM (blk_below (zk BK331) hb)
 have n3_ := aM (below_step (by repeat (first | (with_reducible first | exact HB.out | apply bA | apply bN | apply bD | refine below_set ?_ GE329.out | refine below_set ?_ GE330.out | refine below_set ?_ GE331.out) | exact HB.out)) hb)
 clear BK329
 clear BK330
 clear BK331
 clear HB
 have BK329 := n0_
 have BK330 := n1_
 have BK331 := n2_
 have HB := n3_
 clear n0_ n1_ n2_ n3_
 (try clear hb)
 (try clear hb2)
 (try clear hk)
 (try clear hi)
 refine hK.out _ _ ⟨(blk_cell BK329.out 0).trans rfl, (blk_cell BK329.out 1).trans rfl, (blk_cell BK330.out 0).trans rfl, (blk_cell BK330.out 1).trans rfl, (blk_cell BK331.out 0).trans rfl, (blk_cell BK331.out 1).trans rfl⟩ (fun hHeld => ?_)
 clear hK K
 refine norm_ (a' := ?_) ?_ ?_
 rotate_left
 ·show Act.put _ (some 20) _ = _
  simp only [Act.put, List.setIfInBounds_toArray, List.set_cons_zero, List.set_cons_succ, i64_w, i32_w]
  rfl
 refine one_ (i := 11) (N := some 22) #[true, true, true, true, true, true, true, true, true, true, true, true, true, false, false, false, false, false] rfl rfl (one_of HT_.out zK) (by decide) (fun K hK => ?_)
 refine goes_ Tryd.func10 zK rfl #[.agg #[.float .f64 a0_0, .float .f64 a0_1]] (by rfl) rfl rfl zM ?_
 with_reducible refine (toponymlaw14_Two_z.calls a0_0 a0_1 t338 _ A10.out).mono ?_
 rintro e w24 ⟨rfl, hb⟩
 refine ⟨_, rfl, ?_⟩
 have n0_ := aM (blk_below (zk BK329) hb)
 have n1_ := aM (blk_below (zk BK330) hb)
 have n2_ := aM (blk_below (zk BK331) hb)
 have n3_ := aM (below_step (by repeat (first | (with_reducible first | exact HB.out | apply bA | apply bN | apply bD | refine below_set ?_ GE329.out | refine below_set ?_ GE330.out | refine below_set ?_ GE331.out) | exact HB.out)) hb)
 clear BK329
 clear BK330
 clear BK331
 clear HB
 have BK329 := n0_
 have BK330 := n1_
 have BK331 := n2_
 have HB := n3_
 clear n0_ n1_ n2_ n3_
 (try clear hb)
 (try clear hb2)
 (try clear hk)
 (try clear hi)
 refine hK.out _ _ ⟨(blk_cell BK329.out 0).trans rfl, (blk_cell BK329.out 1).trans rfl, (blk_cell BK330.out 0).trans rfl, (blk_cell BK330.out 1).trans rfl, (blk_cell BK331.out 0).trans rfl, (blk_cell BK331.out 1).trans rfl⟩ (fun hHeld => ?_)
 clear hK K
 refine norm_ (a' := ?_) ?_ ?_
 rotate_left
 ·show Act.put _ (some 22) _ = _
  simp only [Act.put, List.setIfInBounds_toArray, List.set_cons_zero, List.set_cons_succ, i64_w, i32_w]
  rfl
 refine one_ (i := 13) (N := some 24) #[true, true, true, true, true, true, true, true, true, true, true, true, true, true, false, false, false, false] rfl rfl (one_of HT_.out zK) (by decide) (fun K hK => ?_)
 refine goes_ Tryd.func10 zK rfl #[.agg #[.float .f64 a2_0, .float .f64 a2_1]] (by rfl) rfl rfl zM ?_
 with_reducible refine (toponymlaw14_Two_z.calls a2_0 a2_1 t339 _ A11.out).mono ?_
 rintro e w25 ⟨rfl, hb⟩
 refine ⟨_, rfl, ?_⟩
 have n0_ := aM (blk_below (zk BK329) hb)
 have n1_ := aM (blk_below (zk BK330) hb)
 have n2_ := aM (blk_below (zk BK331) hb)
 have n3_ := aM (below_step (by repeat (first | (with_reducible first | exact HB.out | apply bA | apply bN | apply bD | refine below_set ?_ GE329.out | refine below_set ?_ GE330.out | refine below_set ?_ GE331.out) | exact HB.out)) hb)
 clear BK329
 clear BK330
 clear BK331
 clear HB
 have BK329 := n0_
 have BK330 := n1_
 have BK331 := n2_
 have HB := n3_
 clear n0_ n1_ n2_ n3_
 (try clear hb)
 (try clear hb2)
 (try clear hk)
 (try clear hi)
 refine hK.out _ _ ⟨(blk_cell BK329.out 0).trans rfl, (blk_cell BK329.out 1).trans rfl, (blk_cell BK330.out 0).trans rfl, (blk_cell BK330.out 1).trans rfl, (blk_cell BK331.out 0).trans rfl, (blk_cell BK331.out 1).trans rfl⟩ (fun hHeld => ?_)
 clear hK K
 refine norm_ (a' := ?_) ?_ ?_
 rotate_left
 ·show Act.put _ (some 24) _ = _
  simp only [Act.put, List.setIfInBounds_toArray, List.set_cons_zero, List.set_cons_succ, i64_w, i32_w]
  rfl
 refine one_ (i := 14) (N := some 25) #[true, true, true, true, true, true, true, true, true, true, true, true, true, true, true, false, false, false] rfl rfl (one_of HT_.out zK) (by decide) (fun K hK => ?_)
 refine goes_ Tryd.func25 zK rfl #[.complex .f64 t338.1 t338.2, .complex .f64 t339.1 t339.2] (by rfl) rfl rfl zM ?_
 with_reducible refine (gauss_Cmp.calls k t338 t339 t340 _ A12.out).mono ?_
 rintro e w26 ⟨rfl, hb⟩
 refine ⟨_, rfl, ?_⟩
 have n0_ := aM (blk_below (zk BK329) hb)
 have n1_ := aM (blk_below (zk BK330) hb)
 have n2_ := aM (blk_below (zk BK331) hb)
 have n3_ := aM (below_step (by repeat (first | (with_reducible first | exact HB.out | apply bA | apply bN | apply bD | refine below_set ?_ GE329.out | refine below_set ?_ GE330.out | refine below_set ?_ GE331.out) | exact HB.out)) hb)
 clear BK329
 clear BK330
 clear BK331
 clear HB
 have BK329 := n0_
 have BK330 := n1_
 have BK331 := n2_
 have HB := n3_
 clear n0_ n1_ n2_ n3_
 (try clear hb)
 (try clear hb2)
 (try clear hk)
 (try clear hi)
 refine hK.out _ _ ⟨(blk_cell BK329.out 0).trans rfl, (blk_cell BK329.out 1).trans rfl, (blk_cell BK330.out 0).trans rfl, (blk_cell BK330.out 1).trans rfl, (blk_cell BK331.out 0).trans rfl, (blk_cell BK331.out 1).trans rfl⟩ (fun hHeld => ?_)
 clear hK K
 refine norm_ (a' := ?_) ?_ ?_
 rotate_left
 ·show Act.put _ (some 25) _ = _
  simp only [Act.put, List.setIfInBounds_toArray, List.set_cons_zero, List.set_cons_succ, i64_w, i32_w]
  rfl
 refine yP 15 7 (any_of HT_.out zK) ?_
 refine yP 16 8 (any_of HT_.out zK) ?_
 refine yP 17 9 (any_of HT_.out zK) ?_
 refine done_ (done_of HT_.out zK) ?_
 go_upto_region 2 with (fail)
 go_cut [57] (fun v57 wc => ∃ (kq : Nat) (x57_12 : Bool), v57 = .bool x57_12 ∧ Aside0 (toponymlaw14_GaussOrder.j0 kq t334 x57_12 a0_0 a0_1 a1_0 a1_1 = some r) ∧ Aside0 (kq ≤ k) ∧ Aside0 (wc.heap[gb329]? = some (.cells #[.float .f64 a0_0, .float .f64 a0_1] 24 (0, 0))) ∧ Aside0 (wc.heap[gb330]? = some (.cells #[.float .f64 a1_0, .float .f64 a1_1] 24 (0, 0))) ∧ Aside0 (wc.heap[gb331]? = some (.cells #[.float .f64 a2_0, .float .f64 a2_1] 24 (0, 0))) ∧ Aside0 (Below w.heap.size w wc))
 case first =>
  have H := HC13.out
  clear HC13
  obtain ⟨t341, A27, H⟩ := zO H
  obtain ⟨t342, A28, H⟩ := zO H
  obtain ⟨t343, A29, H⟩ := zO H
  by_cases c30 : t343 = (wrap64 (-t334))
  ·rw [if_pos c30] at H
   have c30b0 : (t343 == (wrap64 (-t334))) = true := beq_iff_eq.mpr c30
   have c30b1 : (t343 != (wrap64 (-t334))) = false := bne_eq_false_iff_eq.mpr c30
   clear c30
   (first | rw [c30b0] | (simp only [i64_w, i32_w]; rw [c30b0]) | skip)
   by_cases c31 : t334 ≤ 0
   ·rw [if_pos c31] at H
    have c31b0 : decide (t334 ≤ 0) = true := decide_eq_true c31
    clear c31
    by_cases c32 : t337 ≤ 0
    ·rw [if_pos c32] at H
     have c32b0 : decide (t337 ≤ 0) = true := decide_eq_true c32
     clear c32
     by_cases c33 : t340 > 0
     ·rw [if_pos c33] at H
      have c33b0 : decide (0 < t340) = true := decide_eq_true c33
      clear c33
      have H' := aM H
      clear H
      try go_wp2
      have n0_ := aM (blk_drew BK329.out)
      have n1_ := aM (blk_drew BK330.out)
      have n2_ := aM (blk_drew BK331.out)
      have n3_ := aM (bD HB.out)
      clear BK329
      clear BK330
      clear BK331
      clear HB
      have BK329 := n0_
      have BK330 := n1_
      have BK331 := n2_
      have HB := n3_
      clear n0_ n1_ n2_ n3_
      refine start_ (n := 32) (S := fun w' => w'.cell? ⟨gb330, 0, none⟩ = some (.float .f64 a1_0) ∧ w'.cell? ⟨gb330, 1, none⟩ = some (.float .f64 a1_1) ∧ w'.cell? ⟨gb329, 0, none⟩ = some (.float .f64 a0_0) ∧ w'.cell? ⟨gb329, 1, none⟩ = some (.float .f64 a0_1)) (ds := []) #[false, false, false, false, false, false, false, false, false, false, false, false, false, false, false, false, false, false, false, false, false, false, false, false, false, false, false, false, false, false, false, false] zK rfl rfl ⟨(blk_cell BK330.out 0).trans rfl, (blk_cell BK330.out 1).trans rfl, (blk_cell BK329.out 0).trans rfl, (blk_cell BK329.out 1).trans rfl⟩ (fun hHeld => ?_); refine with_tabW toponymlaw14_GaussOrder.tab2 toponymlaw14_GaussOrder.bits2 (fun HT_ HW_ => ?_)
      generalize w26.drew = w34 at BK329 BK330 BK331 HB hHeld ⊢
      refine yP 5 31 (any_of HT_.out zK) ?_
      refine yP 6 32 (any_of HT_.out zK) ?_
      refine take_ (i := 0) (N := some 26) (v := ?_) (a' := ?_) #[true, false, false, false, false, true, true, false, false, false, false, false, false, false, false, false, false, false, false, false, false, false, false, false, false, false, false, false, false, false, false, false] rfl rfl (take_ofW HT_.out HW_.out zK) (fun _ _ _ h => h) (Or.inl ⟨by rfl, ?_⟩) hHeld ?_ ?_
      rotate_left
      ·rintro w' ⟨s0, s1, s2, s3⟩
       go_simp
       with_reducible rfl
      rotate_left
      ·simp only [Act.put, List.setIfInBounds_toArray, List.set_cons_zero, List.set_cons_succ, i64_w, i32_w]
       rfl
      refine take_ (i := 2) (N := some 28) (v := ?_) (a' := ?_) #[true, false, true, false, false, true, true, false, false, false, false, false, false, false, false, false, false, false, false, false, false, false, false, false, false, false, false, false, false, false, false, false] rfl rfl (take_ofW HT_.out HW_.out zK) (fun _ _ _ h => h) (Or.inl ⟨by rfl, ?_⟩) hHeld ?_ ?_
      rotate_left
      ·rintro w' ⟨s0, s1, s2, s3⟩
       go_simp
       with_reducible rfl
      rotate_left
      ·simp only [Act.put, List.setIfInBounds_toArray, List.set_cons_zero, List.set_cons_succ, i64_w, i32_w]
       rfl
      refine one_ (i := 1) (N := some 27) #[true, true, true, false, false, true, true, false, false, false, false, false, false, false, false, false, false, false, false, false, false, false, false, false, false, false, false, false, false, false, false, false] rfl rfl (one_of HT_.out zK) (by decide) (fun K hK => ?_)
      refine goes_ Tryd.func10 zK rfl #[.agg #[.float .f64 a1_0, .float .f64 a1_1]] (by rfl) rfl rfl zM ?_
      with_reducible refine (toponymlaw14_Two_z.calls a1_0 a1_1 t341 _ A27.out).mono ?_
      rintro e w35 ⟨rfl, hb⟩
      refine ⟨_, rfl, ?_⟩
      have n0_ := aM (blk_below (zk BK329) hb)
      have n1_ := aM (blk_below (zk BK330) hb)
      have n2_ := aM (blk_below (zk BK331) hb)
      have n3_ := aM (below_step (by repeat (first | (with_reducible first | exact HB.out | apply bA | apply bN | apply bD | refine below_set ?_ GE329.out | refine below_set ?_ GE330.out | refine below_set ?_ GE331.out) | exact HB.out)) hb)
      clear BK329
      clear BK330
      clear BK331
      clear HB
      have BK329 := n0_
      have BK330 := n1_
      have BK331 := n2_
      have HB := n3_
      clear n0_ n1_ n2_ n3_
      (try clear hb)
      (try clear hb2)
      (try clear hk)
      (try clear hi)
      refine hK.out _ _ ⟨(blk_cell BK330.out 0).trans rfl, (blk_cell BK330.out 1).trans rfl, (blk_cell BK329.out 0).trans rfl, (blk_cell BK329.out 1).trans rfl⟩ (fun hHeld => ?_)
      clear hK K
      refine norm_ (a' := ?_) ?_ ?_
      rotate_left
      ·show Act.put _ (some 27) _ = _
       simp only [Act.put, List.setIfInBounds_toArray, List.set_cons_zero, List.set_cons_succ, i64_w, i32_w]
       rfl
      refine one_ (i := 3) (N := some 29) #[true, true, true, true, false, true, true, false, false, false, false, false, false, false, false, false, false, false, false, false, false, false, false, false, false, false, false, false, false, false, false, false] rfl rfl (one_of HT_.out zK) (by decide) (fun K hK => ?_)
      refine goes_ Tryd.func10 zK rfl #[.agg #[.float .f64 a0_0, .float .f64 a0_1]] (by rfl) rfl rfl zM ?_
      with_reducible refine (toponymlaw14_Two_z.calls a0_0 a0_1 t342 _ A28.out).mono ?_
      rintro e w36 ⟨rfl, hb⟩
      refine ⟨_, rfl, ?_⟩
      have n0_ := aM (blk_below (zk BK329) hb)
      have n1_ := aM (blk_below (zk BK330) hb)
      have n2_ := aM (blk_below (zk BK331) hb)
      have n3_ := aM (below_step (by repeat (first | (with_reducible first | exact HB.out | apply bA | apply bN | apply bD | refine below_set ?_ GE329.out | refine below_set ?_ GE330.out | refine below_set ?_ GE331.out) | exact HB.out)) hb)
      clear BK329
      clear BK330
      clear BK331
      clear HB
      have BK329 := n0_
      have BK330 := n1_
      have BK331 := n2_
      have HB := n3_
      clear n0_ n1_ n2_ n3_
      (try clear hb)
      (try clear hb2)
      (try clear hk)
      (try clear hi)
      refine hK.out _ _ ⟨(blk_cell BK330.out 0).trans rfl, (blk_cell BK330.out 1).trans rfl, (blk_cell BK329.out 0).trans rfl, (blk_cell BK329.out 1).trans rfl⟩ (fun hHeld => ?_)
      clear hK K
      refine norm_ (a' := ?_) ?_ ?_
      rotate_left
      ·show Act.put _ (some 29) _ = _
       simp only [Act.put, List.setIfInBounds_toArray, List.set_cons_zero, List.set_cons_succ, i64_w, i32_w]
       rfl
      refine one_ (i := 4) (N := some 30) #[true, true, true, true, true, true, true, false, false, false, false, false, false, false, false, false, false, false, false, false, false, false, false, false, false, false, false, false, false, false, false, false] rfl rfl (one_of HT_.out zK) (by decide) (fun K hK => ?_)
      refine goes_ Tryd.func25 zK rfl #[.complex .f64 t341.1 t341.2, .complex .f64 t342.1 t342.2] (by rfl) rfl rfl zM ?_
      with_reducible refine (gauss_Cmp.calls k t341 t342 t343 _ A29.out).mono ?_
      rintro e w37 ⟨rfl, hb⟩
      refine ⟨_, rfl, ?_⟩
      have n0_ := aM (blk_below (zk BK329) hb)
      have n1_ := aM (blk_below (zk BK330) hb)
      have n2_ := aM (blk_below (zk BK331) hb)
      have n3_ := aM (below_step (by repeat (first | (with_reducible first | exact HB.out | apply bA | apply bN | apply bD | refine below_set ?_ GE329.out | refine below_set ?_ GE330.out | refine below_set ?_ GE331.out) | exact HB.out)) hb)
      clear BK329
      clear BK330
      clear BK331
      clear HB
      have BK329 := n0_
      have BK330 := n1_
      have BK331 := n2_
      have HB := n3_
      clear n0_ n1_ n2_ n3_
      (try clear hb)
      (try clear hb2)
      (try clear hk)
      (try clear hi)
      refine hK.out _ _ ⟨(blk_cell BK330.out 0).trans rfl, (blk_cell BK330.out 1).trans rfl, (blk_cell BK329.out 0).trans rfl, (blk_cell BK329.out 1).trans rfl⟩ (fun hHeld => ?_)
      clear hK K
      refine norm_ (a' := ?_) ?_ ?_
      rotate_left
      ·show Act.put _ (some 30) _ = _
       simp only [Act.put, List.setIfInBounds_toArray, List.set_cons_zero, List.set_cons_succ, i64_w, i32_w]
       rfl
      refine yP 7 33 (any_of HT_.out zK) ?_
      refine yP 8 34 (any_of HT_.out zK) ?_
      refine yP 9 35 (any_of HT_.out zK) ?_
      refine yP 10 36 (any_of HT_.out zK) ?_
      refine yP 11 37 (any_of HT_.out zK) ?_
      refine yP 12 38 (any_of HT_.out zK) ?_
      refine yP 13 39 (any_of HT_.out zK) ?_
      refine yP 14 40 (any_of HT_.out zK) ?_
      refine yP 15 41 (any_of HT_.out zK) ?_
      refine yP 16 42 (any_of HT_.out zK) ?_
      refine yP 17 43 (any_of HT_.out zK) ?_
      refine yP 18 44 (any_of HT_.out zK) ?_
      refine yP 19 45 (any_of HT_.out zK) ?_
      refine yP 20 46 (any_of HT_.out zK) ?_
      refine yN 21 47 (any_of HT_.out zK) ?_
      refine yN 22 48 (any_of HT_.out zK) ?_
      refine yN 23 49 (any_of HT_.out zK) ?_
      refine yN 24 50 (any_of HT_.out zK) ?_
      refine yN 25 51 (any_of HT_.out zK) ?_
      refine yN 26 52 (any_of HT_.out zK) ?_
      refine yN 27 53 (any_of HT_.out zK) ?_
      refine yN 28 54 (any_of HT_.out zK) ?_
      refine yN 29 55 (any_of HT_.out zK) ?_
      refine yN 30 56 (any_of HT_.out zK) ?_
      refine yP 31 57 (any_of HT_.out zK) ?_
      refine done_ (done_of HT_.out zK) ?_
      try go_wp2
      go_meet
      case rel => exact ⟨_, (true), zP, H', ⟨by first | omega | exact Nat.le_refl _⟩, ⟨by (with_reducible repeat (first | refine blk_drewN ?_ _ | refine blk_drew ?_ | refine blk_alloc ?_ _)); exact BK329.out⟩, ⟨by (with_reducible repeat (first | refine blk_drewN ?_ _ | refine blk_drew ?_ | refine blk_alloc ?_ _)); exact BK330.out⟩, ⟨by (with_reducible repeat (first | refine blk_drewN ?_ _ | refine blk_drew ?_ | refine blk_alloc ?_ _)); exact BK331.out⟩, ⟨by repeat (first | (with_reducible first | exact HB.out | apply bA | apply bN | apply bD | refine below_set ?_ GE329.out | refine below_set ?_ GE330.out | refine below_set ?_ GE331.out) | exact HB.out)⟩⟩
     ·rw [if_neg c33] at H
      have c33b0 : decide (0 < t340) = false := decide_eq_false c33
      clear c33
      by_cases c38 : t334 ≥ 0
      ·rw [if_pos c38] at H
       have c38b0 : decide (0 ≤ t334) = true := decide_eq_true c38
       clear c38
       by_cases c39 : t337 ≥ 0
       ·rw [if_pos c39] at H
        have c39b0 : decide (0 ≤ t337) = true := decide_eq_true c39
        clear c39
        have H' := aM H
        clear H
        try go_wp2
        have n0_ := aM (blk_drew BK329.out)
        have n1_ := aM (blk_drew BK330.out)
        have n2_ := aM (blk_drew BK331.out)
        have n3_ := aM (bD HB.out)
        clear BK329
        clear BK330
        clear BK331
        clear HB
        have BK329 := n0_
        have BK330 := n1_
        have BK331 := n2_
        have HB := n3_
        clear n0_ n1_ n2_ n3_
        refine start_ (n := 32) (S := fun w' => w'.cell? ⟨gb330, 0, none⟩ = some (.float .f64 a1_0) ∧ w'.cell? ⟨gb330, 1, none⟩ = some (.float .f64 a1_1) ∧ w'.cell? ⟨gb329, 0, none⟩ = some (.float .f64 a0_0) ∧ w'.cell? ⟨gb329, 1, none⟩ = some (.float .f64 a0_1)) (ds := []) #[false, false, false, false, false, false, false, false, false, false, false, false, false, false, false, false, false, false, false, false, false, false, false, false, false, false, false, false, false, false, false, false] zK rfl rfl ⟨(blk_cell BK330.out 0).trans rfl, (blk_cell BK330.out 1).trans rfl, (blk_cell BK329.out 0).trans rfl, (blk_cell BK329.out 1).trans rfl⟩ (fun hHeld => ?_); refine with_tabW toponymlaw14_GaussOrder.tab2 toponymlaw14_GaussOrder.bits2 (fun HT_ HW_ => ?_)
        generalize w26.drew = w40 at BK329 BK330 BK331 HB hHeld ⊢
        refine yP 5 31 (any_of HT_.out zK) ?_
        refine yP 6 32 (any_of HT_.out zK) ?_
        refine take_ (i := 0) (N := some 26) (v := ?_) (a' := ?_) #[true, false, false, false, false, true, true, false, false, false, false, false, false, false, false, false, false, false, false, false, false, false, false, false, false, false, false, false, false, false, false, false] rfl rfl (take_ofW HT_.out HW_.out zK) (fun _ _ _ h => h) (Or.inl ⟨by rfl, ?_⟩) hHeld ?_ ?_
        rotate_left
        ·rintro w' ⟨s0, s1, s2, s3⟩
         go_simp
         with_reducible rfl
        rotate_left
        ·simp only [Act.put, List.setIfInBounds_toArray, List.set_cons_zero, List.set_cons_succ, i64_w, i32_w]
         rfl
        refine take_ (i := 2) (N := some 28) (v := ?_) (a' := ?_) #[true, false, true, false, false, true, true, false, false, false, false, false, false, false, false, false, false, false, false, false, false, false, false, false, false, false, false, false, false, false, false, false] rfl rfl (take_ofW HT_.out HW_.out zK) (fun _ _ _ h => h) (Or.inl ⟨by rfl, ?_⟩) hHeld ?_ ?_
        rotate_left
        ·rintro w' ⟨s0, s1, s2, s3⟩
         go_simp
         with_reducible rfl
        rotate_left
        ·simp only [Act.put, List.setIfInBounds_toArray, List.set_cons_zero, List.set_cons_succ, i64_w, i32_w]
         rfl
        refine one_ (i := 1) (N := some 27) #[true, true, true, false, false, true, true, false, false, false, false, false, false, false, false, false, false, false, false, false, false, false, false, false, false, false, false, false, false, false, false, false] rfl rfl (one_of HT_.out zK) (by decide) (fun K hK => ?_)
        refine goes_ Tryd.func10 zK rfl #[.agg #[.float .f64 a1_0, .float .f64 a1_1]] (by rfl) rfl rfl zM ?_
        with_reducible refine (toponymlaw14_Two_z.calls a1_0 a1_1 t341 _ A27.out).mono ?_
        rintro e w41 ⟨rfl, hb⟩
        refine ⟨_, rfl, ?_⟩
        have n0_ := aM (blk_below (zk BK329) hb)
        have n1_ := aM (blk_below (zk BK330) hb)
        have n2_ := aM (blk_below (zk BK331) hb)
        have n3_ := aM (below_step (by repeat (first | (with_reducible first | exact HB.out | apply bA | apply bN | apply bD | refine below_set ?_ GE329.out | refine below_set ?_ GE330.out | refine below_set ?_ GE331.out) | exact HB.out)) hb)
        clear BK329
        clear BK330
        clear BK331
        clear HB
        have BK329 := n0_
        have BK330 := n1_
        have BK331 := n2_
        have HB := n3_
        clear n0_ n1_ n2_ n3_
        (try clear hb)
        (try clear hb2)
        (try clear hk)
        (try clear hi)
        refine hK.out _ _ ⟨(blk_cell BK330.out 0).trans rfl, (blk_cell BK330.out 1).trans rfl, (blk_cell BK329.out 0).trans rfl, (blk_cell BK329.out 1).trans rfl⟩ (fun hHeld => ?_)
        clear hK K
        refine norm_ (a' := ?_) ?_ ?_
        rotate_left
        ·show Act.put _ (some 27) _ = _
         simp only [Act.put, List.setIfInBounds_toArray, List.set_cons_zero, List.set_cons_succ, i64_w, i32_w]
         rfl
        refine one_ (i := 3) (N := some 29) #[true, true, true, true, false, true, true, false, false, false, false, false, false, false, false, false, false, false, false, false, false, false, false, false, false, false, false, false, false, false, false, false] rfl rfl (one_of HT_.out zK) (by decide) (fun K hK => ?_)
        refine goes_ Tryd.func10 zK rfl #[.agg #[.float .f64 a0_0, .float .f64 a0_1]] (by rfl) rfl rfl zM ?_
        with_reducible refine (toponymlaw14_Two_z.calls a0_0 a0_1 t342 _ A28.out).mono ?_
        rintro e w42 ⟨rfl, hb⟩
        refine ⟨_, rfl, ?_⟩
        have n0_ := aM (blk_below (zk BK329) hb)
        have n1_ := aM (blk_below (zk BK330) hb)
        have n2_ := aM (blk_below (zk BK331) hb)
        have n3_ := aM (below_step (by repeat (first | (with_reducible first | exact HB.out | apply bA | apply bN | apply bD | refine below_set ?_ GE329.out | refine below_set ?_ GE330.out | refine below_set ?_ GE331.out) | exact HB.out)) hb)
        clear BK329
        clear BK330
        clear BK331
        clear HB
        have BK329 := n0_
        have BK330 := n1_
        have BK331 := n2_
        have HB := n3_
        clear n0_ n1_ n2_ n3_
        (try clear hb)
        (try clear hb2)
        (try clear hk)
        (try clear hi)
        refine hK.out _ _ ⟨(blk_cell BK330.out 0).trans rfl, (blk_cell BK330.out 1).trans rfl, (blk_cell BK329.out 0).trans rfl, (blk_cell BK329.out 1).trans rfl⟩ (fun hHeld => ?_)
        clear hK K
        refine norm_ (a' := ?_) ?_ ?_
        rotate_left
        ·show Act.put _ (some 29) _ = _
         simp only [Act.put, List.setIfInBounds_toArray, List.set_cons_zero, List.set_cons_succ, i64_w, i32_w]
         rfl
        refine one_ (i := 4) (N := some 30) #[true, true, true, true, true, true, true, false, false, false, false, false, false, false, false, false, false, false, false, false, false, false, false, false, false, false, false, false, false, false, false, false] rfl rfl (one_of HT_.out zK) (by decide) (fun K hK => ?_)
        refine goes_ Tryd.func25 zK rfl #[.complex .f64 t341.1 t341.2, .complex .f64 t342.1 t342.2] (by rfl) rfl rfl zM ?_
        with_reducible refine (gauss_Cmp.calls k t341 t342 t343 _ A29.out).mono ?_
        rintro e w43 ⟨rfl, hb⟩
        refine ⟨_, rfl, ?_⟩
        have n0_ := aM (blk_below (zk BK329) hb)
        have n1_ := aM (blk_below (zk BK330) hb)
        have n2_ := aM (blk_below (zk BK331) hb)
        have n3_ := aM (below_step (by repeat (first | (with_reducible first | exact HB.out | apply bA | apply bN | apply bD | refine below_set ?_ GE329.out | refine below_set ?_ GE330.out | refine below_set ?_ GE331.out) | exact HB.out)) hb)
        clear BK329
        clear BK330
        clear BK331
        clear HB
        have BK329 := n0_
        have BK330 := n1_
        have BK331 := n2_
        have HB := n3_
        clear n0_ n1_ n2_ n3_
        (try clear hb)
        (try clear hb2)
        (try clear hk)
        (try clear hi)
        refine hK.out _ _ ⟨(blk_cell BK330.out 0).trans rfl, (blk_cell BK330.out 1).trans rfl, (blk_cell BK329.out 0).trans rfl, (blk_cell BK329.out 1).trans rfl⟩ (fun hHeld => ?_)
        clear hK K
        refine norm_ (a' := ?_) ?_ ?_
        rotate_left
        ·show Act.put _ (some 30) _ = _
         simp only [Act.put, List.setIfInBounds_toArray, List.set_cons_zero, List.set_cons_succ, i64_w, i32_w]
         rfl
        refine yP 7 33 (any_of HT_.out zK) ?_
        refine yP 8 34 (any_of HT_.out zK) ?_
        refine yP 9 35 (any_of HT_.out zK) ?_
        refine yP 10 36 (any_of HT_.out zK) ?_
        refine yP 11 37 (any_of HT_.out zK) ?_
        refine yP 12 38 (any_of HT_.out zK) ?_
        refine yP 13 39 (any_of HT_.out zK) ?_
        refine yP 14 40 (any_of HT_.out zK) ?_
        refine yP 15 41 (any_of HT_.out zK) ?_
        refine yP 16 42 (any_of HT_.out zK) ?_
        refine yP 17 43 (any_of HT_.out zK) ?_
        refine yP 18 44 (any_of HT_.out zK) ?_
        refine yP 19 45 (any_of HT_.out zK) ?_
        refine yP 20 46 (any_of HT_.out zK) ?_
        refine yP 21 47 (any_of HT_.out zK) ?_
        refine yP 22 48 (any_of HT_.out zK) ?_
        refine yP 23 49 (any_of HT_.out zK) ?_
        refine yP 24 50 (any_of HT_.out zK) ?_
        refine yP 25 51 (any_of HT_.out zK) ?_
        refine yP 26 52 (any_of HT_.out zK) ?_
        refine yP 27 53 (any_of HT_.out zK) ?_
        refine yP 28 54 (any_of HT_.out zK) ?_
        refine yP 29 55 (any_of HT_.out zK) ?_
        refine yP 30 56 (any_of HT_.out zK) ?_
        refine yP 31 57 (any_of HT_.out zK) ?_
        refine done_ (done_of HT_.out zK) ?_
        try go_wp2
        go_meet
        case rel => exact ⟨_, (decide (t340 < 0)), zP, H', ⟨by first | omega | exact Nat.le_refl _⟩, ⟨by (with_reducible repeat (first | refine blk_drewN ?_ _ | refine blk_drew ?_ | refine blk_alloc ?_ _)); exact BK329.out⟩, ⟨by (with_reducible repeat (first | refine blk_drewN ?_ _ | refine blk_drew ?_ | refine blk_alloc ?_ _)); exact BK330.out⟩, ⟨by (with_reducible repeat (first | refine blk_drewN ?_ _ | refine blk_drew ?_ | refine blk_alloc ?_ _)); exact BK331.out⟩, ⟨by repeat (first | (with_reducible first | exact HB.out | apply bA | apply bN | apply bD | refine below_set ?_ GE329.out | refine below_set ?_ GE330.out | refine below_set ?_ GE331.out) | exact HB.out)⟩⟩
       ·rw [if_neg c39] at H
        have c39b0 : decide (0 ≤ t337) = false := decide_eq_false c39
        clear c39
        have H' := aM H
        clear H
        try go_wp2
        have n0_ := aM (blk_drew BK329.out)
        have n1_ := aM (blk_drew BK330.out)
        have n2_ := aM (blk_drew BK331.out)
        have n3_ := aM (bD HB.out)
        clear BK329
        clear BK330
        clear BK331
        clear HB
        have BK329 := n0_
        have BK330 := n1_
        have BK331 := n2_
        have HB := n3_
        clear n0_ n1_ n2_ n3_
        refine start_ (n := 32) (S := fun w' => w'.cell? ⟨gb330, 0, none⟩ = some (.float .f64 a1_0) ∧ w'.cell? ⟨gb330, 1, none⟩ = some (.float .f64 a1_1) ∧ w'.cell? ⟨gb329, 0, none⟩ = some (.float .f64 a0_0) ∧ w'.cell? ⟨gb329, 1, none⟩ = some (.float .f64 a0_1)) (ds := []) #[false, false, false, false, false, false, false, false, false, false, false, false, false, false, false, false, false, false, false, false, false, false, false, false, false, false, false, false, false, false, false, false] zK rfl rfl ⟨(blk_cell BK330.out 0).trans rfl, (blk_cell BK330.out 1).trans rfl, (blk_cell BK329.out 0).trans rfl, (blk_cell BK329.out 1).trans rfl⟩ (fun hHeld => ?_); refine with_tabW toponymlaw14_GaussOrder.tab2 toponymlaw14_GaussOrder.bits2 (fun HT_ HW_ => ?_)
        generalize w26.drew = w44 at BK329 BK330 BK331 HB hHeld ⊢
        refine yP 5 31 (any_of HT_.out zK) ?_
        refine yP 6 32 (any_of HT_.out zK) ?_
        refine take_ (i := 0) (N := some 26) (v := ?_) (a' := ?_) #[true, false, false, false, false, true, true, false, false, false, false, false, false, false, false, false, false, false, false, false, false, false, false, false, false, false, false, false, false, false, false, false] rfl rfl (take_ofW HT_.out HW_.out zK) (fun _ _ _ h => h) (Or.inl ⟨by rfl, ?_⟩) hHeld ?_ ?_
        rotate_left
        ·rintro w' ⟨s0, s1, s2, s3⟩
         go_simp
         with_reducible rfl
        rotate_left
        ·simp only [Act.put, List.setIfInBounds_toArray, List.set_cons_zero, List.set_cons_succ, i64_w, i32_w]
         rfl
        refine take_ (i := 2) (N := some 28) (v := ?_) (a' := ?_) #[true, false, true, false, false, true, true, false, false, false, false, false, false, false, false, false, false, false, false, false, false, false, false, false, false, false, false, false, false, false, false, false] rfl rfl (take_ofW HT_.out HW_.out zK) (fun _ _ _ h => h) (Or.inl ⟨by rfl, ?_⟩) hHeld ?_ ?_
        rotate_left
        ·rintro w' ⟨s0, s1, s2, s3⟩
         go_simp
         with_reducible rfl
        rotate_left
        ·simp only [Act.put, List.setIfInBounds_toArray, List.set_cons_zero, List.set_cons_succ, i64_w, i32_w]
         rfl
        refine one_ (i := 1) (N := some 27) #[true, true, true, false, false, true, true, false, false, false, false, false, false, false, false, false, false, false, false, false, false, false, false, false, false, false, false, false, false, false, false, false] rfl rfl (one_of HT_.out zK) (by decide) (fun K hK => ?_)
        refine goes_ Tryd.func10 zK rfl #[.agg #[.float .f64 a1_0, .float .f64 a1_1]] (by rfl) rfl rfl zM ?_
        with_reducible refine (toponymlaw14_Two_z.calls a1_0 a1_1 t341 _ A27.out).mono ?_
        rintro e w45 ⟨rfl, hb⟩
        refine ⟨_, rfl, ?_⟩
        have n0_ := aM (blk_below (zk BK329) hb)
        have n1_ := aM (blk_below (zk BK330) hb)
        have n2_ := aM (blk_below (zk BK331) hb)
        have n3_ := aM (below_step (by repeat (first | (with_reducible first | exact HB.out | apply bA | apply bN | apply bD | refine below_set ?_ GE329.out | refine below_set ?_ GE330.out | refine below_set ?_ GE331.out) | exact HB.out)) hb)
        clear BK329
        clear BK330
        clear BK331
        clear HB
        have BK329 := n0_
        have BK330 := n1_
        have BK331 := n2_
        have HB := n3_
        clear n0_ n1_ n2_ n3_
        (try clear hb)
        (try clear hb2)
        (try clear hk)
        (try clear hi)
        refine hK.out _ _ ⟨(blk_cell BK330.out 0).trans rfl, (blk_cell BK330.out 1).trans rfl, (blk_cell BK329.out 0).trans rfl, (blk_cell BK329.out 1).trans rfl⟩ (fun hHeld => ?_)
        clear hK K
        refine norm_ (a' := ?_) ?_ ?_
        rotate_left
        ·show Act.put _ (some 27) _ = _
         simp only [Act.put, List.setIfInBounds_toArray, List.set_cons_zero, List.set_cons_succ, i64_w, i32_w]
         rfl
        refine one_ (i := 3) (N := some 29) #[true, true, true, true, false, true, true, false, false, false, false, false, false, false, false, false, false, false, false, false, false, false, false, false, false, false, false, false, false, false, false, false] rfl rfl (one_of HT_.out zK) (by decide) (fun K hK => ?_)
        refine goes_ Tryd.func10 zK rfl #[.agg #[.float .f64 a0_0, .float .f64 a0_1]] (by rfl) rfl rfl zM ?_
        with_reducible refine (toponymlaw14_Two_z.calls a0_0 a0_1 t342 _ A28.out).mono ?_
        rintro e w46 ⟨rfl, hb⟩
        refine ⟨_, rfl, ?_⟩
        have n0_ := aM (blk_below (zk BK329) hb)
        have n1_ := aM (blk_below (zk BK330) hb)
        have n2_ := aM (blk_below (zk BK331) hb)
        have n3_ := aM (below_step (by repeat (first | (with_reducible first | exact HB.out | apply bA | apply bN | apply bD | refine below_set ?_ GE329.out | refine below_set ?_ GE330.out | refine below_set ?_ GE331.out) | exact HB.out)) hb)
        clear BK329
        clear BK330
        clear BK331
        clear HB
        have BK329 := n0_
        have BK330 := n1_
        have BK331 := n2_
        have HB := n3_
        clear n0_ n1_ n2_ n3_
        (try clear hb)
        (try clear hb2)
        (try clear hk)
        (try clear hi)
        refine hK.out _ _ ⟨(blk_cell BK330.out 0).trans rfl, (blk_cell BK330.out 1).trans rfl, (blk_cell BK329.out 0).trans rfl, (blk_cell BK329.out 1).trans rfl⟩ (fun hHeld => ?_)
        clear hK K
        refine norm_ (a' := ?_) ?_ ?_
        rotate_left
        ·show Act.put _ (some 29) _ = _
         simp only [Act.put, List.setIfInBounds_toArray, List.set_cons_zero, List.set_cons_succ, i64_w, i32_w]
         rfl
        refine one_ (i := 4) (N := some 30) #[true, true, true, true, true, true, true, false, false, false, false, false, false, false, false, false, false, false, false, false, false, false, false, false, false, false, false, false, false, false, false, false] rfl rfl (one_of HT_.out zK) (by decide) (fun K hK => ?_)
        refine goes_ Tryd.func25 zK rfl #[.complex .f64 t341.1 t341.2, .complex .f64 t342.1 t342.2] (by rfl) rfl rfl zM ?_
        with_reducible refine (gauss_Cmp.calls k t341 t342 t343 _ A29.out).mono ?_
        rintro e w47 ⟨rfl, hb⟩
        refine ⟨_, rfl, ?_⟩
        have n0_ := aM (blk_below (zk BK329) hb)
        have n1_ := aM (blk_below (zk BK330) hb)
        have n2_ := aM (blk_below (zk BK331) hb)
        have n3_ := aM (below_step (by repeat (first | (with_reducible first | exact HB.out | apply bA | apply bN | apply bD | refine below_set ?_ GE329.out | refine below_set ?_ GE330.out | refine below_set ?_ GE331.out) | exact HB.out)) hb)
        clear BK329
        clear BK330
        clear BK331
        clear HB
        have BK329 := n0_
        have BK330 := n1_
        have BK331 := n2_
        have HB := n3_
        clear n0_ n1_ n2_ n3_
        (try clear hb)
        (try clear hb2)
        (try clear hk)
        (try clear hi)
        refine hK.out _ _ ⟨(blk_cell BK330.out 0).trans rfl, (blk_cell BK330.out 1).trans rfl, (blk_cell BK329.out 0).trans rfl, (blk_cell BK329.out 1).trans rfl⟩ (fun hHeld => ?_)
        clear hK K
        refine norm_ (a' := ?_) ?_ ?_
        rotate_left
        ·show Act.put _ (some 30) _ = _
         simp only [Act.put, List.setIfInBounds_toArray, List.set_cons_zero, List.set_cons_succ, i64_w, i32_w]
         rfl
        refine yP 7 33 (any_of HT_.out zK) ?_
        refine yP 8 34 (any_of HT_.out zK) ?_
        refine yP 9 35 (any_of HT_.out zK) ?_
        refine yP 10 36 (any_of HT_.out zK) ?_
        refine yP 11 37 (any_of HT_.out zK) ?_
        refine yP 12 38 (any_of HT_.out zK) ?_
        refine yP 13 39 (any_of HT_.out zK) ?_
        refine yP 14 40 (any_of HT_.out zK) ?_
        refine yP 15 41 (any_of HT_.out zK) ?_
        refine yP 16 42 (any_of HT_.out zK) ?_
        refine yP 17 43 (any_of HT_.out zK) ?_
        refine yP 18 44 (any_of HT_.out zK) ?_
        refine yP 19 45 (any_of HT_.out zK) ?_
        refine yP 20 46 (any_of HT_.out zK) ?_
        refine yP 21 47 (any_of HT_.out zK) ?_
        refine yP 22 48 (any_of HT_.out zK) ?_
        refine yP 23 49 (any_of HT_.out zK) ?_
        refine yP 24 50 (any_of HT_.out zK) ?_
        refine yP 25 51 (any_of HT_.out zK) ?_
        refine yP 26 52 (any_of HT_.out zK) ?_
        refine yP 27 53 (any_of HT_.out zK) ?_
        refine yN 28 54 (any_of HT_.out zK) ?_
        refine yN 29 55 (any_of HT_.out zK) ?_
        refine yP 30 56 (any_of HT_.out zK) ?_
        refine yP 31 57 (any_of HT_.out zK) ?_
        refine done_ (done_of HT_.out zK) ?_
        try go_wp2
        go_meet
        case rel => exact ⟨_, (false), zP, H', ⟨by first | omega | exact Nat.le_refl _⟩, ⟨by (with_reducible repeat (first | refine blk_drewN ?_ _ | refine blk_drew ?_ | refine blk_alloc ?_ _)); exact BK329.out⟩, ⟨by (with_reducible repeat (first | refine blk_drewN ?_ _ | refine blk_drew ?_ | refine blk_alloc ?_ _)); exact BK330.out⟩, ⟨by (with_reducible repeat (first | refine blk_drewN ?_ _ | refine blk_drew ?_ | refine blk_alloc ?_ _)); exact BK331.out⟩, ⟨by repeat (first | (with_reducible first | exact HB.out | apply bA | apply bN | apply bD | refine below_set ?_ GE329.out | refine below_set ?_ GE330.out | refine below_set ?_ GE331.out) | exact HB.out)⟩⟩
      ·rw [if_neg c38] at H
       have c38b0 : decide (0 ≤ t334) = false := decide_eq_false c38
       clear c38
       have H' := aM H
       clear H
       try go_wp2
       have n0_ := aM (blk_drew BK329.out)
       have n1_ := aM (blk_drew BK330.out)
       have n2_ := aM (blk_drew BK331.out)
       have n3_ := aM (bD HB.out)
       clear BK329
       clear BK330
       clear BK331
       clear HB
       have BK329 := n0_
       have BK330 := n1_
       have BK331 := n2_
       have HB := n3_
       clear n0_ n1_ n2_ n3_
       refine start_ (n := 32) (S := fun w' => w'.cell? ⟨gb330, 0, none⟩ = some (.float .f64 a1_0) ∧ w'.cell? ⟨gb330, 1, none⟩ = some (.float .f64 a1_1) ∧ w'.cell? ⟨gb329, 0, none⟩ = some (.float .f64 a0_0) ∧ w'.cell? ⟨gb329, 1, none⟩ = some (.float .f64 a0_1)) (ds := []) #[false, false, false, false, false, false, false, false, false, false, false, false, false, false, false, false, false, false, false, false, false, false, false, false, false, false, false, false, false, false, false, false] zK rfl rfl ⟨(blk_cell BK330.out 0).trans rfl, (blk_cell BK330.out 1).trans rfl, (blk_cell BK329.out 0).trans rfl, (blk_cell BK329.out 1).trans rfl⟩ (fun hHeld => ?_); refine with_tabW toponymlaw14_GaussOrder.tab2 toponymlaw14_GaussOrder.bits2 (fun HT_ HW_ => ?_)
       generalize w26.drew = w48 at BK329 BK330 BK331 HB hHeld ⊢
       refine yP 5 31 (any_of HT_.out zK) ?_
       refine yP 6 32 (any_of HT_.out zK) ?_
       refine take_ (i := 0) (N := some 26) (v := ?_) (a' := ?_) #[true, false, false, false, false, true, true, false, false, false, false, false, false, false, false, false, false, false, false, false, false, false, false, false, false, false, false, false, false, false, false, false] rfl rfl (take_ofW HT_.out HW_.out zK) (fun _ _ _ h => h) (Or.inl ⟨by rfl, ?_⟩) hHeld ?_ ?_
       rotate_left
       ·rintro w' ⟨s0, s1, s2, s3⟩
        go_simp
        with_reducible rfl
       rotate_left
       ·simp only [Act.put, List.setIfInBounds_toArray, List.set_cons_zero, List.set_cons_succ, i64_w, i32_w]
        rfl
       refine take_ (i := 2) (N := some 28) (v := ?_) (a' := ?_) #[true, false, true, false, false, true, true, false, false, false, false, false, false, false, false, false, false, false, false, false, false, false, false, false, false, false, false, false, false, false, false, false] rfl rfl (take_ofW HT_.out HW_.out zK) (fun _ _ _ h => h) (Or.inl ⟨by rfl, ?_⟩) hHeld ?_ ?_
       rotate_left
       ·rintro w' ⟨s0, s1, s2, s3⟩
        go_simp
        with_reducible rfl
       rotate_left
       ·simp only [Act.put, List.setIfInBounds_toArray, List.set_cons_zero, List.set_cons_succ, i64_w, i32_w]
        rfl
       refine one_ (i := 1) (N := some 27) #[true, true, true, false, false, true, true, false, false, false, false, false, false, false, false, false, false, false, false, false, false, false, false, false, false, false, false, false, false, false, false, false] rfl rfl (one_of HT_.out zK) (by decide) (fun K hK => ?_)
       refine goes_ Tryd.func10 zK rfl #[.agg #[.float .f64 a1_0, .float .f64 a1_1]] (by rfl) rfl rfl zM ?_
       with_reducible refine (toponymlaw14_Two_z.calls a1_0 a1_1 t341 _ A27.out).mono ?_
       rintro e w49 ⟨rfl, hb⟩
       refine ⟨_, rfl, ?_⟩
       have n0_ := aM (blk_below (zk BK329) hb)
       have n1_ := aM (blk_below (zk BK330) hb)
       have n2_ := aM (blk_below (zk BK331) hb)
       have n3_ := aM (below_step (by repeat (first | (with_reducible first | exact HB.out | apply bA | apply bN | apply bD | refine below_set ?_ GE329.out | refine below_set ?_ GE330.out | refine below_set ?_ GE331.out) | exact HB.out)) hb)
       clear BK329
       clear BK330
       clear BK331
       clear HB
       have BK329 := n0_
       have BK330 := n1_
       have BK331 := n2_
       have HB := n3_
       clear n0_ n1_ n2_ n3_
       (try clear hb)
       (try clear hb2)
       (try clear hk)
       (try clear hi)
       refine hK.out _ _ ⟨(blk_cell BK330.out 0).trans rfl, (blk_cell BK330.out 1).trans rfl, (blk_cell BK329.out 0).trans rfl, (blk_cell BK329.out 1).trans rfl⟩ (fun hHeld => ?_)
       clear hK K
       refine norm_ (a' := ?_) ?_ ?_
       rotate_left
       ·show Act.put _ (some 27) _ = _
        simp only [Act.put, List.setIfInBounds_toArray, List.set_cons_zero, List.set_cons_succ, i64_w, i32_w]
        rfl
       refine one_ (i := 3) (N := some 29) #[true, true, true, true, false, true, true, false, false, false, false, false, false, false, false, false, false, false, false, false, false, false, false, false, false, false, false, false, false, false, false, false] rfl rfl (one_of HT_.out zK) (by decide) (fun K hK => ?_)
       refine goes_ Tryd.func10 zK rfl #[.agg #[.float .f64 a0_0, .float .f64 a0_1]] (by rfl) rfl rfl zM ?_
       with_reducible refine (toponymlaw14_Two_z.calls a0_0 a0_1 t342 _ A28.out).mono ?_
       rintro e w50 ⟨rfl, hb⟩
       refine ⟨_, rfl, ?_⟩
       have n0_ := aM (blk_below (zk BK329) hb)
       have n1_ := aM (blk_below (zk BK330) hb)
       have n2_ := aM (blk_below (zk BK331) hb)
       have n3_ := aM (below_step (by repeat (first | (with_reducible first | exact HB.out | apply bA | apply bN | apply bD | refine below_set ?_ GE329.out | refine below_set ?_ GE330.out | refine below_set ?_ GE331.out) | exact HB.out)) hb)
       clear BK329
       clear BK330
       clear BK331
       clear HB
       have BK329 := n0_
       have BK330 := n1_
       have BK331 := n2_
       have HB := n3_
       clear n0_ n1_ n2_ n3_
       (try clear hb)
       (try clear hb2)
       (try clear hk)
       (try clear hi)
       refine hK.out _ _ ⟨(blk_cell BK330.out 0).trans rfl, (blk_cell BK330.out 1).trans rfl, (blk_cell BK329.out 0).trans rfl, (blk_cell BK329.out 1).trans rfl⟩ (fun hHeld => ?_)
       clear hK K
       refine norm_ (a' := ?_) ?_ ?_
       rotate_left
       ·show Act.put _ (some 29) _ = _
        simp only [Act.put, List.setIfInBounds_toArray, List.set_cons_zero, List.set_cons_succ, i64_w, i32_w]
        rfl
       refine one_ (i := 4) (N := some 30) #[true, true, true, true, true, true, true, false, false, false, false, false, false, false, false, false, false, false, false, false, false, false, false, false, false, false, false, false, false, false, false, false] rfl rfl (one_of HT_.out zK) (by decide) (fun K hK => ?_)
       refine goes_ Tryd.func25 zK rfl #[.complex .f64 t341.1 t341.2, .complex .f64 t342.1 t342.2] (by rfl) rfl rfl zM ?_
       with_reducible refine (gauss_Cmp.calls k t341 t342 t343 _ A29.out).mono ?_
       rintro e w51 ⟨rfl, hb⟩
       refine ⟨_, rfl, ?_⟩
       have n0_ := aM (blk_below (zk BK329) hb)
       have n1_ := aM (blk_below (zk BK330) hb)
       have n2_ := aM (blk_below (zk BK331) hb)
       have n3_ := aM (below_step (by repeat (first | (with_reducible first | exact HB.out | apply bA | apply bN | apply bD | refine below_set ?_ GE329.out | refine below_set ?_ GE330.out | refine below_set ?_ GE331.out) | exact HB.out)) hb)
       clear BK329
       clear BK330
       clear BK331
       clear HB
       have BK329 := n0_
       have BK330 := n1_
       have BK331 := n2_
       have HB := n3_
       clear n0_ n1_ n2_ n3_
       (try clear hb)
       (try clear hb2)
       (try clear hk)
       (try clear hi)
       refine hK.out _ _ ⟨(blk_cell BK330.out 0).trans rfl, (blk_cell BK330.out 1).trans rfl, (blk_cell BK329.out 0).trans rfl, (blk_cell BK329.out 1).trans rfl⟩ (fun hHeld => ?_)
       clear hK K
       refine norm_ (a' := ?_) ?_ ?_
       rotate_left
       ·show Act.put _ (some 30) _ = _
        simp only [Act.put, List.setIfInBounds_toArray, List.set_cons_zero, List.set_cons_succ, i64_w, i32_w]
        rfl
       refine yP 7 33 (any_of HT_.out zK) ?_
       refine yP 8 34 (any_of HT_.out zK) ?_
       refine yP 9 35 (any_of HT_.out zK) ?_
       refine yP 10 36 (any_of HT_.out zK) ?_
       refine yP 11 37 (any_of HT_.out zK) ?_
       refine yP 12 38 (any_of HT_.out zK) ?_
       refine yP 13 39 (any_of HT_.out zK) ?_
       refine yP 14 40 (any_of HT_.out zK) ?_
       refine yP 15 41 (any_of HT_.out zK) ?_
       refine yP 16 42 (any_of HT_.out zK) ?_
       refine yP 17 43 (any_of HT_.out zK) ?_
       refine yP 18 44 (any_of HT_.out zK) ?_
       refine yP 19 45 (any_of HT_.out zK) ?_
       refine yP 20 46 (any_of HT_.out zK) ?_
       refine yP 21 47 (any_of HT_.out zK) ?_
       refine yP 22 48 (any_of HT_.out zK) ?_
       refine yP 23 49 (any_of HT_.out zK) ?_
       refine yN 24 50 (any_of HT_.out zK) ?_
       refine yN 25 51 (any_of HT_.out zK) ?_
       refine yP 26 52 (any_of HT_.out zK) ?_
       refine yP 27 53 (any_of HT_.out zK) ?_
       refine yN 28 54 (any_of HT_.out zK) ?_
       refine yN 29 55 (any_of HT_.out zK) ?_
       refine yP 30 56 (any_of HT_.out zK) ?_
       refine yP 31 57 (any_of HT_.out zK) ?_
       refine done_ (done_of HT_.out zK) ?_
       try go_wp2
       go_meet
       case rel => exact ⟨_, (false), zP, H', ⟨by first | omega | exact Nat.le_refl _⟩, ⟨by (with_reducible repeat (first | refine blk_drewN ?_ _ | refine blk_drew ?_ | refine blk_alloc ?_ _)); exact BK329.out⟩, ⟨by (with_reducible repeat (first | refine blk_drewN ?_ _ | refine blk_drew ?_ | refine blk_alloc ?_ _)); exact BK330.out⟩, ⟨by (with_reducible repeat (first | refine blk_drewN ?_ _ | refine blk_drew ?_ | refine blk_alloc ?_ _)); exact BK331.out⟩, ⟨by repeat (first | (with_reducible first | exact HB.out | apply bA | apply bN | apply bD | refine below_set ?_ GE329.out | refine below_set ?_ GE330.out | refine below_set ?_ GE331.out) | exact HB.out)⟩⟩
    ·rw [if_neg c32] at H
     have c32b0 : decide (t337 ≤ 0) = false := decide_eq_false c32
     clear c32
     by_cases c52 : t334 ≥ 0
     ·rw [if_pos c52] at H
      have c52b0 : decide (0 ≤ t334) = true := decide_eq_true c52
      clear c52
      by_cases c53 : t337 ≥ 0
      ·rw [if_pos c53] at H
       have c53b0 : decide (0 ≤ t337) = true := decide_eq_true c53
       clear c53
       have H' := aM H
       clear H
       try go_wp2
       have n0_ := aM (blk_drew BK329.out)
       have n1_ := aM (blk_drew BK330.out)
       have n2_ := aM (blk_drew BK331.out)
       have n3_ := aM (bD HB.out)
       clear BK329
       clear BK330
       clear BK331
       clear HB
       have BK329 := n0_
       have BK330 := n1_
       have BK331 := n2_
       have HB := n3_
       clear n0_ n1_ n2_ n3_
       refine start_ (n := 32) (S := fun w' => w'.cell? ⟨gb330, 0, none⟩ = some (.float .f64 a1_0) ∧ w'.cell? ⟨gb330, 1, none⟩ = some (.float .f64 a1_1) ∧ w'.cell? ⟨gb329, 0, none⟩ = some (.float .f64 a0_0) ∧ w'.cell? ⟨gb329, 1, none⟩ = some (.float .f64 a0_1)) (ds := []) #[false, false, false, false, false, false, false, false, false, false, false, false, false, false, false, false, false, false, false, false, false, false, false, false, false, false, false, false, false, false, false, false] zK rfl rfl ⟨(blk_cell BK330.out 0).trans rfl, (blk_cell BK330.out 1).trans rfl, (blk_cell BK329.out 0).trans rfl, (blk_cell BK329.out 1).trans rfl⟩ (fun hHeld => ?_); refine with_tabW toponymlaw14_GaussOrder.tab2 toponymlaw14_GaussOrder.bits2 (fun HT_ HW_ => ?_)
       generalize w26.drew = w54 at BK329 BK330 BK331 HB hHeld ⊢
       refine yP 5 31 (any_of HT_.out zK) ?_
       refine yP 6 32 (any_of HT_.out zK) ?_
       refine take_ (i := 0) (N := some 26) (v := ?_) (a' := ?_) #[true, false, false, false, false, true, true, false, false, false, false, false, false, false, false, false, false, false, false, false, false, false, false, false, false, false, false, false, false, false, false, false] rfl rfl (take_ofW HT_.out HW_.out zK) (fun _ _ _ h => h) (Or.inl ⟨by rfl, ?_⟩) hHeld ?_ ?_
       rotate_left
       ·rintro w' ⟨s0, s1, s2, s3⟩
        go_simp
        with_reducible rfl
       rotate_left
       ·simp only [Act.put, List.setIfInBounds_toArray, List.set_cons_zero, List.set_cons_succ, i64_w, i32_w]
        rfl
       refine take_ (i := 2) (N := some 28) (v := ?_) (a' := ?_) #[true, false, true, false, false, true, true, false, false, false, false, false, false, false, false, false, false, false, false, false, false, false, false, false, false, false, false, false, false, false, false, false] rfl rfl (take_ofW HT_.out HW_.out zK) (fun _ _ _ h => h) (Or.inl ⟨by rfl, ?_⟩) hHeld ?_ ?_
       rotate_left
       ·rintro w' ⟨s0, s1, s2, s3⟩
        go_simp
        with_reducible rfl
       rotate_left
       ·simp only [Act.put, List.setIfInBounds_toArray, List.set_cons_zero, List.set_cons_succ, i64_w, i32_w]
        rfl
       refine one_ (i := 1) (N := some 27) #[true, true, true, false, false, true, true, false, false, false, false, false, false, false, false, false, false, false, false, false, false, false, false, false, false, false, false, false, false, false, false, false] rfl rfl (one_of HT_.out zK) (by decide) (fun K hK => ?_)
       refine goes_ Tryd.func10 zK rfl #[.agg #[.float .f64 a1_0, .float .f64 a1_1]] (by rfl) rfl rfl zM ?_
       with_reducible refine (toponymlaw14_Two_z.calls a1_0 a1_1 t341 _ A27.out).mono ?_
       rintro e w55 ⟨rfl, hb⟩
       refine ⟨_, rfl, ?_⟩
       have n0_ := aM (blk_below (zk BK329) hb)
       have n1_ := aM (blk_below (zk BK330) hb)
       have n2_ := aM (blk_below (zk BK331) hb)
       have n3_ := aM (below_step (by repeat (first | (with_reducible first | exact HB.out | apply bA | apply bN | apply bD | refine below_set ?_ GE329.out | refine below_set ?_ GE330.out | refine below_set ?_ GE331.out) | exact HB.out)) hb)
       clear BK329
       clear BK330
       clear BK331
       clear HB
       have BK329 := n0_
       have BK330 := n1_
       have BK331 := n2_
       have HB := n3_
       clear n0_ n1_ n2_ n3_
       (try clear hb)
       (try clear hb2)
       (try clear hk)
       (try clear hi)
       refine hK.out _ _ ⟨(blk_cell BK330.out 0).trans rfl, (blk_cell BK330.out 1).trans rfl, (blk_cell BK329.out 0).trans rfl, (blk_cell BK329.out 1).trans rfl⟩ (fun hHeld => ?_)
       clear hK K
       refine norm_ (a' := ?_) ?_ ?_
       rotate_left
       ·show Act.put _ (some 27) _ = _
        simp only [Act.put, List.setIfInBounds_toArray, List.set_cons_zero, List.set_cons_succ, i64_w, i32_w]
        rfl
       refine one_ (i := 3) (N := some 29) #[true, true, true, true, false, true, true, false, false, false, false, false, false, false, false, false, false, false, false, false, false, false, false, false, false, false, false, false, false, false, false, false] rfl rfl (one_of HT_.out zK) (by decide) (fun K hK => ?_)
       refine goes_ Tryd.func10 zK rfl #[.agg #[.float .f64 a0_0, .float .f64 a0_1]] (by rfl) rfl rfl zM ?_
       with_reducible refine (toponymlaw14_Two_z.calls a0_0 a0_1 t342 _ A28.out).mono ?_
       rintro e w56 ⟨rfl, hb⟩
       refine ⟨_, rfl, ?_⟩
       have n0_ := aM (blk_below (zk BK329) hb)
       have n1_ := aM (blk_below (zk BK330) hb)
       have n2_ := aM (blk_below (zk BK331) hb)
       have n3_ := aM (below_step (by repeat (first | (with_reducible first | exact HB.out | apply bA | apply bN | apply bD | refine below_set ?_ GE329.out | refine below_set ?_ GE330.out | refine below_set ?_ GE331.out) | exact HB.out)) hb)
       clear BK329
       clear BK330
       clear BK331
       clear HB
       have BK329 := n0_
       have BK330 := n1_
       have BK331 := n2_
       have HB := n3_
       clear n0_ n1_ n2_ n3_
       (try clear hb)
       (try clear hb2)
       (try clear hk)
       (try clear hi)
       refine hK.out _ _ ⟨(blk_cell BK330.out 0).trans rfl, (blk_cell BK330.out 1).trans rfl, (blk_cell BK329.out 0).trans rfl, (blk_cell BK329.out 1).trans rfl⟩ (fun hHeld => ?_)
       clear hK K
       refine norm_ (a' := ?_) ?_ ?_
       rotate_left
       ·show Act.put _ (some 29) _ = _
        simp only [Act.put, List.setIfInBounds_toArray, List.set_cons_zero, List.set_cons_succ, i64_w, i32_w]
        rfl
       refine one_ (i := 4) (N := some 30) #[true, true, true, true, true, true, true, false, false, false, false, false, false, false, false, false, false, false, false, false, false, false, false, false, false, false, false, false, false, false, false, false] rfl rfl (one_of HT_.out zK) (by decide) (fun K hK => ?_)
       refine goes_ Tryd.func25 zK rfl #[.complex .f64 t341.1 t341.2, .complex .f64 t342.1 t342.2] (by rfl) rfl rfl zM ?_
       with_reducible refine (gauss_Cmp.calls k t341 t342 t343 _ A29.out).mono ?_
       rintro e w57 ⟨rfl, hb⟩
       refine ⟨_, rfl, ?_⟩
       have n0_ := aM (blk_below (zk BK329) hb)
       have n1_ := aM (blk_below (zk BK330) hb)
       have n2_ := aM (blk_below (zk BK331) hb)
       have n3_ := aM (below_step (by repeat (first | (with_reducible first | exact HB.out | apply bA | apply bN | apply bD | refine below_set ?_ GE329.out | refine below_set ?_ GE330.out | refine below_set ?_ GE331.out) | exact HB.out)) hb)
       clear BK329
       clear BK330
       clear BK331
       clear HB
       have BK329 := n0_
       have BK330 := n1_
       have BK331 := n2_
       have HB := n3_
       clear n0_ n1_ n2_ n3_
       (try clear hb)
       (try clear hb2)
       (try clear hk)
       (try clear hi)
       refine hK.out _ _ ⟨(blk_cell BK330.out 0).trans rfl, (blk_cell BK330.out 1).trans rfl, (blk_cell BK329.out 0).trans rfl, (blk_cell BK329.out 1).trans rfl⟩ (fun hHeld => ?_)
       clear hK K
       refine norm_ (a' := ?_) ?_ ?_
       rotate_left
       ·show Act.put _ (some 30) _ = _
        simp only [Act.put, List.setIfInBounds_toArray, List.set_cons_zero, List.set_cons_succ, i64_w, i32_w]
        rfl
       refine yP 7 33 (any_of HT_.out zK) ?_
       refine yP 8 34 (any_of HT_.out zK) ?_
       refine yP 9 35 (any_of HT_.out zK) ?_
       refine yP 10 36 (any_of HT_.out zK) ?_
       refine yP 11 37 (any_of HT_.out zK) ?_
       refine yP 12 38 (any_of HT_.out zK) ?_
       refine yP 13 39 (any_of HT_.out zK) ?_
       refine yP 14 40 (any_of HT_.out zK) ?_
       refine yP 15 41 (any_of HT_.out zK) ?_
       refine yN 16 42 (any_of HT_.out zK) ?_
       refine yN 17 43 (any_of HT_.out zK) ?_
       refine yP 18 44 (any_of HT_.out zK) ?_
       refine yP 19 45 (any_of HT_.out zK) ?_
       refine yP 20 46 (any_of HT_.out zK) ?_
       refine yP 21 47 (any_of HT_.out zK) ?_
       refine yP 22 48 (any_of HT_.out zK) ?_
       refine yP 23 49 (any_of HT_.out zK) ?_
       refine yP 24 50 (any_of HT_.out zK) ?_
       refine yP 25 51 (any_of HT_.out zK) ?_
       refine yP 26 52 (any_of HT_.out zK) ?_
       refine yP 27 53 (any_of HT_.out zK) ?_
       refine yP 28 54 (any_of HT_.out zK) ?_
       refine yP 29 55 (any_of HT_.out zK) ?_
       refine yP 30 56 (any_of HT_.out zK) ?_
       refine yP 31 57 (any_of HT_.out zK) ?_
       refine done_ (done_of HT_.out zK) ?_
       try go_wp2
       go_meet
       case rel => exact ⟨_, (decide (t340 < 0)), zP, H', ⟨by first | omega | exact Nat.le_refl _⟩, ⟨by (with_reducible repeat (first | refine blk_drewN ?_ _ | refine blk_drew ?_ | refine blk_alloc ?_ _)); exact BK329.out⟩, ⟨by (with_reducible repeat (first | refine blk_drewN ?_ _ | refine blk_drew ?_ | refine blk_alloc ?_ _)); exact BK330.out⟩, ⟨by (with_reducible repeat (first | refine blk_drewN ?_ _ | refine blk_drew ?_ | refine blk_alloc ?_ _)); exact BK331.out⟩, ⟨by repeat (first | (with_reducible first | exact HB.out | apply bA | apply bN | apply bD | refine below_set ?_ GE329.out | refine below_set ?_ GE330.out | refine below_set ?_ GE331.out) | exact HB.out)⟩⟩
      ·rw [if_neg c53] at H
       have c53b0 : decide (0 ≤ t337) = false := decide_eq_false c53
       clear c53
       have H' := aM H
       clear H
       try go_wp2
       have n0_ := aM (blk_drew BK329.out)
       have n1_ := aM (blk_drew BK330.out)
       have n2_ := aM (blk_drew BK331.out)
       have n3_ := aM (bD HB.out)
       clear BK329
       clear BK330
       clear BK331
       clear HB
       have BK329 := n0_
       have BK330 := n1_
       have BK331 := n2_
       have HB := n3_
       clear n0_ n1_ n2_ n3_
       refine start_ (n := 32) (S := fun w' => w'.cell? ⟨gb330, 0, none⟩ = some (.float .f64 a1_0) ∧ w'.cell? ⟨gb330, 1, none⟩ = some (.float .f64 a1_1) ∧ w'.cell? ⟨gb329, 0, none⟩ = some (.float .f64 a0_0) ∧ w'.cell? ⟨gb329, 1, none⟩ = some (.float .f64 a0_1)) (ds := []) #[false, false, false, false, false, false, false, false, false, false, false, false, false, false, false, false, false, false, false, false, false, false, false, false, false, false, false, false, false, false, false, false] zK rfl rfl ⟨(blk_cell BK330.out 0).trans rfl, (blk_cell BK330.out 1).trans rfl, (blk_cell BK329.out 0).trans rfl, (blk_cell BK329.out 1).trans rfl⟩ (fun hHeld => ?_); refine with_tabW toponymlaw14_GaussOrder.tab2 toponymlaw14_GaussOrder.bits2 (fun HT_ HW_ => ?_)
       generalize w26.drew = w58 at BK329 BK330 BK331 HB hHeld ⊢
       refine yP 5 31 (any_of HT_.out zK) ?_
       refine yP 6 32 (any_of HT_.out zK) ?_
       refine take_ (i := 0) (N := some 26) (v := ?_) (a' := ?_) #[true, false, false, false, false, true, true, false, false, false, false, false, false, false, false, false, false, false, false, false, false, false, false, false, false, false, false, false, false, false, false, false] rfl rfl (take_ofW HT_.out HW_.out zK) (fun _ _ _ h => h) (Or.inl ⟨by rfl, ?_⟩) hHeld ?_ ?_
       rotate_left
       ·rintro w' ⟨s0, s1, s2, s3⟩
        go_simp
        with_reducible rfl
       rotate_left
       ·simp only [Act.put, List.setIfInBounds_toArray, List.set_cons_zero, List.set_cons_succ, i64_w, i32_w]
        rfl
       refine take_ (i := 2) (N := some 28) (v := ?_) (a' := ?_) #[true, false, true, false, false, true, true, false, false, false, false, false, false, false, false, false, false, false, false, false, false, false, false, false, false, false, false, false, false, false, false, false] rfl rfl (take_ofW HT_.out HW_.out zK) (fun _ _ _ h => h) (Or.inl ⟨by rfl, ?_⟩) hHeld ?_ ?_
       rotate_left
       ·rintro w' ⟨s0, s1, s2, s3⟩
        go_simp
        with_reducible rfl
       rotate_left
       ·simp only [Act.put, List.setIfInBounds_toArray, List.set_cons_zero, List.set_cons_succ, i64_w, i32_w]
        rfl
       refine one_ (i := 1) (N := some 27) #[true, true, true, false, false, true, true, false, false, false, false, false, false, false, false, false, false, false, false, false, false, false, false, false, false, false, false, false, false, false, false, false] rfl rfl (one_of HT_.out zK) (by decide) (fun K hK => ?_)
       refine goes_ Tryd.func10 zK rfl #[.agg #[.float .f64 a1_0, .float .f64 a1_1]] (by rfl) rfl rfl zM ?_
       with_reducible refine (toponymlaw14_Two_z.calls a1_0 a1_1 t341 _ A27.out).mono ?_
       rintro e w59 ⟨rfl, hb⟩
       refine ⟨_, rfl, ?_⟩
       have n0_ := aM (blk_below (zk BK329) hb)
       have n1_ := aM (blk_below (zk BK330) hb)
       have n2_ := aM (blk_below (zk BK331) hb)
       have n3_ := aM (below_step (by repeat (first | (with_reducible first | exact HB.out | apply bA | apply bN | apply bD | refine below_set ?_ GE329.out | refine below_set ?_ GE330.out | refine below_set ?_ GE331.out) | exact HB.out)) hb)
       clear BK329
       clear BK330
       clear BK331
       clear HB
       have BK329 := n0_
       have BK330 := n1_
       have BK331 := n2_
       have HB := n3_
       clear n0_ n1_ n2_ n3_
       (try clear hb)
       (try clear hb2)
       (try clear hk)
       (try clear hi)
       refine hK.out _ _ ⟨(blk_cell BK330.out 0).trans rfl, (blk_cell BK330.out 1).trans rfl, (blk_cell BK329.out 0).trans rfl, (blk_cell BK329.out 1).trans rfl⟩ (fun hHeld => ?_)
       clear hK K
       refine norm_ (a' := ?_) ?_ ?_
       rotate_left
       ·show Act.put _ (some 27) _ = _
        simp only [Act.put, List.setIfInBounds_toArray, List.set_cons_zero, List.set_cons_succ, i64_w, i32_w]
        rfl
       refine one_ (i := 3) (N := some 29) #[true, true, true, true, false, true, true, false, false, false, false, false, false, false, false, false, false, false, false, false, false, false, false, false, false, false, false, false, false, false, false, false] rfl rfl (one_of HT_.out zK) (by decide) (fun K hK => ?_)
       refine goes_ Tryd.func10 zK rfl #[.agg #[.float .f64 a0_0, .float .f64 a0_1]] (by rfl) rfl rfl zM ?_
       with_reducible refine (toponymlaw14_Two_z.calls a0_0 a0_1 t342 _ A28.out).mono ?_
       rintro e w60 ⟨rfl, hb⟩
       refine ⟨_, rfl, ?_⟩
       have n0_ := aM (blk_below (zk BK329) hb)
       have n1_ := aM (blk_below (zk BK330) hb)
       have n2_ := aM (blk_below (zk BK331) hb)
       have n3_ := aM (below_step (by repeat (first | (with_reducible first | exact HB.out | apply bA | apply bN | apply bD | refine below_set ?_ GE329.out | refine below_set ?_ GE330.out | refine below_set ?_ GE331.out) | exact HB.out)) hb)
       clear BK329
       clear BK330
       clear BK331
       clear HB
       have BK329 := n0_
       have BK330 := n1_
       have BK331 := n2_
       have HB := n3_
       clear n0_ n1_ n2_ n3_
       (try clear hb)
       (try clear hb2)
       (try clear hk)
       (try clear hi)
       refine hK.out _ _ ⟨(blk_cell BK330.out 0).trans rfl, (blk_cell BK330.out 1).trans rfl, (blk_cell BK329.out 0).trans rfl, (blk_cell BK329.out 1).trans rfl⟩ (fun hHeld => ?_)
       clear hK K
       refine norm_ (a' := ?_) ?_ ?_
       rotate_left
       ·show Act.put _ (some 29) _ = _
        simp only [Act.put, List.setIfInBounds_toArray, List.set_cons_zero, List.set_cons_succ, i64_w, i32_w]
        rfl
       refine one_ (i := 4) (N := some 30) #[true, true, true, true, true, true, true, false, false, false, false, false, false, false, false, false, false, false, false, false, false, false, false, false, false, false, false, false, false, false, false, false] rfl rfl (one_of HT_.out zK) (by decide) (fun K hK => ?_)
       refine goes_ Tryd.func25 zK rfl #[.complex .f64 t341.1 t341.2, .complex .f64 t342.1 t342.2] (by rfl) rfl rfl zM ?_
       with_reducible refine (gauss_Cmp.calls k t341 t342 t343 _ A29.out).mono ?_
       rintro e w61 ⟨rfl, hb⟩
       refine ⟨_, rfl, ?_⟩
       have n0_ := aM (blk_below (zk BK329) hb)
       have n1_ := aM (blk_below (zk BK330) hb)
       have n2_ := aM (blk_below (zk BK331) hb)
       have n3_ := aM (below_step (by repeat (first | (with_reducible first | exact HB.out | apply bA | apply bN | apply bD | refine below_set ?_ GE329.out | refine below_set ?_ GE330.out | refine below_set ?_ GE331.out) | exact HB.out)) hb)
       clear BK329
       clear BK330
       clear BK331
       clear HB
       have BK329 := n0_
       have BK330 := n1_
       have BK331 := n2_
       have HB := n3_
       clear n0_ n1_ n2_ n3_
       (try clear hb)
       (try clear hb2)
       (try clear hk)
       (try clear hi)
       refine hK.out _ _ ⟨(blk_cell BK330.out 0).trans rfl, (blk_cell BK330.out 1).trans rfl, (blk_cell BK329.out 0).trans rfl, (blk_cell BK329.out 1).trans rfl⟩ (fun hHeld => ?_)
       clear hK K
       refine norm_ (a' := ?_) ?_ ?_
       rotate_left
       ·show Act.put _ (some 30) _ = _
        simp only [Act.put, List.setIfInBounds_toArray, List.set_cons_zero, List.set_cons_succ, i64_w, i32_w]
        rfl
       refine yP 7 33 (any_of HT_.out zK) ?_
       refine yP 8 34 (any_of HT_.out zK) ?_
       refine yP 9 35 (any_of HT_.out zK) ?_
       refine yP 10 36 (any_of HT_.out zK) ?_
       refine yP 11 37 (any_of HT_.out zK) ?_
       refine yP 12 38 (any_of HT_.out zK) ?_
       refine yP 13 39 (any_of HT_.out zK) ?_
       refine yP 14 40 (any_of HT_.out zK) ?_
       refine yP 15 41 (any_of HT_.out zK) ?_
       refine yN 16 42 (any_of HT_.out zK) ?_
       refine yN 17 43 (any_of HT_.out zK) ?_
       refine yP 18 44 (any_of HT_.out zK) ?_
       refine yP 19 45 (any_of HT_.out zK) ?_
       refine yP 20 46 (any_of HT_.out zK) ?_
       refine yP 21 47 (any_of HT_.out zK) ?_
       refine yP 22 48 (any_of HT_.out zK) ?_
       refine yP 23 49 (any_of HT_.out zK) ?_
       refine yP 24 50 (any_of HT_.out zK) ?_
       refine yP 25 51 (any_of HT_.out zK) ?_
       refine yP 26 52 (any_of HT_.out zK) ?_
       refine yP 27 53 (any_of HT_.out zK) ?_
       refine yN 28 54 (any_of HT_.out zK) ?_
       refine yN 29 55 (any_of HT_.out zK) ?_
       refine yP 30 56 (any_of HT_.out zK) ?_
       refine yP 31 57 (any_of HT_.out zK) ?_
       refine done_ (done_of HT_.out zK) ?_
       try go_wp2
       go_meet
       case rel => exact ⟨_, (false), zP, H', ⟨by first | omega | exact Nat.le_refl _⟩, ⟨by (with_reducible repeat (first | refine blk_drewN ?_ _ | refine blk_drew ?_ | refine blk_alloc ?_ _)); exact BK329.out⟩, ⟨by (with_reducible repeat (first | refine blk_drewN ?_ _ | refine blk_drew ?_ | refine blk_alloc ?_ _)); exact BK330.out⟩, ⟨by (with_reducible repeat (first | refine blk_drewN ?_ _ | refine blk_drew ?_ | refine blk_alloc ?_ _)); exact BK331.out⟩, ⟨by repeat (first | (with_reducible first | exact HB.out | apply bA | apply bN | apply bD | refine below_set ?_ GE329.out | refine below_set ?_ GE330.out | refine below_set ?_ GE331.out) | exact HB.out)⟩⟩
     ·rw [if_neg c52] at H
      have c52b0 : decide (0 ≤ t334) = false := decide_eq_false c52
      clear c52
      have H' := aM H
      clear H
      try go_wp2
      have n0_ := aM (blk_drew BK329.out)
      have n1_ := aM (blk_drew BK330.out)
      have n2_ := aM (blk_drew BK331.out)
      have n3_ := aM (bD HB.out)
      clear BK329
      clear BK330
      clear BK331
      clear HB
      have BK329 := n0_
      have BK330 := n1_
      have BK331 := n2_
      have HB := n3_
      clear n0_ n1_ n2_ n3_
      refine start_ (n := 32) (S := fun w' => w'.cell? ⟨gb330, 0, none⟩ = some (.float .f64 a1_0) ∧ w'.cell? ⟨gb330, 1, none⟩ = some (.float .f64 a1_1) ∧ w'.cell? ⟨gb329, 0, none⟩ = some (.float .f64 a0_0) ∧ w'.cell? ⟨gb329, 1, none⟩ = some (.float .f64 a0_1)) (ds := []) #[false, false, false, false, false, false, false, false, false, false, false, false, false, false, false, false, false, false, false, false, false, false, false, false, false, false, false, false, false, false, false, false] zK rfl rfl ⟨(blk_cell BK330.out 0).trans rfl, (blk_cell BK330.out 1).trans rfl, (blk_cell BK329.out 0).trans rfl, (blk_cell BK329.out 1).trans rfl⟩ (fun hHeld => ?_); refine with_tabW toponymlaw14_GaussOrder.tab2 toponymlaw14_GaussOrder.bits2 (fun HT_ HW_ => ?_)
      generalize w26.drew = w62 at BK329 BK330 BK331 HB hHeld ⊢
      refine yP 5 31 (any_of HT_.out zK) ?_
      refine yP 6 32 (any_of HT_.out zK) ?_
      refine take_ (i := 0) (N := some 26) (v := ?_) (a' := ?_) #[true, false, false, false, false, true, true, false, false, false, false, false, false, false, false, false, false, false, false, false, false, false, false, false, false, false, false, false, false, false, false, false] rfl rfl (take_ofW HT_.out HW_.out zK) (fun _ _ _ h => h) (Or.inl ⟨by rfl, ?_⟩) hHeld ?_ ?_
      rotate_left
      ·rintro w' ⟨s0, s1, s2, s3⟩
       go_simp
       with_reducible rfl
      rotate_left
      ·simp only [Act.put, List.setIfInBounds_toArray, List.set_cons_zero, List.set_cons_succ, i64_w, i32_w]
       rfl
      refine take_ (i := 2) (N := some 28) (v := ?_) (a' := ?_) #[true, false, true, false, false, true, true, false, false, false, false, false, false, false, false, false, false, false, false, false, false, false, false, false, false, false, false, false, false, false, false, false] rfl rfl (take_ofW HT_.out HW_.out zK) (fun _ _ _ h => h) (Or.inl ⟨by rfl, ?_⟩) hHeld ?_ ?_
      rotate_left
      ·rintro w' ⟨s0, s1, s2, s3⟩
       go_simp
       with_reducible rfl
      rotate_left
      ·simp only [Act.put, List.setIfInBounds_toArray, List.set_cons_zero, List.set_cons_succ, i64_w, i32_w]
       rfl
      refine one_ (i := 1) (N := some 27) #[true, true, true, false, false, true, true, false, false, false, false, false, false, false, false, false, false, false, false, false, false, false, false, false, false, false, false, false, false, false, false, false] rfl rfl (one_of HT_.out zK) (by decide) (fun K hK => ?_)
      refine goes_ Tryd.func10 zK rfl #[.agg #[.float .f64 a1_0, .float .f64 a1_1]] (by rfl) rfl rfl zM ?_
      with_reducible refine (toponymlaw14_Two_z.calls a1_0 a1_1 t341 _ A27.out).mono ?_
      rintro e w63 ⟨rfl, hb⟩
      refine ⟨_, rfl, ?_⟩
      have n0_ := aM (blk_below (zk BK329) hb)
      have n1_ := aM (blk_below (zk BK330) hb)
      have n2_ := aM (blk_below (zk BK331) hb)
      have n3_ := aM (below_step (by repeat (first | (with_reducible first | exact HB.out | apply bA | apply bN | apply bD | refine below_set ?_ GE329.out | refine below_set ?_ GE330.out | refine below_set ?_ GE331.out) | exact HB.out)) hb)
      clear BK329
      clear BK330
      clear BK331
      clear HB
      have BK329 := n0_
      have BK330 := n1_
      have BK331 := n2_
      have HB := n3_
      clear n0_ n1_ n2_ n3_
      (try clear hb)
      (try clear hb2)
      (try clear hk)
      (try clear hi)
      refine hK.out _ _ ⟨(blk_cell BK330.out 0).trans rfl, (blk_cell BK330.out 1).trans rfl, (blk_cell BK329.out 0).trans rfl, (blk_cell BK329.out 1).trans rfl⟩ (fun hHeld => ?_)
      clear hK K
      refine norm_ (a' := ?_) ?_ ?_
      rotate_left
      ·show Act.put _ (some 27) _ = _
       simp only [Act.put, List.setIfInBounds_toArray, List.set_cons_zero, List.set_cons_succ, i64_w, i32_w]
       rfl
      refine one_ (i := 3) (N := some 29) #[true, true, true, true, false, true, true, false, false, false, false, false, false, false, false, false, false, false, false, false, false, false, false, false, false, false, false, false, false, false, false, false] rfl rfl (one_of HT_.out zK) (by decide) (fun K hK => ?_)
      refine goes_ Tryd.func10 zK rfl #[.agg #[.float .f64 a0_0, .float .f64 a0_1]] (by rfl) rfl rfl zM ?_
      with_reducible refine (toponymlaw14_Two_z.calls a0_0 a0_1 t342 _ A28.out).mono ?_
      rintro e w64 ⟨rfl, hb⟩
      refine ⟨_, rfl, ?_⟩
      have n0_ := aM (blk_below (zk BK329) hb)
      have n1_ := aM (blk_below (zk BK330) hb)
      have n2_ := aM (blk_below (zk BK331) hb)
      have n3_ := aM (below_step (by repeat (first | (with_reducible first | exact HB.out | apply bA | apply bN | apply bD | refine below_set ?_ GE329.out | refine below_set ?_ GE330.out | refine below_set ?_ GE331.out) | exact HB.out)) hb)
      clear BK329
      clear BK330
      clear BK331
      clear HB
      have BK329 := n0_
      have BK330 := n1_
      have BK331 := n2_
      have HB := n3_
      clear n0_ n1_ n2_ n3_
      (try clear hb)
      (try clear hb2)
      (try clear hk)
      (try clear hi)
      refine hK.out _ _ ⟨(blk_cell BK330.out 0).trans rfl, (blk_cell BK330.out 1).trans rfl, (blk_cell BK329.out 0).trans rfl, (blk_cell BK329.out 1).trans rfl⟩ (fun hHeld => ?_)
      clear hK K
      refine norm_ (a' := ?_) ?_ ?_
      rotate_left
      ·show Act.put _ (some 29) _ = _
       simp only [Act.put, List.setIfInBounds_toArray, List.set_cons_zero, List.set_cons_succ, i64_w, i32_w]
       rfl
      refine one_ (i := 4) (N := some 30) #[true, true, true, true, true, true, true, false, false, false, false, false, false, false, false, false, false, false, false, false, false, false, false, false, false, false, false, false, false, false, false, false] rfl rfl (one_of HT_.out zK) (by decide) (fun K hK => ?_)
      refine goes_ Tryd.func25 zK rfl #[.complex .f64 t341.1 t341.2, .complex .f64 t342.1 t342.2] (by rfl) rfl rfl zM ?_
      with_reducible refine (gauss_Cmp.calls k t341 t342 t343 _ A29.out).mono ?_
      rintro e w65 ⟨rfl, hb⟩
      refine ⟨_, rfl, ?_⟩
      have n0_ := aM (blk_below (zk BK329) hb)
      have n1_ := aM (blk_below (zk BK330) hb)
      have n2_ := aM (blk_below (zk BK331) hb)
      have n3_ := aM (below_step (by repeat (first | (with_reducible first | exact HB.out | apply bA | apply bN | apply bD | refine below_set ?_ GE329.out | refine below_set ?_ GE330.out | refine below_set ?_ GE331.out) | exact HB.out)) hb)
      clear BK329
      clear BK330
      clear BK331
      clear HB
      have BK329 := n0_
      have BK330 := n1_
      have BK331 := n2_
      have HB := n3_
      clear n0_ n1_ n2_ n3_
      (try clear hb)
      (try clear hb2)
      (try clear hk)
      (try clear hi)
      refine hK.out _ _ ⟨(blk_cell BK330.out 0).trans rfl, (blk_cell BK330.out 1).trans rfl, (blk_cell BK329.out 0).trans rfl, (blk_cell BK329.out 1).trans rfl⟩ (fun hHeld => ?_)
      clear hK K
      refine norm_ (a' := ?_) ?_ ?_
      rotate_left
      ·show Act.put _ (some 30) _ = _
       simp only [Act.put, List.setIfInBounds_toArray, List.set_cons_zero, List.set_cons_succ, i64_w, i32_w]
       rfl
      refine yP 7 33 (any_of HT_.out zK) ?_
      refine yP 8 34 (any_of HT_.out zK) ?_
      refine yP 9 35 (any_of HT_.out zK) ?_
      refine yP 10 36 (any_of HT_.out zK) ?_
      refine yP 11 37 (any_of HT_.out zK) ?_
      refine yP 12 38 (any_of HT_.out zK) ?_
      refine yP 13 39 (any_of HT_.out zK) ?_
      refine yP 14 40 (any_of HT_.out zK) ?_
      refine yP 15 41 (any_of HT_.out zK) ?_
      refine yN 16 42 (any_of HT_.out zK) ?_
      refine yN 17 43 (any_of HT_.out zK) ?_
      refine yP 18 44 (any_of HT_.out zK) ?_
      refine yP 19 45 (any_of HT_.out zK) ?_
      refine yP 20 46 (any_of HT_.out zK) ?_
      refine yP 21 47 (any_of HT_.out zK) ?_
      refine yP 22 48 (any_of HT_.out zK) ?_
      refine yP 23 49 (any_of HT_.out zK) ?_
      refine yN 24 50 (any_of HT_.out zK) ?_
      refine yN 25 51 (any_of HT_.out zK) ?_
      refine yP 26 52 (any_of HT_.out zK) ?_
      refine yP 27 53 (any_of HT_.out zK) ?_
      refine yN 28 54 (any_of HT_.out zK) ?_
      refine yN 29 55 (any_of HT_.out zK) ?_
      refine yP 30 56 (any_of HT_.out zK) ?_
      refine yP 31 57 (any_of HT_.out zK) ?_
      refine done_ (done_of HT_.out zK) ?_
      try go_wp2
      go_meet
      case rel => exact ⟨_, (false), zP, H', ⟨by first | omega | exact Nat.le_refl _⟩, ⟨by (with_reducible repeat (first | refine blk_drewN ?_ _ | refine blk_drew ?_ | refine blk_alloc ?_ _)); exact BK329.out⟩, ⟨by (with_reducible repeat (first | refine blk_drewN ?_ _ | refine blk_drew ?_ | refine blk_alloc ?_ _)); exact BK330.out⟩, ⟨by (with_reducible repeat (first | refine blk_drewN ?_ _ | refine blk_drew ?_ | refine blk_alloc ?_ _)); exact BK331.out⟩, ⟨by repeat (first | (with_reducible first | exact HB.out | apply bA | apply bN | apply bD | refine below_set ?_ GE329.out | refine below_set ?_ GE330.out | refine below_set ?_ GE331.out) | exact HB.out)⟩⟩
   ·rw [if_neg c31] at H
    have c31b0 : decide (t334 ≤ 0) = false := decide_eq_false c31
    clear c31
    by_cases c66 : t334 ≥ 0
    ·rw [if_pos c66] at H
     have c66b0 : decide (0 ≤ t334) = true := decide_eq_true c66
     clear c66
     by_cases c67 : t337 ≥ 0
     ·rw [if_pos c67] at H
      have c67b0 : decide (0 ≤ t337) = true := decide_eq_true c67
      clear c67
      have H' := aM H
      clear H
      try go_wp2
      have n0_ := aM (blk_drew BK329.out)
      have n1_ := aM (blk_drew BK330.out)
      have n2_ := aM (blk_drew BK331.out)
      have n3_ := aM (bD HB.out)
      clear BK329
      clear BK330
      clear BK331
      clear HB
      have BK329 := n0_
      have BK330 := n1_
      have BK331 := n2_
      have HB := n3_
      clear n0_ n1_ n2_ n3_
      refine start_ (n := 32) (S := fun w' => w'.cell? ⟨gb330, 0, none⟩ = some (.float .f64 a1_0) ∧ w'.cell? ⟨gb330, 1, none⟩ = some (.float .f64 a1_1) ∧ w'.cell? ⟨gb329, 0, none⟩ = some (.float .f64 a0_0) ∧ w'.cell? ⟨gb329, 1, none⟩ = some (.float .f64 a0_1)) (ds := []) #[false, false, false, false, false, false, false, false, false, false, false, false, false, false, false, false, false, false, false, false, false, false, false, false, false, false, false, false, false, false, false, false] zK rfl rfl ⟨(blk_cell BK330.out 0).trans rfl, (blk_cell BK330.out 1).trans rfl, (blk_cell BK329.out 0).trans rfl, (blk_cell BK329.out 1).trans rfl⟩ (fun hHeld => ?_); refine with_tabW toponymlaw14_GaussOrder.tab2 toponymlaw14_GaussOrder.bits2 (fun HT_ HW_ => ?_)
      generalize w26.drew = w68 at BK329 BK330 BK331 HB hHeld ⊢
      refine yP 5 31 (any_of HT_.out zK) ?_
      refine yP 6 32 (any_of HT_.out zK) ?_
      refine take_ (i := 0) (N := some 26) (v := ?_) (a' := ?_) #[true, false, false, false, false, true, true, false, false, false, false, false, false, false, false, false, false, false, false, false, false, false, false, false, false, false, false, false, false, false, false, false] rfl rfl (take_ofW HT_.out HW_.out zK) (fun _ _ _ h => h) (Or.inl ⟨by rfl, ?_⟩) hHeld ?_ ?_
      rotate_left
      ·rintro w' ⟨s0, s1, s2, s3⟩
       go_simp
       with_reducible rfl
      rotate_left
      ·simp only [Act.put, List.setIfInBounds_toArray, List.set_cons_zero, List.set_cons_succ, i64_w, i32_w]
       rfl
      refine take_ (i := 2) (N := some 28) (v := ?_) (a' := ?_) #[true, false, true, false, false, true, true, false, false, false, false, false, false, false, false, false, false, false, false, false, false, false, false, false, false, false, false, false, false, false, false, false] rfl rfl (take_ofW HT_.out HW_.out zK) (fun _ _ _ h => h) (Or.inl ⟨by rfl, ?_⟩) hHeld ?_ ?_
      rotate_left
      ·rintro w' ⟨s0, s1, s2, s3⟩
       go_simp
       with_reducible rfl
      rotate_left
      ·simp only [Act.put, List.setIfInBounds_toArray, List.set_cons_zero, List.set_cons_succ, i64_w, i32_w]
       rfl
      refine one_ (i := 1) (N := some 27) #[true, true, true, false, false, true, true, false, false, false, false, false, false, false, false, false, false, false, false, false, false, false, false, false, false, false, false, false, false, false, false, false] rfl rfl (one_of HT_.out zK) (by decide) (fun K hK => ?_)
      refine goes_ Tryd.func10 zK rfl #[.agg #[.float .f64 a1_0, .float .f64 a1_1]] (by rfl) rfl rfl zM ?_
      with_reducible refine (toponymlaw14_Two_z.calls a1_0 a1_1 t341 _ A27.out).mono ?_
      rintro e w69 ⟨rfl, hb⟩
      refine ⟨_, rfl, ?_⟩
      have n0_ := aM (blk_below (zk BK329) hb)
      have n1_ := aM (blk_below (zk BK330) hb)
      have n2_ := aM (blk_below (zk BK331) hb)
      have n3_ := aM (below_step (by repeat (first | (with_reducible first | exact HB.out | apply bA | apply bN | apply bD | refine below_set ?_ GE329.out | refine below_set ?_ GE330.out | refine below_set ?_ GE331.out) | exact HB.out)) hb)
      clear BK329
      clear BK330
      clear BK331
      clear HB
      have BK329 := n0_
      have BK330 := n1_
      have BK331 := n2_
      have HB := n3_
      clear n0_ n1_ n2_ n3_
      (try clear hb)
      (try clear hb2)
      (try clear hk)
      (try clear hi)
      refine hK.out _ _ ⟨(blk_cell BK330.out 0).trans rfl, (blk_cell BK330.out 1).trans rfl, (blk_cell BK329.out 0).trans rfl, (blk_cell BK329.out 1).trans rfl⟩ (fun hHeld => ?_)
      clear hK K
      refine norm_ (a' := ?_) ?_ ?_
      rotate_left
      ·show Act.put _ (some 27) _ = _
       simp only [Act.put, List.setIfInBounds_toArray, List.set_cons_zero, List.set_cons_succ, i64_w, i32_w]
       rfl
      refine one_ (i := 3) (N := some 29) #[true, true, true, true, false, true, true, false, false, false, false, false, false, false, false, false, false, false, false, false, false, false, false, false, false, false, false, false, false, false, false, false] rfl rfl (one_of HT_.out zK) (by decide) (fun K hK => ?_)
      refine goes_ Tryd.func10 zK rfl #[.agg #[.float .f64 a0_0, .float .f64 a0_1]] (by rfl) rfl rfl zM ?_
      with_reducible refine (toponymlaw14_Two_z.calls a0_0 a0_1 t342 _ A28.out).mono ?_
      rintro e w70 ⟨rfl, hb⟩
      refine ⟨_, rfl, ?_⟩
      have n0_ := aM (blk_below (zk BK329) hb)
      have n1_ := aM (blk_below (zk BK330) hb)
      have n2_ := aM (blk_below (zk BK331) hb)
      have n3_ := aM (below_step (by repeat (first | (with_reducible first | exact HB.out | apply bA | apply bN | apply bD | refine below_set ?_ GE329.out | refine below_set ?_ GE330.out | refine below_set ?_ GE331.out) | exact HB.out)) hb)
      clear BK329
      clear BK330
      clear BK331
      clear HB
      have BK329 := n0_
      have BK330 := n1_
      have BK331 := n2_
      have HB := n3_
      clear n0_ n1_ n2_ n3_
      (try clear hb)
      (try clear hb2)
      (try clear hk)
      (try clear hi)
      refine hK.out _ _ ⟨(blk_cell BK330.out 0).trans rfl, (blk_cell BK330.out 1).trans rfl, (blk_cell BK329.out 0).trans rfl, (blk_cell BK329.out 1).trans rfl⟩ (fun hHeld => ?_)
      clear hK K
      refine norm_ (a' := ?_) ?_ ?_
      rotate_left
      ·show Act.put _ (some 29) _ = _
       simp only [Act.put, List.setIfInBounds_toArray, List.set_cons_zero, List.set_cons_succ, i64_w, i32_w]
       rfl
      refine one_ (i := 4) (N := some 30) #[true, true, true, true, true, true, true, false, false, false, false, false, false, false, false, false, false, false, false, false, false, false, false, false, false, false, false, false, false, false, false, false] rfl rfl (one_of HT_.out zK) (by decide) (fun K hK => ?_)
      refine goes_ Tryd.func25 zK rfl #[.complex .f64 t341.1 t341.2, .complex .f64 t342.1 t342.2] (by rfl) rfl rfl zM ?_
      with_reducible refine (gauss_Cmp.calls k t341 t342 t343 _ A29.out).mono ?_
      rintro e w71 ⟨rfl, hb⟩
      refine ⟨_, rfl, ?_⟩
      have n0_ := aM (blk_below (zk BK329) hb)
      have n1_ := aM (blk_below (zk BK330) hb)
      have n2_ := aM (blk_below (zk BK331) hb)
      have n3_ := aM (below_step (by repeat (first | (with_reducible first | exact HB.out | apply bA | apply bN | apply bD | refine below_set ?_ GE329.out | refine below_set ?_ GE330.out | refine below_set ?_ GE331.out) | exact HB.out)) hb)
      clear BK329
      clear BK330
      clear BK331
      clear HB
      have BK329 := n0_
      have BK330 := n1_
      have BK331 := n2_
      have HB := n3_
      clear n0_ n1_ n2_ n3_
      (try clear hb)
      (try clear hb2)
      (try clear hk)
      (try clear hi)
      refine hK.out _ _ ⟨(blk_cell BK330.out 0).trans rfl, (blk_cell BK330.out 1).trans rfl, (blk_cell BK329.out 0).trans rfl, (blk_cell BK329.out 1).trans rfl⟩ (fun hHeld => ?_)
      clear hK K
      refine norm_ (a' := ?_) ?_ ?_
      rotate_left
      ·show Act.put _ (some 30) _ = _
       simp only [Act.put, List.setIfInBounds_toArray, List.set_cons_zero, List.set_cons_succ, i64_w, i32_w]
       rfl
      refine yP 7 33 (any_of HT_.out zK) ?_
      refine yP 8 34 (any_of HT_.out zK) ?_
      refine yP 9 35 (any_of HT_.out zK) ?_
      refine yP 10 36 (any_of HT_.out zK) ?_
      refine yP 11 37 (any_of HT_.out zK) ?_
      refine yN 12 38 (any_of HT_.out zK) ?_
      refine yN 13 39 (any_of HT_.out zK) ?_
      refine yP 14 40 (any_of HT_.out zK) ?_
      refine yP 15 41 (any_of HT_.out zK) ?_
      refine yN 16 42 (any_of HT_.out zK) ?_
      refine yN 17 43 (any_of HT_.out zK) ?_
      refine yP 18 44 (any_of HT_.out zK) ?_
      refine yP 19 45 (any_of HT_.out zK) ?_
      refine yP 20 46 (any_of HT_.out zK) ?_
      refine yP 21 47 (any_of HT_.out zK) ?_
      refine yP 22 48 (any_of HT_.out zK) ?_
      refine yP 23 49 (any_of HT_.out zK) ?_
      refine yP 24 50 (any_of HT_.out zK) ?_
      refine yP 25 51 (any_of HT_.out zK) ?_
      refine yP 26 52 (any_of HT_.out zK) ?_
      refine yP 27 53 (any_of HT_.out zK) ?_
      refine yP 28 54 (any_of HT_.out zK) ?_
      refine yP 29 55 (any_of HT_.out zK) ?_
      refine yP 30 56 (any_of HT_.out zK) ?_
      refine yP 31 57 (any_of HT_.out zK) ?_
      refine done_ (done_of HT_.out zK) ?_
      try go_wp2
      go_meet
      case rel => exact ⟨_, (decide (t340 < 0)), zP, H', ⟨by first | omega | exact Nat.le_refl _⟩, ⟨by (with_reducible repeat (first | refine blk_drewN ?_ _ | refine blk_drew ?_ | refine blk_alloc ?_ _)); exact BK329.out⟩, ⟨by (with_reducible repeat (first | refine blk_drewN ?_ _ | refine blk_drew ?_ | refine blk_alloc ?_ _)); exact BK330.out⟩, ⟨by (with_reducible repeat (first | refine blk_drewN ?_ _ | refine blk_drew ?_ | refine blk_alloc ?_ _)); exact BK331.out⟩, ⟨by repeat (first | (with_reducible first | exact HB.out | apply bA | apply bN | apply bD | refine below_set ?_ GE329.out | refine below_set ?_ GE330.out | refine below_set ?_ GE331.out) | exact HB.out)⟩⟩
     ·rw [if_neg c67] at H
      have c67b0 : decide (0 ≤ t337) = false := decide_eq_false c67
      clear c67
      have H' := aM H
      clear H
      try go_wp2
      have n0_ := aM (blk_drew BK329.out)
      have n1_ := aM (blk_drew BK330.out)
      have n2_ := aM (blk_drew BK331.out)
      have n3_ := aM (bD HB.out)
      clear BK329
      clear BK330
      clear BK331
      clear HB
      have BK329 := n0_
      have BK330 := n1_
      have BK331 := n2_
      have HB := n3_
      clear n0_ n1_ n2_ n3_
      refine start_ (n := 32) (S := fun w' => w'.cell? ⟨gb330, 0, none⟩ = some (.float .f64 a1_0) ∧ w'.cell? ⟨gb330, 1, none⟩ = some (.float .f64 a1_1) ∧ w'.cell? ⟨gb329, 0, none⟩ = some (.float .f64 a0_0) ∧ w'.cell? ⟨gb329, 1, none⟩ = some (.float .f64 a0_1)) (ds := []) #[false, false, false, false, false, false, false, false, false, false, false, false, false, false, false, false, false, false, false, false, false, false, false, false, false, false, false, false, false, false, false, false] zK rfl rfl ⟨(blk_cell BK330.out 0).trans rfl, (blk_cell BK330.out 1).trans rfl, (blk_cell BK329.out 0).trans rfl, (blk_cell BK329.out 1).trans rfl⟩ (fun hHeld => ?_); refine with_tabW toponymlaw14_GaussOrder.tab2 toponymlaw14_GaussOrder.bits2 (fun HT_ HW_ => ?_)
      generalize w26.drew = w72 at BK329 BK330 BK331 HB hHeld ⊢
      refine yP 5 31 (any_of HT_.out zK) ?_
      refine yP 6 32 (any_of HT_.out zK) ?_
      refine take_ (i := 0) (N := some 26) (v := ?_) (a' := ?_) #[true, false, false, false, false, true, true, false, false, false, false, false, false, false, false, false, false, false, false, false, false, false, false, false, false, false, false, false, false, false, false, false] rfl rfl (take_ofW HT_.out HW_.out zK) (fun _ _ _ h => h) (Or.inl ⟨by rfl, ?_⟩) hHeld ?_ ?_
      rotate_left
      ·rintro w' ⟨s0, s1, s2, s3⟩
       go_simp
       with_reducible rfl
      rotate_left
      ·simp only [Act.put, List.setIfInBounds_toArray, List.set_cons_zero, List.set_cons_succ, i64_w, i32_w]
       rfl
      refine take_ (i := 2) (N := some 28) (v := ?_) (a' := ?_) #[true, false, true, false, false, true, true, false, false, false, false, false, false, false, false, false, false, false, false, false, false, false, false, false, false, false, false, false, false, false, false, false] rfl rfl (take_ofW HT_.out HW_.out zK) (fun _ _ _ h => h) (Or.inl ⟨by rfl, ?_⟩) hHeld ?_ ?_
      rotate_left
      ·rintro w' ⟨s0, s1, s2, s3⟩
       go_simp
       with_reducible rfl
      rotate_left
      ·simp only [Act.put, List.setIfInBounds_toArray, List.set_cons_zero, List.set_cons_succ, i64_w, i32_w]
       rfl
      refine one_ (i := 1) (N := some 27) #[true, true, true, false, false, true, true, false, false, false, false, false, false, false, false, false, false, false, false, false, false, false, false, false, false, false, false, false, false, false, false, false] rfl rfl (one_of HT_.out zK) (by decide) (fun K hK => ?_)
      refine goes_ Tryd.func10 zK rfl #[.agg #[.float .f64 a1_0, .float .f64 a1_1]] (by rfl) rfl rfl zM ?_
      with_reducible refine (toponymlaw14_Two_z.calls a1_0 a1_1 t341 _ A27.out).mono ?_
      rintro e w73 ⟨rfl, hb⟩
      refine ⟨_, rfl, ?_⟩
      have n0_ := aM (blk_below (zk BK329) hb)
      have n1_ := aM (blk_below (zk BK330) hb)
      have n2_ := aM (blk_below (zk BK331) hb)
      have n3_ := aM (below_step (by repeat (first | (with_reducible first | exact HB.out | apply bA | apply bN | apply bD | refine below_set ?_ GE329.out | refine below_set ?_ GE330.out | refine below_set ?_ GE331.out) | exact HB.out)) hb)
      clear BK329
      clear BK330
      clear BK331
      clear HB
      have BK329 := n0_
      have BK330 := n1_
      have BK331 := n2_
      have HB := n3_
      clear n0_ n1_ n2_ n3_
      (try clear hb)
      (try clear hb2)
      (try clear hk)
      (try clear hi)
      refine hK.out _ _ ⟨(blk_cell BK330.out 0).trans rfl, (blk_cell BK330.out 1).trans rfl, (blk_cell BK329.out 0).trans rfl, (blk_cell BK329.out 1).trans rfl⟩ (fun hHeld => ?_)
      clear hK K
      refine norm_ (a' := ?_) ?_ ?_
      rotate_left
      ·show Act.put _ (some 27) _ = _
       simp only [Act.put, List.setIfInBounds_toArray, List.set_cons_zero, List.set_cons_succ, i64_w, i32_w]
       rfl
      refine one_ (i := 3) (N := some 29) #[true, true, true, true, false, true, true, false, false, false, false, false, false, false, false, false, false, false, false, false, false, false, false, false, false, false, false, false, false, false, false, false] rfl rfl (one_of HT_.out zK) (by decide) (fun K hK => ?_)
      refine goes_ Tryd.func10 zK rfl #[.agg #[.float .f64 a0_0, .float .f64 a0_1]] (by rfl) rfl rfl zM ?_
      with_reducible refine (toponymlaw14_Two_z.calls a0_0 a0_1 t342 _ A28.out).mono ?_
      rintro e w74 ⟨rfl, hb⟩
      refine ⟨_, rfl, ?_⟩
      have n0_ := aM (blk_below (zk BK329) hb)
      have n1_ := aM (blk_below (zk BK330) hb)
      have n2_ := aM (blk_below (zk BK331) hb)
      have n3_ := aM (below_step (by repeat (first | (with_reducible first | exact HB.out | apply bA | apply bN | apply bD | refine below_set ?_ GE329.out | refine below_set ?_ GE330.out | refine below_set ?_ GE331.out) | exact HB.out)) hb)
      clear BK329
      clear BK330
      clear BK331
      clear HB
      have BK329 := n0_
      have BK330 := n1_
      have BK331 := n2_
      have HB := n3_
      clear n0_ n1_ n2_ n3_
      (try clear hb)
      (try clear hb2)
      (try clear hk)
      (try clear hi)
      refine hK.out _ _ ⟨(blk_cell BK330.out 0).trans rfl, (blk_cell BK330.out 1).trans rfl, (blk_cell BK329.out 0).trans rfl, (blk_cell BK329.out 1).trans rfl⟩ (fun hHeld => ?_)
      clear hK K
      refine norm_ (a' := ?_) ?_ ?_
      rotate_left
      ·show Act.put _ (some 29) _ = _
       simp only [Act.put, List.setIfInBounds_toArray, List.set_cons_zero, List.set_cons_succ, i64_w, i32_w]
       rfl
      refine one_ (i := 4) (N := some 30) #[true, true, true, true, true, true, true, false, false, false, false, false, false, false, false, false, false, false, false, false, false, false, false, false, false, false, false, false, false, false, false, false] rfl rfl (one_of HT_.out zK) (by decide) (fun K hK => ?_)
      refine goes_ Tryd.func25 zK rfl #[.complex .f64 t341.1 t341.2, .complex .f64 t342.1 t342.2] (by rfl) rfl rfl zM ?_
      with_reducible refine (gauss_Cmp.calls k t341 t342 t343 _ A29.out).mono ?_
      rintro e w75 ⟨rfl, hb⟩
      refine ⟨_, rfl, ?_⟩
      have n0_ := aM (blk_below (zk BK329) hb)
      have n1_ := aM (blk_below (zk BK330) hb)
      have n2_ := aM (blk_below (zk BK331) hb)
      have n3_ := aM (below_step (by repeat (first | (with_reducible first | exact HB.out | apply bA | apply bN | apply bD | refine below_set ?_ GE329.out | refine below_set ?_ GE330.out | refine below_set ?_ GE331.out) | exact HB.out)) hb)
      clear BK329
      clear BK330
      clear BK331
      clear HB
      have BK329 := n0_
      have BK330 := n1_
      have BK331 := n2_
      have HB := n3_
      clear n0_ n1_ n2_ n3_
      (try clear hb)
      (try clear hb2)
      (try clear hk)
      (try clear hi)
      refine hK.out _ _ ⟨(blk_cell BK330.out 0).trans rfl, (blk_cell BK330.out 1).trans rfl, (blk_cell BK329.out 0).trans rfl, (blk_cell BK329.out 1).trans rfl⟩ (fun hHeld => ?_)
      clear hK K
      refine norm_ (a' := ?_) ?_ ?_
      rotate_left
      ·show Act.put _ (some 30) _ = _
       simp only [Act.put, List.setIfInBounds_toArray, List.set_cons_zero, List.set_cons_succ, i64_w, i32_w]
       rfl
      refine yP 7 33 (any_of HT_.out zK) ?_
      refine yP 8 34 (any_of HT_.out zK) ?_
      refine yP 9 35 (any_of HT_.out zK) ?_
      refine yP 10 36 (any_of HT_.out zK) ?_
      refine yP 11 37 (any_of HT_.out zK) ?_
      refine yN 12 38 (any_of HT_.out zK) ?_
      refine yN 13 39 (any_of HT_.out zK) ?_
      refine yP 14 40 (any_of HT_.out zK) ?_
      refine yP 15 41 (any_of HT_.out zK) ?_
      refine yN 16 42 (any_of HT_.out zK) ?_
      refine yN 17 43 (any_of HT_.out zK) ?_
      refine yP 18 44 (any_of HT_.out zK) ?_
      refine yP 19 45 (any_of HT_.out zK) ?_
      refine yP 20 46 (any_of HT_.out zK) ?_
      refine yP 21 47 (any_of HT_.out zK) ?_
      refine yP 22 48 (any_of HT_.out zK) ?_
      refine yP 23 49 (any_of HT_.out zK) ?_
      refine yP 24 50 (any_of HT_.out zK) ?_
      refine yP 25 51 (any_of HT_.out zK) ?_
      refine yP 26 52 (any_of HT_.out zK) ?_
      refine yP 27 53 (any_of HT_.out zK) ?_
      refine yN 28 54 (any_of HT_.out zK) ?_
      refine yN 29 55 (any_of HT_.out zK) ?_
      refine yP 30 56 (any_of HT_.out zK) ?_
      refine yP 31 57 (any_of HT_.out zK) ?_
      refine done_ (done_of HT_.out zK) ?_
      try go_wp2
      go_meet
      case rel => exact ⟨_, (false), zP, H', ⟨by first | omega | exact Nat.le_refl _⟩, ⟨by (with_reducible repeat (first | refine blk_drewN ?_ _ | refine blk_drew ?_ | refine blk_alloc ?_ _)); exact BK329.out⟩, ⟨by (with_reducible repeat (first | refine blk_drewN ?_ _ | refine blk_drew ?_ | refine blk_alloc ?_ _)); exact BK330.out⟩, ⟨by (with_reducible repeat (first | refine blk_drewN ?_ _ | refine blk_drew ?_ | refine blk_alloc ?_ _)); exact BK331.out⟩, ⟨by repeat (first | (with_reducible first | exact HB.out | apply bA | apply bN | apply bD | refine below_set ?_ GE329.out | refine below_set ?_ GE330.out | refine below_set ?_ GE331.out) | exact HB.out)⟩⟩
    ·rw [if_neg c66] at H
     have c66b0 : decide (0 ≤ t334) = false := decide_eq_false c66
     clear c66
     have H' := aM H
     clear H
     try go_wp2
     have n0_ := aM (blk_drew BK329.out)
     have n1_ := aM (blk_drew BK330.out)
     have n2_ := aM (blk_drew BK331.out)
     have n3_ := aM (bD HB.out)
     clear BK329
     clear BK330
     clear BK331
     clear HB
     have BK329 := n0_
     have BK330 := n1_
     have BK331 := n2_
     have HB := n3_
     clear n0_ n1_ n2_ n3_
     refine start_ (n := 32) (S := fun w' => w'.cell? ⟨gb330, 0, none⟩ = some (.float .f64 a1_0) ∧ w'.cell? ⟨gb330, 1, none⟩ = some (.float .f64 a1_1) ∧ w'.cell? ⟨gb329, 0, none⟩ = some (.float .f64 a0_0) ∧ w'.cell? ⟨gb329, 1, none⟩ = some (.float .f64 a0_1)) (ds := []) #[false, false, false, false, false, false, false, false, false, false, false, false, false, false, false, false, false, false, false, false, false, false, false, false, false, false, false, false, false, false, false, false] zK rfl rfl ⟨(blk_cell BK330.out 0).trans rfl, (blk_cell BK330.out 1).trans rfl, (blk_cell BK329.out 0).trans rfl, (blk_cell BK329.out 1).trans rfl⟩ (fun hHeld => ?_); refine with_tabW toponymlaw14_GaussOrder.tab2 toponymlaw14_GaussOrder.bits2 (fun HT_ HW_ => ?_)
     generalize w26.drew = w76 at BK329 BK330 BK331 HB hHeld ⊢
     refine yP 5 31 (any_of HT_.out zK) ?_
     refine yP 6 32 (any_of HT_.out zK) ?_
     refine take_ (i := 0) (N := some 26) (v := ?_) (a' := ?_) #[true, false, false, false, false, true, true, false, false, false, false, false, false, false, false, false, false, false, false, false, false, false, false, false, false, false, false, false, false, false, false, false] rfl rfl (take_ofW HT_.out HW_.out zK) (fun _ _ _ h => h) (Or.inl ⟨by rfl, ?_⟩) hHeld ?_ ?_
     rotate_left
     ·rintro w' ⟨s0, s1, s2, s3⟩
      go_simp
      with_reducible rfl
     rotate_left
     ·simp only [Act.put, List.setIfInBounds_toArray, List.set_cons_zero, List.set_cons_succ, i64_w, i32_w]
      rfl
     refine take_ (i := 2) (N := some 28) (v := ?_) (a' := ?_) #[true, false, true, false, false, true, true, false, false, false, false, false, false, false, false, false, false, false, false, false, false, false, false, false, false, false, false, false, false, false, false, false] rfl rfl (take_ofW HT_.out HW_.out zK) (fun _ _ _ h => h) (Or.inl ⟨by rfl, ?_⟩) hHeld ?_ ?_
     rotate_left
     ·rintro w' ⟨s0, s1, s2, s3⟩
      go_simp
      with_reducible rfl
     rotate_left
     ·simp only [Act.put, List.setIfInBounds_toArray, List.set_cons_zero, List.set_cons_succ, i64_w, i32_w]
      rfl
     refine one_ (i := 1) (N := some 27) #[true, true, true, false, false, true, true, false, false, false, false, false, false, false, false, false, false, false, false, false, false, false, false, false, false, false, false, false, false, false, false, false] rfl rfl (one_of HT_.out zK) (by decide) (fun K hK => ?_)
     refine goes_ Tryd.func10 zK rfl #[.agg #[.float .f64 a1_0, .float .f64 a1_1]] (by rfl) rfl rfl zM ?_
     with_reducible refine (toponymlaw14_Two_z.calls a1_0 a1_1 t341 _ A27.out).mono ?_
     rintro e w77 ⟨rfl, hb⟩
     refine ⟨_, rfl, ?_⟩
     have n0_ := aM (blk_below (zk BK329) hb)
     have n1_ := aM (blk_below (zk BK330) hb)
     have n2_ := aM (blk_below (zk BK331) hb)
     have n3_ := aM (below_step (by repeat (first | (with_reducible first | exact HB.out | apply bA | apply bN | apply bD | refine below_set ?_ GE329.out | refine below_set ?_ GE330.out | refine below_set ?_ GE331.out) | exact HB.out)) hb)
     clear BK329
     clear BK330
     clear BK331
     clear HB
     have BK329 := n0_
     have BK330 := n1_
     have BK331 := n2_
     have HB := n3_
     clear n0_ n1_ n2_ n3_
     (try clear hb)
     (try clear hb2)
     (try clear hk)
     (try clear hi)
     refine hK.out _ _ ⟨(blk_cell BK330.out 0).trans rfl, (blk_cell BK330.out 1).trans rfl, (blk_cell BK329.out 0).trans rfl, (blk_cell BK329.out 1).trans rfl⟩ (fun hHeld => ?_)
     clear hK K
     refine norm_ (a' := ?_) ?_ ?_
     rotate_left
     ·show Act.put _ (some 27) _ = _
      simp only [Act.put, List.setIfInBounds_toArray, List.set_cons_zero, List.set_cons_succ, i64_w, i32_w]
      rfl
     refine one_ (i := 3) (N := some 29) #[true, true, true, true, false, true, true, false, false, false, false, false, false, false, false, false, false, false, false, false, false, false, false, false, false, false, false, false, false, false, false, false] rfl rfl (one_of HT_.out zK) (by decide) (fun K hK => ?_)
     refine goes_ Tryd.func10 zK rfl #[.agg #[.float .f64 a0_0, .float .f64 a0_1]] (by rfl) rfl rfl zM ?_
     with_reducible refine (toponymlaw14_Two_z.calls a0_0 a0_1 t342 _ A28.out).mono ?_
     rintro e w78 ⟨rfl, hb⟩
     refine ⟨_, rfl, ?_⟩
     have n0_ := aM (blk_below (zk BK329) hb)
     have n1_ := aM (blk_below (zk BK330) hb)
     have n2_ := aM (blk_below (zk BK331) hb)
     have n3_ := aM (below_step (by repeat (first | (with_reducible first | exact HB.out | apply bA | apply bN | apply bD | refine below_set ?_ GE329.out | refine below_set ?_ GE330.out | refine below_set ?_ GE331.out) | exact HB.out)) hb)
     clear BK329
     clear BK330
     clear BK331
     clear HB
     have BK329 := n0_
     have BK330 := n1_
     have BK331 := n2_
     have HB := n3_
     clear n0_ n1_ n2_ n3_
     (try clear hb)
     (try clear hb2)
     (try clear hk)
     (try clear hi)
     refine hK.out _ _ ⟨(blk_cell BK330.out 0).trans rfl, (blk_cell BK330.out 1).trans rfl, (blk_cell BK329.out 0).trans rfl, (blk_cell BK329.out 1).trans rfl⟩ (fun hHeld => ?_)
     clear hK K
     refine norm_ (a' := ?_) ?_ ?_
     rotate_left
     ·show Act.put _ (some 29) _ = _
      simp only [Act.put, List.setIfInBounds_toArray, List.set_cons_zero, List.set_cons_succ, i64_w, i32_w]
      rfl
     refine one_ (i := 4) (N := some 30) #[true, true, true, true, true, true, true, false, false, false, false, false, false, false, false, false, false, false, false, false, false, false, false, false, false, false, false, false, false, false, false, false] rfl rfl (one_of HT_.out zK) (by decide) (fun K hK => ?_)
     refine goes_ Tryd.func25 zK rfl #[.complex .f64 t341.1 t341.2, .complex .f64 t342.1 t342.2] (by rfl) rfl rfl zM ?_
     with_reducible refine (gauss_Cmp.calls k t341 t342 t343 _ A29.out).mono ?_
     rintro e w79 ⟨rfl, hb⟩
     refine ⟨_, rfl, ?_⟩
     have n0_ := aM (blk_below (zk BK329) hb)
     have n1_ := aM (blk_below (zk BK330) hb)
     have n2_ := aM (blk_below (zk BK331) hb)
     have n3_ := aM (below_step (by repeat (first | (with_reducible first | exact HB.out | apply bA | apply bN | apply bD | refine below_set ?_ GE329.out | refine below_set ?_ GE330.out | refine below_set ?_ GE331.out) | exact HB.out)) hb)
     clear BK329
     clear BK330
     clear BK331
     clear HB
     have BK329 := n0_
     have BK330 := n1_
     have BK331 := n2_
     have HB := n3_
     clear n0_ n1_ n2_ n3_
     (try clear hb)
     (try clear hb2)
     (try clear hk)
     (try clear hi)
     refine hK.out _ _ ⟨(blk_cell BK330.out 0).trans rfl, (blk_cell BK330.out 1).trans rfl, (blk_cell BK329.out 0).trans rfl, (blk_cell BK329.out 1).trans rfl⟩ (fun hHeld => ?_)
     clear hK K
     refine norm_ (a' := ?_) ?_ ?_
     rotate_left
     ·show Act.put _ (some 30) _ = _
      simp only [Act.put, List.setIfInBounds_toArray, List.set_cons_zero, List.set_cons_succ, i64_w, i32_w]
      rfl
     refine yP 7 33 (any_of HT_.out zK) ?_
     refine yP 8 34 (any_of HT_.out zK) ?_
     refine yP 9 35 (any_of HT_.out zK) ?_
     refine yP 10 36 (any_of HT_.out zK) ?_
     refine yP 11 37 (any_of HT_.out zK) ?_
     refine yN 12 38 (any_of HT_.out zK) ?_
     refine yN 13 39 (any_of HT_.out zK) ?_
     refine yP 14 40 (any_of HT_.out zK) ?_
     refine yP 15 41 (any_of HT_.out zK) ?_
     refine yN 16 42 (any_of HT_.out zK) ?_
     refine yN 17 43 (any_of HT_.out zK) ?_
     refine yP 18 44 (any_of HT_.out zK) ?_
     refine yP 19 45 (any_of HT_.out zK) ?_
     refine yP 20 46 (any_of HT_.out zK) ?_
     refine yP 21 47 (any_of HT_.out zK) ?_
     refine yP 22 48 (any_of HT_.out zK) ?_
     refine yP 23 49 (any_of HT_.out zK) ?_
     refine yN 24 50 (any_of HT_.out zK) ?_
     refine yN 25 51 (any_of HT_.out zK) ?_
     refine yP 26 52 (any_of HT_.out zK) ?_
     refine yP 27 53 (any_of HT_.out zK) ?_
     refine yN 28 54 (any_of HT_.out zK) ?_
     refine yN 29 55 (any_of HT_.out zK) ?_
     refine yP 30 56 (any_of HT_.out zK) ?_
     refine yP 31 57 (any_of HT_.out zK) ?_
     refine done_ (done_of HT_.out zK) ?_
     try go_wp2
     go_meet
     case rel => exact ⟨_, (false), zP, H', ⟨by first | omega | exact Nat.le_refl _⟩, ⟨by (with_reducible repeat (first | refine blk_drewN ?_ _ | refine blk_drew ?_ | refine blk_alloc ?_ _)); exact BK329.out⟩, ⟨by (with_reducible repeat (first | refine blk_drewN ?_ _ | refine blk_drew ?_ | refine blk_alloc ?_ _)); exact BK330.out⟩, ⟨by (with_reducible repeat (first | refine blk_drewN ?_ _ | refine blk_drew ?_ | refine blk_alloc ?_ _)); exact BK331.out⟩, ⟨by repeat (first | (with_reducible first | exact HB.out | apply bA | apply bN | apply bD | refine below_set ?_ GE329.out | refine below_set ?_ GE330.out | refine below_set ?_ GE331.out) | exact HB.out)⟩⟩
  ·rw [if_neg c30] at H
   have c30b0 : (t343 == (wrap64 (-t334))) = false := beq_eq_false_iff_ne.mpr c30
   have c30b1 : (t343 != (wrap64 (-t334))) = true := bne_iff_ne.mpr c30
   (first | rw [c30b0] | (simp only [i64_w, i32_w]; rw [c30b0]) | skip)
   have H' := aM H
   clear H
   try go_wp2
   have n0_ := aM (blk_drew BK329.out)
   have n1_ := aM (blk_drew BK330.out)
   have n2_ := aM (blk_drew BK331.out)
   have n3_ := aM (bD HB.out)
   clear BK329
   clear BK330
   clear BK331
   clear HB
   have BK329 := n0_
   have BK330 := n1_
   have BK331 := n2_
   have HB := n3_
   clear n0_ n1_ n2_ n3_
   refine start_ (n := 32) (S := fun w' => w'.cell? ⟨gb330, 0, none⟩ = some (.float .f64 a1_0) ∧ w'.cell? ⟨gb330, 1, none⟩ = some (.float .f64 a1_1) ∧ w'.cell? ⟨gb329, 0, none⟩ = some (.float .f64 a0_0) ∧ w'.cell? ⟨gb329, 1, none⟩ = some (.float .f64 a0_1)) (ds := []) #[false, false, false, false, false, false, false, false, false, false, false, false, false, false, false, false, false, false, false, false, false, false, false, false, false, false, false, false, false, false, false, false] zK rfl rfl ⟨(blk_cell BK330.out 0).trans rfl, (blk_cell BK330.out 1).trans rfl, (blk_cell BK329.out 0).trans rfl, (blk_cell BK329.out 1).trans rfl⟩ (fun hHeld => ?_); refine with_tabW toponymlaw14_GaussOrder.tab2 toponymlaw14_GaussOrder.bits2 (fun HT_ HW_ => ?_)
   generalize w26.drew = w80 at BK329 BK330 BK331 HB hHeld ⊢
   refine yP 5 31 (any_of HT_.out zK) ?_
   refine yP 6 32 (any_of HT_.out zK) ?_
   refine take_ (i := 0) (N := some 26) (v := ?_) (a' := ?_) #[true, false, false, false, false, true, true, false, false, false, false, false, false, false, false, false, false, false, false, false, false, false, false, false, false, false, false, false, false, false, false, false] rfl rfl (take_ofW HT_.out HW_.out zK) (fun _ _ _ h => h) (Or.inl ⟨by rfl, ?_⟩) hHeld ?_ ?_
   rotate_left
   ·rintro w' ⟨s0, s1, s2, s3⟩
    go_simp
    with_reducible rfl
   rotate_left
   ·simp only [Act.put, List.setIfInBounds_toArray, List.set_cons_zero, List.set_cons_succ, i64_w, i32_w]
    rfl
   refine take_ (i := 2) (N := some 28) (v := ?_) (a' := ?_) #[true, false, true, false, false, true, true, false, false, false, false, false, false, false, false, false, false, false, false, false, false, false, false, false, false, false, false, false, false, false, false, false] rfl rfl (take_ofW HT_.out HW_.out zK) (fun _ _ _ h => h) (Or.inl ⟨by rfl, ?_⟩) hHeld ?_ ?_
   rotate_left
   ·rintro w' ⟨s0, s1, s2, s3⟩
    go_simp
    with_reducible rfl
   rotate_left
   ·simp only [Act.put, List.setIfInBounds_toArray, List.set_cons_zero, List.set_cons_succ, i64_w, i32_w]
    rfl
   refine one_ (i := 1) (N := some 27) #[true, true, true, false, false, true, true, false, false, false, false, false, false, false, false, false, false, false, false, false, false, false, false, false, false, false, false, false, false, false, false, false] rfl rfl (one_of HT_.out zK) (by decide) (fun K hK => ?_)
   refine goes_ Tryd.func10 zK rfl #[.agg #[.float .f64 a1_0, .float .f64 a1_1]] (by rfl) rfl rfl zM ?_
   with_reducible refine (toponymlaw14_Two_z.calls a1_0 a1_1 t341 _ A27.out).mono ?_
   rintro e w81 ⟨rfl, hb⟩
   refine ⟨_, rfl, ?_⟩
   have n0_ := aM (blk_below (zk BK329) hb)
   have n1_ := aM (blk_below (zk BK330) hb)
   have n2_ := aM (blk_below (zk BK331) hb)
   have n3_ := aM (below_step (by repeat (first | (with_reducible first | exact HB.out | apply bA | apply bN | apply bD | refine below_set ?_ GE329.out | refine below_set ?_ GE330.out | refine below_set ?_ GE331.out) | exact HB.out)) hb)
   clear BK329
   clear BK330
   clear BK331
   clear HB
   have BK329 := n0_
   have BK330 := n1_
   have BK331 := n2_
   have HB := n3_
   clear n0_ n1_ n2_ n3_
   (try clear hb)
   (try clear hb2)
   (try clear hk)
   (try clear hi)
   refine hK.out _ _ ⟨(blk_cell BK330.out 0).trans rfl, (blk_cell BK330.out 1).trans rfl, (blk_cell BK329.out 0).trans rfl, (blk_cell BK329.out 1).trans rfl⟩ (fun hHeld => ?_)
   clear hK K
   refine norm_ (a' := ?_) ?_ ?_
   rotate_left
   ·show Act.put _ (some 27) _ = _
    simp only [Act.put, List.setIfInBounds_toArray, List.set_cons_zero, List.set_cons_succ, i64_w, i32_w]
    rfl
   refine one_ (i := 3) (N := some 29) #[true, true, true, true, false, true, true, false, false, false, false, false, false, false, false, false, false, false, false, false, false, false, false, false, false, false, false, false, false, false, false, false] rfl rfl (one_of HT_.out zK) (by decide) (fun K hK => ?_)
   refine goes_ Tryd.func10 zK rfl #[.agg #[.float .f64 a0_0, .float .f64 a0_1]] (by rfl) rfl rfl zM ?_
   with_reducible refine (toponymlaw14_Two_z.calls a0_0 a0_1 t342 _ A28.out).mono ?_
   rintro e w82 ⟨rfl, hb⟩
   refine ⟨_, rfl, ?_⟩
   have n0_ := aM (blk_below (zk BK329) hb)
   have n1_ := aM (blk_below (zk BK330) hb)
   have n2_ := aM (blk_below (zk BK331) hb)
   have n3_ := aM (below_step (by repeat (first | (with_reducible first | exact HB.out | apply bA | apply bN | apply bD | refine below_set ?_ GE329.out | refine below_set ?_ GE330.out | refine below_set ?_ GE331.out) | exact HB.out)) hb)
   clear BK329
   clear BK330
   clear BK331
   clear HB
   have BK329 := n0_
   have BK330 := n1_
   have BK331 := n2_
   have HB := n3_
   clear n0_ n1_ n2_ n3_
   (try clear hb)
   (try clear hb2)
   (try clear hk)
   (try clear hi)
   refine hK.out _ _ ⟨(blk_cell BK330.out 0).trans rfl, (blk_cell BK330.out 1).trans rfl, (blk_cell BK329.out 0).trans rfl, (blk_cell BK329.out 1).trans rfl⟩ (fun hHeld => ?_)
   clear hK K
   refine norm_ (a' := ?_) ?_ ?_
   rotate_left
   ·show Act.put _ (some 29) _ = _
    simp only [Act.put, List.setIfInBounds_toArray, List.set_cons_zero, List.set_cons_succ, i64_w, i32_w]
    rfl
   refine one_ (i := 4) (N := some 30) #[true, true, true, true, true, true, true, false, false, false, false, false, false, false, false, false, false, false, false, false, false, false, false, false, false, false, false, false, false, false, false, false] rfl rfl (one_of HT_.out zK) (by decide) (fun K hK => ?_)
   refine goes_ Tryd.func25 zK rfl #[.complex .f64 t341.1 t341.2, .complex .f64 t342.1 t342.2] (by rfl) rfl rfl zM ?_
   with_reducible refine (gauss_Cmp.calls k t341 t342 t343 _ A29.out).mono ?_
   rintro e w83 ⟨rfl, hb⟩
   refine ⟨_, rfl, ?_⟩
   have n0_ := aM (blk_below (zk BK329) hb)
   have n1_ := aM (blk_below (zk BK330) hb)
   have n2_ := aM (blk_below (zk BK331) hb)
   have n3_ := aM (below_step (by repeat (first | (with_reducible first | exact HB.out | apply bA | apply bN | apply bD | refine below_set ?_ GE329.out | refine below_set ?_ GE330.out | refine below_set ?_ GE331.out) | exact HB.out)) hb)
   clear BK329
   clear BK330
   clear BK331
   clear HB
   have BK329 := n0_
   have BK330 := n1_
   have BK331 := n2_
   have HB := n3_
   clear n0_ n1_ n2_ n3_
   (try clear hb)
   (try clear hb2)
   (try clear hk)
   (try clear hi)
   refine hK.out _ _ ⟨(blk_cell BK330.out 0).trans rfl, (blk_cell BK330.out 1).trans rfl, (blk_cell BK329.out 0).trans rfl, (blk_cell BK329.out 1).trans rfl⟩ (fun hHeld => ?_)
   clear hK K
   refine norm_ (a' := ?_) ?_ ?_
   rotate_left
   ·show Act.put _ (some 30) _ = _
    simp only [Act.put, List.setIfInBounds_toArray, List.set_cons_zero, List.set_cons_succ, i64_w, i32_w]
    rfl
   refine yP 7 33 (any_of HT_.out zK) ?_
   refine yP 8 34 (any_of HT_.out zK) ?_
   refine yN 9 35 (any_of HT_.out zK) ?_
   refine yN 10 36 (any_of HT_.out zK) ?_
   refine yN 11 37 (any_of HT_.out zK) ?_
   refine yN 12 38 (any_of HT_.out zK) ?_
   refine yN 13 39 (any_of HT_.out zK) ?_
   refine yN 14 40 (any_of HT_.out zK) ?_
   refine yN 15 41 (any_of HT_.out zK) ?_
   refine yN 16 42 (any_of HT_.out zK) ?_
   refine yN 17 43 (any_of HT_.out zK) ?_
   refine yN 18 44 (any_of HT_.out zK) ?_
   refine yP 19 45 (any_of HT_.out zK) ?_
   refine yP 20 46 (any_of HT_.out zK) ?_
   refine yN 21 47 (any_of HT_.out zK) ?_
   refine yN 22 48 (any_of HT_.out zK) ?_
   refine yN 23 49 (any_of HT_.out zK) ?_
   refine yN 24 50 (any_of HT_.out zK) ?_
   refine yN 25 51 (any_of HT_.out zK) ?_
   refine yN 26 52 (any_of HT_.out zK) ?_
   refine yN 27 53 (any_of HT_.out zK) ?_
   refine yN 28 54 (any_of HT_.out zK) ?_
   refine yN 29 55 (any_of HT_.out zK) ?_
   refine yN 30 56 (any_of HT_.out zK) ?_
   refine yP 31 57 (any_of HT_.out zK) ?_
   refine done_ (done_of HT_.out zK) ?_
   try go_wp2
   go_meet
   case rel => exact ⟨_, (true), zP, H', ⟨by first | omega | exact Nat.le_refl _⟩, ⟨by (with_reducible repeat (first | refine blk_drewN ?_ _ | refine blk_drew ?_ | refine blk_alloc ?_ _)); exact BK329.out⟩, ⟨by (with_reducible repeat (first | refine blk_drewN ?_ _ | refine blk_drew ?_ | refine blk_alloc ?_ _)); exact BK330.out⟩, ⟨by (with_reducible repeat (first | refine blk_drewN ?_ _ | refine blk_drew ?_ | refine blk_alloc ?_ _)); exact BK331.out⟩, ⟨by repeat (first | (with_reducible first | exact HB.out | apply bA | apply bN | apply bD | refine below_set ?_ GE329.out | refine below_set ?_ GE330.out | refine below_set ?_ GE331.out) | exact HB.out)⟩⟩
 case rest =>
  clear HC13
  try clear c1
  try clear c2
  try clear p2
  try clear c3
  try clear c6
  try clear p6
  try clear c10
  try clear c25
  try clear c30
  try clear c30b0
  try clear c30b1
  try clear p64
  try clear c66
  try clear c66b0
  obtain ⟨kq, x57_12, rfl, HA, HJ12, BK329, BK330, BK331, HB⟩ := hcut
  cases kq with
  | zero => exact absurd HA.out (by simp [toponymlaw14_GaussOrder.j0])
  | succ kj12 =>
   have H := HA.out
   clear HA
   simp only [toponymlaw14_GaussOrder.j0] at H
   by_cases c84 : x57_12 = true
   ·subst c84
    rw [if_pos rfl] at H
    obtain rfl := sI H
    go_wp2
    go_ret
    exact ⟨zE, by repeat (first | (with_reducible first | exact HB.out | apply bA | apply bN | apply bD | refine below_set ?_ GE329.out | refine below_set ?_ GE330.out | refine below_set ?_ GE331.out) | exact HB.out)⟩
   ·replace c84 := Bool.eq_false_iff.mpr c84
    subst c84
    rw [if_neg (show ¬ (false = true) by decide)] at H
    obtain ⟨t344, A85, H⟩ := zO H
    obtain ⟨t345, A86, H⟩ := zO H
    by_cases c87 : (Go.FloatKind.f64.format.order t344.1 t345.1 == some .eq && Go.FloatKind.f64.format.order t344.2 t345.2 == some .eq) = true
    ·rw [if_pos c87] at H
     have c87b0 : (Go.FloatKind.f64.format.order t344.1 t345.1 == some .eq && Go.FloatKind.f64.format.order t344.2 t345.2 == some .eq) = true := c87
     (try (have c87b1 : decide (Go.FloatKind.f64.format.order t344.1 t345.1 = some .eq && Go.FloatKind.f64.format.order t344.2 t345.2 == some .eq) = true := by simpa using c87))
     (try (have c87b2 : (Go.FloatKind.f64.format.order t344.1 t345.1 == some .eq && Go.FloatKind.f64.format.order t344.2 t345.2 == some .eq) = true := by simpa using c87))
     clear c87
     by_cases c88 : ((t334 == 0) == true) = true
     ·rw [if_pos c88] at H
      have c88b0 : ((t334 == 0) == true) = true := c88
      (try (have c88b1 : decide ((t334 == 0) = true) = true := by simpa using c88))
      (try (have c88b2 : ((t334 == 0) == true) = true := by simpa using c88))
      clear c88
      obtain ⟨t346, A89, H⟩ := zO H
      obtain rfl := sI H
      try go_wp2
      have n0_ := aM (blk_drew BK329.out)
      have n1_ := aM (blk_drew BK330.out)
      have n2_ := aM (blk_drew BK331.out)
      have n3_ := aM (bD HB.out)
      clear BK329
      clear BK330
      clear BK331
      clear HB
      have BK329 := n0_
      have BK330 := n1_
      have BK331 := n2_
      have HB := n3_
      clear n0_ n1_ n2_ n3_
      refine start_ (n := 18) (S := fun w' => w'.cell? ⟨gb329, 0, none⟩ = some (.float .f64 a0_0) ∧ w'.cell? ⟨gb329, 1, none⟩ = some (.float .f64 a0_1) ∧ w'.cell? ⟨gb330, 0, none⟩ = some (.float .f64 a1_0) ∧ w'.cell? ⟨gb330, 1, none⟩ = some (.float .f64 a1_1)) (ds := []) #[false, false, false, false, false, false, false, false, false, false, false, false, false, false, false, false, false, false] zK rfl rfl ⟨(blk_cell BK329.out 0).trans rfl, (blk_cell BK329.out 1).trans rfl, (blk_cell BK330.out 0).trans rfl, (blk_cell BK330.out 1).trans rfl⟩ (fun hHeld => ?_); refine with_tabW toponymlaw14_GaussOrder.tab4 toponymlaw14_GaussOrder.bits4 (fun HT_ HW_ => ?_)
      generalize wc.drew = w90 at BK329 BK330 BK331 HB hHeld ⊢
      refine take_ (i := 0) (N := some 58) (v := ?_) (a' := ?_) #[true, false, false, false, false, false, false, false, false, false, false, false, false, false, false, false, false, false] rfl rfl (take_ofW HT_.out HW_.out zK) (fun _ _ _ h => h) (Or.inl ⟨by rfl, ?_⟩) hHeld ?_ ?_
      rotate_left
      ·rintro w' ⟨s0, s1, s2, s3⟩
       go_simp
       with_reducible rfl
      rotate_left
      ·simp only [Act.put, List.setIfInBounds_toArray, List.set_cons_zero, List.set_cons_succ, i64_w, i32_w]
       rfl
      refine take_ (i := 2) (N := some 60) (v := ?_) (a' := ?_) #[true, false, true, false, false, false, false, false, false, false, false, false, false, false, false, false, false, false] rfl rfl (take_ofW HT_.out HW_.out zK) (fun _ _ _ h => h) (Or.inl ⟨by rfl, ?_⟩) hHeld ?_ ?_
      rotate_left
      ·rintro w' ⟨s0, s1, s2, s3⟩
       go_simp
       with_reducible rfl
      rotate_left
      ·simp only [Act.put, List.setIfInBounds_toArray, List.set_cons_zero, List.set_cons_succ, i64_w, i32_w]
       rfl
      refine one_ (i := 1) (N := some 59) #[true, true, true, false, false, false, false, false, false, false, false, false, false, false, false, false, false, false] rfl rfl (one_of HT_.out zK) (by decide) (fun K hK => ?_)
      refine goes_ Tryd.func10 zK rfl #[.agg #[.float .f64 a0_0, .float .f64 a0_1]] (by rfl) rfl rfl zM ?_
      with_reducible refine (toponymlaw14_Two_z.calls a0_0 a0_1 t344 _ A85.out).mono ?_
      rintro e w91 ⟨rfl, hb⟩
      refine ⟨_, rfl, ?_⟩
      have n0_ := aM (blk_below (zk BK329) hb)
      have n1_ := aM (blk_below (zk BK330) hb)
      have n2_ := aM (blk_below (zk BK331) hb)
      have n3_ := aM (below_step (by repeat (first | (with_reducible first | exact HB.out | apply bA | apply bN | apply bD | refine below_set ?_ GE329.out | refine below_set ?_ GE330.out | refine below_set ?_ GE331.out) | exact HB.out)) hb)
      clear BK329
      clear BK330
      clear BK331
      clear HB
      have BK329 := n0_
      have BK330 := n1_
      have BK331 := n2_
      have HB := n3_
      clear n0_ n1_ n2_ n3_
      (try clear hb)
      (try clear hb2)
      (try clear hk)
      (try clear hi)
      refine hK.out _ _ ⟨(blk_cell BK329.out 0).trans rfl, (blk_cell BK329.out 1).trans rfl, (blk_cell BK330.out 0).trans rfl, (blk_cell BK330.out 1).trans rfl⟩ (fun hHeld => ?_)
      clear hK K
      refine norm_ (a' := ?_) ?_ ?_
      rotate_left
      ·show Act.put _ (some 59) _ = _
       simp only [Act.put, List.setIfInBounds_toArray, List.set_cons_zero, List.set_cons_succ, i64_w, i32_w]
       rfl
      refine one_ (i := 3) (N := some 61) #[true, true, true, true, false, false, false, false, false, false, false, false, false, false, false, false, false, false] rfl rfl (one_of HT_.out zK) (by decide) (fun K hK => ?_)
      refine goes_ Tryd.func10 zK rfl #[.agg #[.float .f64 a1_0, .float .f64 a1_1]] (by rfl) rfl rfl zM ?_
      with_reducible refine (toponymlaw14_Two_z.calls a1_0 a1_1 t345 _ A86.out).mono ?_
      rintro e w92 ⟨rfl, hb⟩
      refine ⟨_, rfl, ?_⟩
      have n0_ := aM (blk_below (zk BK329) hb)
      have n1_ := aM (blk_below (zk BK330) hb)
      have n2_ := aM (blk_below (zk BK331) hb)
      have n3_ := aM (below_step (by repeat (first | (with_reducible first | exact HB.out | apply bA | apply bN | apply bD | refine below_set ?_ GE329.out | refine below_set ?_ GE330.out | refine below_set ?_ GE331.out) | exact HB.out)) hb)
      clear BK329
      clear BK330
      clear BK331
      clear HB
      have BK329 := n0_
      have BK330 := n1_
      have BK331 := n2_
      have HB := n3_
      clear n0_ n1_ n2_ n3_
      (try clear hb)
      (try clear hb2)
      (try clear hk)
      (try clear hi)
      refine hK.out _ _ ⟨(blk_cell BK329.out 0).trans rfl, (blk_cell BK329.out 1).trans rfl, (blk_cell BK330.out 0).trans rfl, (blk_cell BK330.out 1).trans rfl⟩ (fun hHeld => ?_)
      clear hK K
      refine norm_ (a' := ?_) ?_ ?_
      rotate_left
      ·show Act.put _ (some 61) _ = _
       simp only [Act.put, List.setIfInBounds_toArray, List.set_cons_zero, List.set_cons_succ, i64_w, i32_w]
       rfl
      refine yP 4 62 (any_of HT_.out zK) ?_
      refine yP 5 63 (any_of HT_.out zK) ?_
      refine yN 6 64 (any_of HT_.out zK) ?_
      refine yN 7 65 (any_of HT_.out zK) ?_
      refine yN 8 66 (any_of HT_.out zK) ?_
      refine yN 9 67 (any_of HT_.out zK) ?_
      refine yN 10 68 (any_of HT_.out zK) ?_
      refine yN 11 69 (any_of HT_.out zK) ?_
      refine yN 12 70 (any_of HT_.out zK) ?_
      refine yN 13 71 (any_of HT_.out zK) ?_
      refine yN 14 72 (any_of HT_.out zK) ?_
      refine yN 15 73 (any_of HT_.out zK) ?_
      refine yP 16 74 (any_of HT_.out zK) ?_
      refine yP 17 10 (any_of HT_.out zK) ?_
      refine done_ (done_of HT_.out zK) ?_
      try go_wp2_with (first | (go_at_call 20; (with_reducible refine (toponymlaw14_awake.calls kj12  t346 _ (zEnv HE) A89.out).mono ?_); rintro e w93 ⟨rfl, hb⟩; (try clear A89); have n_ := zI (aM (blk_below (zk BK329) hb)) (zI (aM (blk_below (zk BK330) hb)) (zI (aM (blk_below (zk BK331) hb)) (aM (below_step (by repeat (first | (with_reducible first | exact HB.out | apply bA | apply bN | apply bD | refine below_set ?_ GE329.out | refine below_set ?_ GE330.out | refine below_set ?_ GE331.out) | exact HB.out)) hb)))); clear BK329 BK330 BK331 HB; obtain ⟨BK329, BK330, BK331, HB⟩ := n_; (try clear hb)))
      go_ret
      exact ⟨zE, by repeat (first | (with_reducible first | exact HB.out | apply bA | apply bN | apply bD | refine below_set ?_ GE329.out | refine below_set ?_ GE330.out | refine below_set ?_ GE331.out) | exact HB.out)⟩
     ·rw [if_neg c88] at H
      exact absurd ((sI H).trans hT.out) (by decide)
    ·rw [if_neg c87] at H
     have c87b0 : (Go.FloatKind.f64.format.order t344.1 t345.1 == some .eq && Go.FloatKind.f64.format.order t344.2 t345.2 == some .eq) = false := by simpa using c87
     (try (have c87b1 : decide (Go.FloatKind.f64.format.order t344.1 t345.1 = some .eq && Go.FloatKind.f64.format.order t344.2 t345.2 == some .eq) = false := by simpa using c87))
     (try (have c87b2 : (Go.FloatKind.f64.format.order t344.1 t345.1 == some .eq && Go.FloatKind.f64.format.order t344.2 t345.2 == some .eq) = false := by simpa using c87))
     (try (have c87b3 : ¬ (Go.FloatKind.f64.format.order t344.1 t345.1 = some .eq && Go.FloatKind.f64.format.order t344.2 t345.2 == some .eq) := by simpa using c87))
     clear c87
     obtain ⟨t347, A97, H⟩ := zO H
     obtain ⟨t348, A98, H⟩ := zO H
     by_cases c99 : t348 = true
     ·subst c99
      rw [if_pos rfl] at H
      by_cases c100 : ((t334 == 0) == false) = true
      ·rw [if_pos c100] at H
       have c100b0 : ((t334 == 0) == false) = true := c100
       (try (have c100b1 : decide ((t334 == 0) = false) = true := by simpa using c100))
       (try (have c100b2 : ((t334 == 0) == false) = true := by simpa using c100))
       clear c100
       obtain ⟨t349, A101, H⟩ := zO H
       obtain rfl := sI H
       try go_wp2
       have n0_ := aM (blk_drew BK329.out)
       have n1_ := aM (blk_drew BK330.out)
       have n2_ := aM (blk_drew BK331.out)
       have n3_ := aM (bD HB.out)
       clear BK329
       clear BK330
       clear BK331
       clear HB
       have BK329 := n0_
       have BK330 := n1_
       have BK331 := n2_
       have HB := n3_
       clear n0_ n1_ n2_ n3_
       refine start_ (n := 18) (S := fun w' => w'.cell? ⟨gb329, 0, none⟩ = some (.float .f64 a0_0) ∧ w'.cell? ⟨gb329, 1, none⟩ = some (.float .f64 a0_1) ∧ w'.cell? ⟨gb330, 0, none⟩ = some (.float .f64 a1_0) ∧ w'.cell? ⟨gb330, 1, none⟩ = some (.float .f64 a1_1)) (ds := []) #[false, false, false, false, false, false, false, false, false, false, false, false, false, false, false, false, false, false] zK rfl rfl ⟨(blk_cell BK329.out 0).trans rfl, (blk_cell BK329.out 1).trans rfl, (blk_cell BK330.out 0).trans rfl, (blk_cell BK330.out 1).trans rfl⟩ (fun hHeld => ?_); refine with_tabW toponymlaw14_GaussOrder.tab4 toponymlaw14_GaussOrder.bits4 (fun HT_ HW_ => ?_)
       generalize wc.drew = w102 at BK329 BK330 BK331 HB hHeld ⊢
       refine take_ (i := 0) (N := some 58) (v := ?_) (a' := ?_) #[true, false, false, false, false, false, false, false, false, false, false, false, false, false, false, false, false, false] rfl rfl (take_ofW HT_.out HW_.out zK) (fun _ _ _ h => h) (Or.inl ⟨by rfl, ?_⟩) hHeld ?_ ?_
       rotate_left
       ·rintro w' ⟨s0, s1, s2, s3⟩
        go_simp
        with_reducible rfl
       rotate_left
       ·simp only [Act.put, List.setIfInBounds_toArray, List.set_cons_zero, List.set_cons_succ, i64_w, i32_w]
        rfl
       refine take_ (i := 2) (N := some 60) (v := ?_) (a' := ?_) #[true, false, true, false, false, false, false, false, false, false, false, false, false, false, false, false, false, false] rfl rfl (take_ofW HT_.out HW_.out zK) (fun _ _ _ h => h) (Or.inl ⟨by rfl, ?_⟩) hHeld ?_ ?_
       rotate_left
       ·rintro w' ⟨s0, s1, s2, s3⟩
        go_simp
        with_reducible rfl
       rotate_left
       ·simp only [Act.put, List.setIfInBounds_toArray, List.set_cons_zero, List.set_cons_succ, i64_w, i32_w]
        rfl
       refine one_ (i := 1) (N := some 59) #[true, true, true, false, false, false, false, false, false, false, false, false, false, false, false, false, false, false] rfl rfl (one_of HT_.out zK) (by decide) (fun K hK => ?_)
       refine goes_ Tryd.func10 zK rfl #[.agg #[.float .f64 a0_0, .float .f64 a0_1]] (by rfl) rfl rfl zM ?_
       with_reducible refine (toponymlaw14_Two_z.calls a0_0 a0_1 t344 _ A85.out).mono ?_
       rintro e w103 ⟨rfl, hb⟩
       refine ⟨_, rfl, ?_⟩
       have n0_ := aM (blk_below (zk BK329) hb)
       have n1_ := aM (blk_below (zk BK330) hb)
       have n2_ := aM (blk_below (zk BK331) hb)
       have n3_ := aM (below_step (by repeat (first | (with_reducible first | exact HB.out | apply bA | apply bN | apply bD | refine below_set ?_ GE329.out | refine below_set ?_ GE330.out | refine below_set ?_ GE331.out) | exact HB.out)) hb)
       clear BK329
       clear BK330
       clear BK331
       clear HB
       have BK329 := n0_
       have BK330 := n1_
       have BK331 := n2_
       have HB := n3_
       clear n0_ n1_ n2_ n3_
       (try clear hb)
       (try clear hb2)
       (try clear hk)
       (try clear hi)
       refine hK.out _ _ ⟨(blk_cell BK329.out 0).trans rfl, (blk_cell BK329.out 1).trans rfl, (blk_cell BK330.out 0).trans rfl, (blk_cell BK330.out 1).trans rfl⟩ (fun hHeld => ?_)
       clear hK K
       refine norm_ (a' := ?_) ?_ ?_
       rotate_left
       ·show Act.put _ (some 59) _ = _
        simp only [Act.put, List.setIfInBounds_toArray, List.set_cons_zero, List.set_cons_succ, i64_w, i32_w]
        rfl
       refine one_ (i := 3) (N := some 61) #[true, true, true, true, false, false, false, false, false, false, false, false, false, false, false, false, false, false] rfl rfl (one_of HT_.out zK) (by decide) (fun K hK => ?_)
       refine goes_ Tryd.func10 zK rfl #[.agg #[.float .f64 a1_0, .float .f64 a1_1]] (by rfl) rfl rfl zM ?_
       with_reducible refine (toponymlaw14_Two_z.calls a1_0 a1_1 t345 _ A86.out).mono ?_
       rintro e w104 ⟨rfl, hb⟩
       refine ⟨_, rfl, ?_⟩
       have n0_ := aM (blk_below (zk BK329) hb)
       have n1_ := aM (blk_below (zk BK330) hb)
       have n2_ := aM (blk_below (zk BK331) hb)
       have n3_ := aM (below_step (by repeat (first | (with_reducible first | exact HB.out | apply bA | apply bN | apply bD | refine below_set ?_ GE329.out | refine below_set ?_ GE330.out | refine below_set ?_ GE331.out) | exact HB.out)) hb)
       clear BK329
       clear BK330
       clear BK331
       clear HB
       have BK329 := n0_
       have BK330 := n1_
       have BK331 := n2_
       have HB := n3_
       clear n0_ n1_ n2_ n3_
       (try clear hb)
       (try clear hb2)
       (try clear hk)
       (try clear hi)
       refine hK.out _ _ ⟨(blk_cell BK329.out 0).trans rfl, (blk_cell BK329.out 1).trans rfl, (blk_cell BK330.out 0).trans rfl, (blk_cell BK330.out 1).trans rfl⟩ (fun hHeld => ?_)
       clear hK K
       refine norm_ (a' := ?_) ?_ ?_
       rotate_left
       ·show Act.put _ (some 61) _ = _
        simp only [Act.put, List.setIfInBounds_toArray, List.set_cons_zero, List.set_cons_succ, i64_w, i32_w]
        rfl
       refine yP 4 62 (any_of HT_.out zK) ?_
       refine yP 5 63 (any_of HT_.out zK) ?_
       refine take_ (i := 6) (N := some 64) (v := ?_) (a' := ?_) #[true, true, true, true, true, true, true, false, false, false, false, false, false, false, false, false, false, false] rfl rfl (take_ofW HT_.out HW_.out zK) (fun _ _ _ h => h) (Or.inl ⟨by rfl, ?_⟩) hHeld ?_ ?_
       rotate_left
       ·rintro w' ⟨s0, s1, s2, s3⟩
        go_simp
        with_reducible rfl
       rotate_left
       ·simp only [Act.put, List.setIfInBounds_toArray, List.set_cons_zero, List.set_cons_succ, i64_w, i32_w]
        rfl
       refine one_ (i := 7) (N := some 65) #[true, true, true, true, true, true, true, true, false, false, false, false, false, false, false, false, false, false] rfl rfl (one_of HT_.out zK) (by decide) (fun K hK => ?_)
       refine goes_ Tryd.func10 zK rfl #[.agg #[.float .f64 a0_0, .float .f64 a0_1]] (by rfl) rfl rfl zM ?_
       with_reducible refine (toponymlaw14_Two_z.calls a0_0 a0_1 t347 _ A97.out).mono ?_
       rintro e w105 ⟨rfl, hb⟩
       refine ⟨_, rfl, ?_⟩
       have n0_ := aM (blk_below (zk BK329) hb)
       have n1_ := aM (blk_below (zk BK330) hb)
       have n2_ := aM (blk_below (zk BK331) hb)
       have n3_ := aM (below_step (by repeat (first | (with_reducible first | exact HB.out | apply bA | apply bN | apply bD | refine below_set ?_ GE329.out | refine below_set ?_ GE330.out | refine below_set ?_ GE331.out) | exact HB.out)) hb)
       clear BK329
       clear BK330
       clear BK331
       clear HB
       have BK329 := n0_
       have BK330 := n1_
       have BK331 := n2_
       have HB := n3_
       clear n0_ n1_ n2_ n3_
       (try clear hb)
       (try clear hb2)
       (try clear hk)
       (try clear hi)
       refine hK.out _ _ ⟨(blk_cell BK329.out 0).trans rfl, (blk_cell BK329.out 1).trans rfl, (blk_cell BK330.out 0).trans rfl, (blk_cell BK330.out 1).trans rfl⟩ (fun hHeld => ?_)
       clear hK K
       refine norm_ (a' := ?_) ?_ ?_
       rotate_left
       ·show Act.put _ (some 65) _ = _
        simp only [Act.put, List.setIfInBounds_toArray, List.set_cons_zero, List.set_cons_succ, i64_w, i32_w]
        rfl
       refine one_ (i := 8) (N := some 66) #[true, true, true, true, true, true, true, true, true, false, false, false, false, false, false, false, false, false] rfl rfl (one_of HT_.out zK) (by decide) (fun K hK => ?_)
       refine goes_ Tryd.func17 zK rfl #[.complex .f64 t347.1 t347.2] (by rfl) rfl rfl zM ?_
       with_reducible refine (gauss_Fits.calls t347 true _ A98.out).mono ?_
       rintro e w106 ⟨rfl, hb⟩
       refine ⟨_, rfl, ?_⟩
       have n0_ := aM (blk_below (zk BK329) hb)
       have n1_ := aM (blk_below (zk BK330) hb)
       have n2_ := aM (blk_below (zk BK331) hb)
       have n3_ := aM (below_step (by repeat (first | (with_reducible first | exact HB.out | apply bA | apply bN | apply bD | refine below_set ?_ GE329.out | refine below_set ?_ GE330.out | refine below_set ?_ GE331.out) | exact HB.out)) hb)
       clear BK329
       clear BK330
       clear BK331
       clear HB
       have BK329 := n0_
       have BK330 := n1_
       have BK331 := n2_
       have HB := n3_
       clear n0_ n1_ n2_ n3_
       (try clear hb)
       (try clear hb2)
       (try clear hk)
       (try clear hi)
       refine hK.out _ _ ⟨(blk_cell BK329.out 0).trans rfl, (blk_cell BK329.out 1).trans rfl, (blk_cell BK330.out 0).trans rfl, (blk_cell BK330.out 1).trans rfl⟩ (fun hHeld => ?_)
       clear hK K
       refine norm_ (a' := ?_) ?_ ?_
       rotate_left
       ·show Act.put _ (some 66) _ = _
        simp only [Act.put, List.setIfInBounds_toArray, List.set_cons_zero, List.set_cons_succ, i64_w, i32_w]
        rfl
       refine yP 9 67 (any_of HT_.out zK) ?_
       refine yP 10 68 (any_of HT_.out zK) ?_
       refine yN 11 69 (any_of HT_.out zK) ?_
       refine yN 12 70 (any_of HT_.out zK) ?_
       refine yN 13 71 (any_of HT_.out zK) ?_
       refine yN 14 72 (any_of HT_.out zK) ?_
       refine yP 15 73 (any_of HT_.out zK) ?_
       refine yP 16 74 (any_of HT_.out zK) ?_
       refine yP 17 10 (any_of HT_.out zK) ?_
       refine done_ (done_of HT_.out zK) ?_
       try go_wp2_with (first | (go_at_call 20; (with_reducible refine (toponymlaw14_awake.calls kj12  t349 _ (zEnv HE) A101.out).mono ?_); rintro e w107 ⟨rfl, hb⟩; (try clear A101); have n_ := zI (aM (blk_below (zk BK329) hb)) (zI (aM (blk_below (zk BK330) hb)) (zI (aM (blk_below (zk BK331) hb)) (aM (below_step (by repeat (first | (with_reducible first | exact HB.out | apply bA | apply bN | apply bD | refine below_set ?_ GE329.out | refine below_set ?_ GE330.out | refine below_set ?_ GE331.out) | exact HB.out)) hb)))); clear BK329 BK330 BK331 HB; obtain ⟨BK329, BK330, BK331, HB⟩ := n_; (try clear hb)))
       go_ret
       exact ⟨zE, by repeat (first | (with_reducible first | exact HB.out | apply bA | apply bN | apply bD | refine below_set ?_ GE329.out | refine below_set ?_ GE330.out | refine below_set ?_ GE331.out) | exact HB.out)⟩
      ·rw [if_neg c100] at H
       exact absurd ((sI H).trans hT.out) (by decide)
     ·replace c99 := Bool.eq_false_iff.mpr c99
      subst c99
      rw [if_neg (show ¬ (false = true) by decide)] at H
      obtain ⟨t350, A113, H⟩ := zO H
      obtain ⟨t351, A114, H⟩ := zO H
      by_cases c115 : ((t334 == 0) == (!t351)) = true
      ·rw [if_pos c115] at H
       have c115b0 : ((t334 == 0) == (!t351)) = true := c115
       (try (have c115b1 : decide ((t334 == 0) = (!t351)) = true := by simpa using c115))
       (try (have c115b2 : ((t334 == 0) == (!t351)) = true := by simpa using c115))
       clear c115
       obtain ⟨t352, A116, H⟩ := zO H
       obtain rfl := sI H
       try go_wp2
       have n0_ := aM (blk_drew BK329.out)
       have n1_ := aM (blk_drew BK330.out)
       have n2_ := aM (blk_drew BK331.out)
       have n3_ := aM (bD HB.out)
       clear BK329
       clear BK330
       clear BK331
       clear HB
       have BK329 := n0_
       have BK330 := n1_
       have BK331 := n2_
       have HB := n3_
       clear n0_ n1_ n2_ n3_
       refine start_ (n := 18) (S := fun w' => w'.cell? ⟨gb329, 0, none⟩ = some (.float .f64 a0_0) ∧ w'.cell? ⟨gb329, 1, none⟩ = some (.float .f64 a0_1) ∧ w'.cell? ⟨gb330, 0, none⟩ = some (.float .f64 a1_0) ∧ w'.cell? ⟨gb330, 1, none⟩ = some (.float .f64 a1_1)) (ds := []) #[false, false, false, false, false, false, false, false, false, false, false, false, false, false, false, false, false, false] zK rfl rfl ⟨(blk_cell BK329.out 0).trans rfl, (blk_cell BK329.out 1).trans rfl, (blk_cell BK330.out 0).trans rfl, (blk_cell BK330.out 1).trans rfl⟩ (fun hHeld => ?_); refine with_tabW toponymlaw14_GaussOrder.tab4 toponymlaw14_GaussOrder.bits4 (fun HT_ HW_ => ?_)
       generalize wc.drew = w117 at BK329 BK330 BK331 HB hHeld ⊢
       refine take_ (i := 0) (N := some 58) (v := ?_) (a' := ?_) #[true, false, false, false, false, false, false, false, false, false, false, false, false, false, false, false, false, false] rfl rfl (take_ofW HT_.out HW_.out zK) (fun _ _ _ h => h) (Or.inl ⟨by rfl, ?_⟩) hHeld ?_ ?_
       rotate_left
       ·rintro w' ⟨s0, s1, s2, s3⟩
        go_simp
        with_reducible rfl
       rotate_left
       ·simp only [Act.put, List.setIfInBounds_toArray, List.set_cons_zero, List.set_cons_succ, i64_w, i32_w]
        rfl
       refine take_ (i := 2) (N := some 60) (v := ?_) (a' := ?_) #[true, false, true, false, false, false, false, false, false, false, false, false, false, false, false, false, false, false] rfl rfl (take_ofW HT_.out HW_.out zK) (fun _ _ _ h => h) (Or.inl ⟨by rfl, ?_⟩) hHeld ?_ ?_
       rotate_left
       ·rintro w' ⟨s0, s1, s2, s3⟩
        go_simp
        with_reducible rfl
       rotate_left
       ·simp only [Act.put, List.setIfInBounds_toArray, List.set_cons_zero, List.set_cons_succ, i64_w, i32_w]
        rfl
       refine one_ (i := 1) (N := some 59) #[true, true, true, false, false, false, false, false, false, false, false, false, false, false, false, false, false, false] rfl rfl (one_of HT_.out zK) (by decide) (fun K hK => ?_)
       refine goes_ Tryd.func10 zK rfl #[.agg #[.float .f64 a0_0, .float .f64 a0_1]] (by rfl) rfl rfl zM ?_
       with_reducible refine (toponymlaw14_Two_z.calls a0_0 a0_1 t344 _ A85.out).mono ?_
       rintro e w118 ⟨rfl, hb⟩
       refine ⟨_, rfl, ?_⟩
       have n0_ := aM (blk_below (zk BK329) hb)
       have n1_ := aM (blk_below (zk BK330) hb)
       have n2_ := aM (blk_below (zk BK331) hb)
       have n3_ := aM (below_step (by repeat (first | (with_reducible first | exact HB.out | apply bA | apply bN | apply bD | refine below_set ?_ GE329.out | refine below_set ?_ GE330.out | refine below_set ?_ GE331.out) | exact HB.out)) hb)
       clear BK329
       clear BK330
       clear BK331
       clear HB
       have BK329 := n0_
       have BK330 := n1_
       have BK331 := n2_
       have HB := n3_
       clear n0_ n1_ n2_ n3_
       (try clear hb)
       (try clear hb2)
       (try clear hk)
       (try clear hi)
       refine hK.out _ _ ⟨(blk_cell BK329.out 0).trans rfl, (blk_cell BK329.out 1).trans rfl, (blk_cell BK330.out 0).trans rfl, (blk_cell BK330.out 1).trans rfl⟩ (fun hHeld => ?_)
       clear hK K
       refine norm_ (a' := ?_) ?_ ?_
       rotate_left
       ·show Act.put _ (some 59) _ = _
        simp only [Act.put, List.setIfInBounds_toArray, List.set_cons_zero, List.set_cons_succ, i64_w, i32_w]
        rfl
       refine one_ (i := 3) (N := some 61) #[true, true, true, true, false, false, false, false, false, false, false, false, false, false, false, false, false, false] rfl rfl (one_of HT_.out zK) (by decide) (fun K hK => ?_)
       refine goes_ Tryd.func10 zK rfl #[.agg #[.float .f64 a1_0, .float .f64 a1_1]] (by rfl) rfl rfl zM ?_
       with_reducible refine (toponymlaw14_Two_z.calls a1_0 a1_1 t345 _ A86.out).mono ?_
       rintro e w119 ⟨rfl, hb⟩
       refine ⟨_, rfl, ?_⟩
       have n0_ := aM (blk_below (zk BK329) hb)
       have n1_ := aM (blk_below (zk BK330) hb)
       have n2_ := aM (blk_below (zk BK331) hb)
       have n3_ := aM (below_step (by repeat (first | (with_reducible first | exact HB.out | apply bA | apply bN | apply bD | refine below_set ?_ GE329.out | refine below_set ?_ GE330.out | refine below_set ?_ GE331.out) | exact HB.out)) hb)
       clear BK329
       clear BK330
       clear BK331
       clear HB
       have BK329 := n0_
       have BK330 := n1_
       have BK331 := n2_
       have HB := n3_
       clear n0_ n1_ n2_ n3_
       (try clear hb)
       (try clear hb2)
       (try clear hk)
       (try clear hi)
       refine hK.out _ _ ⟨(blk_cell BK329.out 0).trans rfl, (blk_cell BK329.out 1).trans rfl, (blk_cell BK330.out 0).trans rfl, (blk_cell BK330.out 1).trans rfl⟩ (fun hHeld => ?_)
       clear hK K
       refine norm_ (a' := ?_) ?_ ?_
       rotate_left
       ·show Act.put _ (some 61) _ = _
        simp only [Act.put, List.setIfInBounds_toArray, List.set_cons_zero, List.set_cons_succ, i64_w, i32_w]
        rfl
       refine yP 4 62 (any_of HT_.out zK) ?_
       refine yP 5 63 (any_of HT_.out zK) ?_
       refine take_ (i := 6) (N := some 64) (v := ?_) (a' := ?_) #[true, true, true, true, true, true, true, false, false, false, false, false, false, false, false, false, false, false] rfl rfl (take_ofW HT_.out HW_.out zK) (fun _ _ _ h => h) (Or.inl ⟨by rfl, ?_⟩) hHeld ?_ ?_
       rotate_left
       ·rintro w' ⟨s0, s1, s2, s3⟩
        go_simp
        with_reducible rfl
       rotate_left
       ·simp only [Act.put, List.setIfInBounds_toArray, List.set_cons_zero, List.set_cons_succ, i64_w, i32_w]
        rfl
       refine one_ (i := 7) (N := some 65) #[true, true, true, true, true, true, true, true, false, false, false, false, false, false, false, false, false, false] rfl rfl (one_of HT_.out zK) (by decide) (fun K hK => ?_)
       refine goes_ Tryd.func10 zK rfl #[.agg #[.float .f64 a0_0, .float .f64 a0_1]] (by rfl) rfl rfl zM ?_
       with_reducible refine (toponymlaw14_Two_z.calls a0_0 a0_1 t347 _ A97.out).mono ?_
       rintro e w120 ⟨rfl, hb⟩
       refine ⟨_, rfl, ?_⟩
       have n0_ := aM (blk_below (zk BK329) hb)
       have n1_ := aM (blk_below (zk BK330) hb)
       have n2_ := aM (blk_below (zk BK331) hb)
       have n3_ := aM (below_step (by repeat (first | (with_reducible first | exact HB.out | apply bA | apply bN | apply bD | refine below_set ?_ GE329.out | refine below_set ?_ GE330.out | refine below_set ?_ GE331.out) | exact HB.out)) hb)
       clear BK329
       clear BK330
       clear BK331
       clear HB
       have BK329 := n0_
       have BK330 := n1_
       have BK331 := n2_
       have HB := n3_
       clear n0_ n1_ n2_ n3_
       (try clear hb)
       (try clear hb2)
       (try clear hk)
       (try clear hi)
       refine hK.out _ _ ⟨(blk_cell BK329.out 0).trans rfl, (blk_cell BK329.out 1).trans rfl, (blk_cell BK330.out 0).trans rfl, (blk_cell BK330.out 1).trans rfl⟩ (fun hHeld => ?_)
       clear hK K
       refine norm_ (a' := ?_) ?_ ?_
       rotate_left
       ·show Act.put _ (some 65) _ = _
        simp only [Act.put, List.setIfInBounds_toArray, List.set_cons_zero, List.set_cons_succ, i64_w, i32_w]
        rfl
       refine one_ (i := 8) (N := some 66) #[true, true, true, true, true, true, true, true, true, false, false, false, false, false, false, false, false, false] rfl rfl (one_of HT_.out zK) (by decide) (fun K hK => ?_)
       refine goes_ Tryd.func17 zK rfl #[.complex .f64 t347.1 t347.2] (by rfl) rfl rfl zM ?_
       with_reducible refine (gauss_Fits.calls t347 false _ A98.out).mono ?_
       rintro e w121 ⟨rfl, hb⟩
       refine ⟨_, rfl, ?_⟩
       have n0_ := aM (blk_below (zk BK329) hb)
       have n1_ := aM (blk_below (zk BK330) hb)
       have n2_ := aM (blk_below (zk BK331) hb)
       have n3_ := aM (below_step (by repeat (first | (with_reducible first | exact HB.out | apply bA | apply bN | apply bD | refine below_set ?_ GE329.out | refine below_set ?_ GE330.out | refine below_set ?_ GE331.out) | exact HB.out)) hb)
       clear BK329
       clear BK330
       clear BK331
       clear HB
       have BK329 := n0_
       have BK330 := n1_
       have BK331 := n2_
       have HB := n3_
       clear n0_ n1_ n2_ n3_
       (try clear hb)
       (try clear hb2)
       (try clear hk)
       (try clear hi)
       refine hK.out _ _ ⟨(blk_cell BK329.out 0).trans rfl, (blk_cell BK329.out 1).trans rfl, (blk_cell BK330.out 0).trans rfl, (blk_cell BK330.out 1).trans rfl⟩ (fun hHeld => ?_)
       clear hK K
       refine norm_ (a' := ?_) ?_ ?_
       rotate_left
       ·show Act.put _ (some 66) _ = _
        simp only [Act.put, List.setIfInBounds_toArray, List.set_cons_zero, List.set_cons_succ, i64_w, i32_w]
        rfl
       refine yP 9 67 (any_of HT_.out zK) ?_
       refine yP 10 68 (any_of HT_.out zK) ?_
       refine take_ (i := 11) (N := some 69) (v := ?_) (a' := ?_) #[true, true, true, true, true, true, true, true, true, true, true, true, false, false, false, false, false, false] rfl rfl (take_ofW HT_.out HW_.out zK) (fun _ _ _ h => h) (Or.inl ⟨by rfl, ?_⟩) hHeld ?_ ?_
       rotate_left
       ·rintro w' ⟨s0, s1, s2, s3⟩
        go_simp
        with_reducible rfl
       rotate_left
       ·simp only [Act.put, List.setIfInBounds_toArray, List.set_cons_zero, List.set_cons_succ, i64_w, i32_w]
        rfl
       refine one_ (i := 12) (N := some 70) #[true, true, true, true, true, true, true, true, true, true, true, true, true, false, false, false, false, false] rfl rfl (one_of HT_.out zK) (by decide) (fun K hK => ?_)
       refine goes_ Tryd.func10 zK rfl #[.agg #[.float .f64 a1_0, .float .f64 a1_1]] (by rfl) rfl rfl zM ?_
       with_reducible refine (toponymlaw14_Two_z.calls a1_0 a1_1 t350 _ A113.out).mono ?_
       rintro e w122 ⟨rfl, hb⟩
       refine ⟨_, rfl, ?_⟩
       have n0_ := aM (blk_below (zk BK329) hb)
       have n1_ := aM (blk_below (zk BK330) hb)
       have n2_ := aM (blk_below (zk BK331) hb)
       have n3_ := aM (below_step (by repeat (first | (with_reducible first | exact HB.out | apply bA | apply bN | apply bD | refine below_set ?_ GE329.out | refine below_set ?_ GE330.out | refine below_set ?_ GE331.out) | exact HB.out)) hb)
       clear BK329
       clear BK330
       clear BK331
       clear HB
       have BK329 := n0_
       have BK330 := n1_
       have BK331 := n2_
       have HB := n3_
       clear n0_ n1_ n2_ n3_
       (try clear hb)
       (try clear hb2)
       (try clear hk)
       (try clear hi)
       refine hK.out _ _ ⟨(blk_cell BK329.out 0).trans rfl, (blk_cell BK329.out 1).trans rfl, (blk_cell BK330.out 0).trans rfl, (blk_cell BK330.out 1).trans rfl⟩ (fun hHeld => ?_)
       clear hK K
       refine norm_ (a' := ?_) ?_ ?_
       rotate_left
       ·show Act.put _ (some 70) _ = _
        simp only [Act.put, List.setIfInBounds_toArray, List.set_cons_zero, List.set_cons_succ, i64_w, i32_w]
        rfl
       refine one_ (i := 13) (N := some 71) #[true, true, true, true, true, true, true, true, true, true, true, true, true, true, false, false, false, false] rfl rfl (one_of HT_.out zK) (by decide) (fun K hK => ?_)
       refine goes_ Tryd.func17 zK rfl #[.complex .f64 t350.1 t350.2] (by rfl) rfl rfl zM ?_
       with_reducible refine (gauss_Fits.calls t350 t351 _ A114.out).mono ?_
       rintro e w123 ⟨rfl, hb⟩
       refine ⟨_, rfl, ?_⟩
       have n0_ := aM (blk_below (zk BK329) hb)
       have n1_ := aM (blk_below (zk BK330) hb)
       have n2_ := aM (blk_below (zk BK331) hb)
       have n3_ := aM (below_step (by repeat (first | (with_reducible first | exact HB.out | apply bA | apply bN | apply bD | refine below_set ?_ GE329.out | refine below_set ?_ GE330.out | refine below_set ?_ GE331.out) | exact HB.out)) hb)
       clear BK329
       clear BK330
       clear BK331
       clear HB
       have BK329 := n0_
       have BK330 := n1_
       have BK331 := n2_
       have HB := n3_
       clear n0_ n1_ n2_ n3_
       (try clear hb)
       (try clear hb2)
       (try clear hk)
       (try clear hi)
       refine hK.out _ _ ⟨(blk_cell BK329.out 0).trans rfl, (blk_cell BK329.out 1).trans rfl, (blk_cell BK330.out 0).trans rfl, (blk_cell BK330.out 1).trans rfl⟩ (fun hHeld => ?_)
       clear hK K
       refine norm_ (a' := ?_) ?_ ?_
       rotate_left
       ·show Act.put _ (some 71) _ = _
        simp only [Act.put, List.setIfInBounds_toArray, List.set_cons_zero, List.set_cons_succ, i64_w, i32_w]
        rfl
       refine yP 14 72 (any_of HT_.out zK) ?_
       refine yP 15 73 (any_of HT_.out zK) ?_
       refine yP 16 74 (any_of HT_.out zK) ?_
       refine yP 17 10 (any_of HT_.out zK) ?_
       refine done_ (done_of HT_.out zK) ?_
       try go_wp2_with (first | (go_at_call 20; (with_reducible refine (toponymlaw14_awake.calls kj12  t352 _ (zEnv HE) A116.out).mono ?_); rintro e w124 ⟨rfl, hb⟩; (try clear A116); have n_ := zI (aM (blk_below (zk BK329) hb)) (zI (aM (blk_below (zk BK330) hb)) (zI (aM (blk_below (zk BK331) hb)) (aM (below_step (by repeat (first | (with_reducible first | exact HB.out | apply bA | apply bN | apply bD | refine below_set ?_ GE329.out | refine below_set ?_ GE330.out | refine below_set ?_ GE331.out) | exact HB.out)) hb)))); clear BK329 BK330 BK331 HB; obtain ⟨BK329, BK330, BK331, HB⟩ := n_; (try clear hb)))
       go_ret
       exact ⟨zE, by repeat (first | (with_reducible first | exact HB.out | apply bA | apply bN | apply bD | refine below_set ?_ GE329.out | refine below_set ?_ GE330.out | refine below_set ?_ GE331.out) | exact HB.out)⟩
      ·rw [if_neg c115] at H
       exact absurd ((sI H).trans hT.out) (by decide)
end Go.Proofs.YtoadfanppajhhaaDoor.P
