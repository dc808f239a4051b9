-- Printed by wip/mk.py (this session's driver over the kit's print) and from wip/manual.
import Derived.Test.YtoadfanppajhhaaDoorP0
import Derived.Test.YtoadfanppajhhaaDoorP1
import Derived.Test.YtoadfanppajhhaaDoorP2
import Derived.Test.YtoadfanppajhhaaDoorP4
namespace Go.Proofs.YtoadfanppajhhaaDoor.P
open Go.RowKit Go.Proofs.YtoadfanppajhhaaDoorW.PrintWords Go.Proofs.YtoadfanppajhhaaDoorW.PrintLast Go.Proofs.YtoadfanppajhhaaDoorW.PrintMore
attribute [local go_sem] run_store_float run_store_complex max2_int min2_int max_two min_two max_three min_three max_four min_four   -- for this text's walks alone
set_option linter.unusedVariables false
set_option linter.unusedSimpArgs false

/-! ### toponymlaw14_GaussPairs: function 5 -/
def toponymlaw14_GaussPairs.f (k : Nat) (a0_0 : Nat) (a0_1 : Nat) (a1_0 : Nat) (a1_1 : Nat) : Option (Bool) := (toponymlaw14_Two_z.f a0_0 a0_1).bind fun t268 => ((toponymlaw14_Two_z.f a1_0 a1_1).bind fun t269 => ((gauss_Times.f k t268 t269).bind fun bt270 => ((toponymlaw14_Two_r.f a0_0 a0_1).bind fun bt272 => ((toponymlaw14_Two_r.f a1_0 a1_1).bind fun bt274 => ((toponymref14_Times.f k bt272.1 bt272.2 bt274.1 bt274.2).bind fun bt276 => ((toponymlaw14_is.f bt270.1 bt276.1 bt276.2.1).bind fun t279 => (if t279 = true then (if bt270.2 = bt276.2.2 then ((toponymlaw14_Two_z.f a0_0 a0_1).bind fun t280 => ((toponymlaw14_Two_z.f a1_0 a1_1).bind fun t281 => ((gauss_Cmp.f k t280 t281).bind fun t282 => ((toponymlaw14_Two_r.f a0_0 a0_1).bind fun bt283 => ((toponymlaw14_Two_r.f a1_0 a1_1).bind fun bt285 => ((toponymref14_Cmp.f bt283.1 bt283.2 bt285.1 bt285.2).bind fun t287 => (if t282 = t287 then ((toponymlaw14_awake.f k).bind fun t288 => (some t288)) else (some false)))))))) else (some false)) else (some false))))))))
theorem toponymlaw14_GaussPairs.mono : ∀ a0 a1 a2 a3 k, LeO (toponymlaw14_GaussPairs.f k a0 a1 a2 a3) (toponymlaw14_GaussPairs.f (k + 1) a0 a1 a2 a3) := by
 intro a0 a1 a2 a3 k
 unfold toponymlaw14_GaussPairs.f
 repeat' first
   | (with_reducible exact gauss_Cmp.mono _ _ _)
   | (with_reducible exact gauss_Times.mono _ _ _)
   | (with_reducible exact toponymlaw14_awake.mono _)
   | (with_reducible exact toponymref14_Times.mono _ _ _ _ _)
   | (with_reducible exact LeO.refl _)
   | exact gauss_Cmp.mono _ _ _
   | exact gauss_Times.mono _ _ _
   | exact toponymlaw14_awake.mono _
   | exact toponymref14_Times.mono _ _ _ _ _
   | exact LeO.none _
   | refine LeO.ite ?_ ?_
   | refine LeO.bind ?_ (fun _ => ?_)
def toponymlaw14_GaussPairs.T1 : Bool × List (List Nat × List Nat) := (true, [([], []), ([0], [0]), ([], []), ([2, 1], [2]), ([1, 3, 3], [1, 3]), ([4], [4]), ([5], [5]), ([5], [5]), ([6, 4, 0, 1, 2, 3, 4, 5, 6], [6]), ([7, 8, 0, 1, 2, 3, 4, 5, 6, 7, 8], [7])])
def toponymlaw14_GaussPairs.B1 : List Nat := [0, 1, 0, 7, 15, 31, 63, 63, 127, 511]
theorem toponymlaw14_GaussPairs.tab1 : rtab .any (opsOf Tryd.f5 1) = toponymlaw14_GaussPairs.T1 := zK
theorem toponymlaw14_GaussPairs.bits1 : waitsOk toponymlaw14_GaussPairs.T1.2 toponymlaw14_GaussPairs.B1 = true := zK
def toponymlaw14_GaussPairs.T2 : Bool × List (List Nat × List Nat) := (true, [([], []), ([0], [0]), ([], []), ([2, 1], [2]), ([1, 3, 3], [1, 3]), ([4], [4]), ([5], [5]), ([5], [5]), ([5], [5]), ([6, 4, 0, 1, 2, 3, 4, 5, 6], [6]), ([7, 9, 0, 1, 2, 3, 4, 5, 6, 7, 9], [7]), ([8, 10, 0, 1, 2, 3, 4, 5, 6, 7, 8, 9, 10], [8])])
def toponymlaw14_GaussPairs.B2 : List Nat := [0, 1, 0, 7, 15, 31, 63, 63, 63, 127, 767, 2047]
theorem toponymlaw14_GaussPairs.tab2 : rtab .any (opsOf Tryd.f5 2) = toponymlaw14_GaussPairs.T2 := zK
theorem toponymlaw14_GaussPairs.bits2 : waitsOk toponymlaw14_GaussPairs.T2.2 toponymlaw14_GaussPairs.B2 = true := zK
def toponymlaw14_GaussPairs.T3 : Bool × List (List Nat × List Nat) := (true, [([], []), ([], []), ([], []), ([0, 1, 2], [0, 1, 2]), ([3, 3], [3]), ([4], [4]), ([4], [4]), ([5, 6, 4], [4, 5, 6]), ([4, 7], [4, 7]), ([8, 4], [8]), ([9], [9]), ([10, 9, 9], [9, 10]), ([9], [9]), ([12, 11, 9], [9, 12]), ([11, 13, 13, 9], [9, 11, 13]), ([9], [9]), ([15, 14, 9], [9, 15]), ([9], [9]), ([17, 16, 9], [9, 17]), ([16, 18, 18, 9], [9, 16, 18]), ([14, 19, 9], [9, 14, 19]), ([9, 20], [9, 20]), ([21, 19], [21]), ([22, 22], [22]), ([22, 23], [22, 23]), ([24, 23, 0, 1, 2, 3, 4, 5, 6, 7, 8, 9, 10, 11, 12, 13, 14, 15, 16, 17, 18, 19, 20, 21, 22, 23, 24], [24])])
def toponymlaw14_GaussPairs.B3 : List Nat := [0, 0, 0, 7, 15, 31, 31, 127, 255, 511, 1023, 2047, 1023, 8191, 16383, 1023, 65535, 1023, 262143, 524287, 1048575, 2097151, 4194303, 8388607, 16777215, 33554431]
theorem toponymlaw14_GaussPairs.tab3 : rtab .any (opsOf Tryd.f5 3) = toponymlaw14_GaussPairs.T3 := zK
theorem toponymlaw14_GaussPairs.bits3 : waitsOk toponymlaw14_GaussPairs.T3.2 toponymlaw14_GaussPairs.B3 = true := zK
set_option maxHeartbeats 8000000 in
set_option maxRecDepth 100000 in
theorem toponymlaw14_GaussPairs.calls (k : Nat) (a0_0 : Nat) (a0_1 : Nat) (a1_0 : Nat) (a1_1 : Nat) (r : Bool) (w : World) (hE : Env w) (h : toponymlaw14_GaussPairs.f k a0_0 a0_1 a1_0 a1_1 = some r) (hT_ : r = true) :
  Calls Tryd.prog 5 #[.agg #[.float .f64 a0_0, .float .f64 a0_1], .agg #[.float .f64 a1_0, .float .f64 a1_1]] w fun e w' => e = .returned (.bool r) ∧ Below w.heap.size w w' := by
 have hT := aM hT_
 clear hT_
 have HE := aM hE
 clear hE
 have hu24 := Tryd.underlying24
 have HB := aM (Below.refl w.heap.size w)
 have H := h
 clear h
 unfold toponymlaw14_GaussPairs.f at H
 obtain ⟨t268, A3, H⟩ := zO H
 obtain ⟨t269, A4, H⟩ := zO H
 obtain ⟨⟨t270, t271⟩, A5, H⟩ := zO H
 try dsimp only at H
 obtain ⟨⟨t272, t273⟩, A6, H⟩ := zO H
 try dsimp only at H
 obtain ⟨⟨t274, t275⟩, A7, H⟩ := zO H
 try dsimp only at H
 obtain ⟨⟨t276, t277, t278⟩, A8, H⟩ := zO H
 try dsimp only at H
 obtain ⟨t279, A9, H⟩ := zO H
 by_cases c10 : t279 = true
 ·subst c10
  rw [if_pos rfl] at H
  by_cases c11 : t271 = t278
  ·rw [if_pos c11] at H
   have c11b0 : (t271 == t278) = true := beq_iff_eq.mpr c11
   have c11b1 : (t271 != t278) = false := bne_eq_false_iff_eq.mpr c11
   clear c11
   obtain ⟨t280, A12, H⟩ := zO H
   obtain ⟨t281, A13, H⟩ := zO H
   obtain ⟨t282, A14, H⟩ := zO H
   obtain ⟨⟨t283, t284⟩, A15, H⟩ := zO H
   try dsimp only at H
   obtain ⟨⟨t285, t286⟩, A16, H⟩ := zO H
   try dsimp only at H
   obtain ⟨t287, A17, H⟩ := zO H
   by_cases c18 : t282 = t287
   ·rw [if_pos c18] at H
    have c18b0 : (t282 == t287) = true := beq_iff_eq.mpr c18
    have c18b1 : (t282 != t287) = false := bne_eq_false_iff_eq.mpr c18
    clear c18
    obtain ⟨t288, A19, H⟩ := zO H
    obtain rfl := sI H
    go_enter Tryd.func5, Tryd.ntmps5
    try go_wp2_with (first | ((with_reducible refine gate_dst (N := 2) rfl ?_); refine box_event ?hg (N := 2) ?hd (cs := #[.float .f64 a0_0, .float .f64 a0_1]) (t := 24) ?hr ?_; (case hd => rfl); (case hg => rfl); (case hr => first | (go_simp; done) | (go_simp; rfl)); intro gb266 hg w20 hbox hb; have n_ := zI (aM (below_step zB hb)) (zI (aM (hbox)) (zI (aM ((by rw [hg]; exact (below_size zB) : w.heap.size ≤ gb266))) (aM ((by rw [hg]; exact (below_size zB) : w.heap.size ≤ gb266))))); clear HB; obtain ⟨HB, BK266, GW266, GE266⟩ := n_; clear hb hbox hg) | ((with_reducible refine gate_dst (N := 3) rfl ?_); refine box_event ?hg (N := 3) ?hd (cs := #[.float .f64 a1_0, .float .f64 a1_1]) (t := 24) ?hr ?_; (case hd => rfl); (case hg => rfl); (case hr => first | (go_simp; done) | (go_simp; rfl)); intro gb267 hg w21 hbox hb; have n_ := zI (aM (blk_below (g := gb266) (o := .cells #[.float .f64 a0_0, .float .f64 a0_1] 24 (0, 0)) (by (with_reducible repeat (first | refine blk_drewN ?_ _ | refine blk_drew ?_ | refine blk_alloc ?_ _)); exact BK266.out) hb)) (zI (aM (below_step (by repeat (first | (with_reducible first | exact HB.out | apply bA | apply bN | apply bD | refine below_set ?_ GE266.out) | exact HB.out)) hb)) (zI (aM (hbox)) (zI (aM ((by rw [hg]; exact (below_size (by repeat (first | (with_reducible first | exact HB.out | apply bA | apply bN | apply bD | refine below_set ?_ GE266.out) | exact HB.out))) : w.heap.size ≤ gb267))) (zI (aM ((by rw [hg]; exact (below_size (by repeat (first | (with_reducible first | exact HB.out | apply bA | apply bN | apply bD | refine below_set ?_ GE266.out) | exact HB.out))) : w.heap.size ≤ gb267))) (zI (aM ((by rw [hg]; exact Nat.ne_of_lt (blk_lt (g := gb266) (o := .cells #[.float .f64 a0_0, .float .f64 a0_1] 24 (0, 0)) (by (with_reducible repeat (first | refine blk_drewN ?_ _ | refine blk_drew ?_ | refine blk_alloc ?_ _)); exact BK266.out)) : gb266 ≠ gb267))) (aM ((by rw [hg]; exact Nat.ne_of_gt (blk_lt (g := gb266) (o := .cells #[.float .f64 a0_0, .float .f64 a0_1] 24 (0, 0)) (by (with_reducible repeat (first | refine blk_drewN ?_ _ | refine blk_drew ?_ | refine blk_alloc ?_ _)); exact BK266.out)) : gb267 ≠ gb266)))))))); clear BK266 HB; obtain ⟨BK266, HB, BK267, GW267, GE267, NB266_267, NB267_266⟩ := n_; clear hb hbox hg))
    have n0_ := aM (blk_drew BK266.out)
    have n1_ := aM (blk_drew BK267.out)
    have n2_ := aM (bD HB.out)
    clear BK266
    clear BK267
    clear HB
    have BK266 := n0_
    have BK267 := n1_
    have HB := n2_
    clear n0_ n1_ n2_
    refine start_ (n := 10) (S := fun w' => w'.cell? ⟨gb266, 0, none⟩ = some (.float .f64 a0_0) ∧ w'.cell? ⟨gb266, 1, none⟩ = some (.float .f64 a0_1) ∧ w'.cell? ⟨gb267, 0, none⟩ = some (.float .f64 a1_0) ∧ w'.cell? ⟨gb267, 1, none⟩ = some (.float .f64 a1_1)) (ds := []) #[false, false, false, false, false, false, false, false, false, false] zK rfl rfl ⟨(blk_cell BK266.out 0).trans rfl, (blk_cell BK266.out 1).trans rfl, (blk_cell BK267.out 0).trans rfl, (blk_cell BK267.out 1).trans rfl⟩ (fun hHeld => ?_); refine with_tabW toponymlaw14_GaussPairs.tab1 toponymlaw14_GaussPairs.bits1 (fun HT_ HW_ => ?_)
    generalize w21.drew = w22 at BK266 BK267 HB hHeld ⊢
    refine take_ (i := 0) (N := some 11) (v := ?_) (a' := ?_) #[true, false, false, false, false, false, false, false, false, false] rfl rfl (take_ofW HT_.out HW_.out zK) (fun _ _ _ h => h) (Or.inl ⟨by rfl, ?_⟩) hHeld ?_ ?_
    rotate_left
    ·rintro w' ⟨s0, s1, s2, s3⟩
     go_simp
     with_reducible rfl
    rotate_left
    ·simp only [Act.put, List.setIfInBounds_toArray, List.set_cons_zero, List.set_cons_succ, i64_w, i32_w]
     rfl
    refine take_ (i := 2) (N := some 13) (v := ?_) (a' := ?_) #[true, false, true, false, false, false, false, false, false, false] rfl rfl (take_ofW HT_.out HW_.out zK) (fun _ _ _ h => h) (Or.inl ⟨by rfl, ?_⟩) hHeld ?_ ?_
    rotate_left
    ·rintro w' ⟨s0, s1, s2, s3⟩
     go_simp
     with_reducible rfl
    rotate_left
    ·simp only [Act.put, List.setIfInBounds_toArray, List.set_cons_zero, List.set_cons_succ, i64_w, i32_w]
     rfl
    refine one_ (i := 1) (N := some 12) #[true, true, true, false, false, false, false, false, false, false] rfl rfl (one_of HT_.out zK) (by decide) (fun K hK => ?_)
    refine goes_ Tryd.func10 zK rfl #[.agg #[.float .f64 a0_0, .float .f64 a0_1]] (by rfl) rfl rfl zM ?_
    with_reducible refine (toponymlaw14_Two_z.calls a0_0 a0_1 t268 _ A3.out).mono ?_
    rintro e w23 ⟨rfl, hb⟩
    refine ⟨_, rfl, ?_⟩
    have n0_ := aM (blk_below (g := gb266) (o := .cells #[.float .f64 a0_0, .float .f64 a0_1] 24 (0, 0)) (by (with_reducible repeat (first | refine blk_drewN ?_ _ | refine blk_drew ?_ | refine blk_alloc ?_ _)); exact BK266.out) hb)
    have n1_ := aM (blk_below (g := gb267) (o := .cells #[.float .f64 a1_0, .float .f64 a1_1] 24 (0, 0)) (by (with_reducible repeat (first | refine blk_drewN ?_ _ | refine blk_drew ?_ | refine blk_alloc ?_ _)); exact BK267.out) hb)
    have n2_ := aM (below_step (by repeat (first | (with_reducible first | exact HB.out | apply bA | apply bN | apply bD | refine below_set ?_ GE266.out | refine below_set ?_ GE267.out) | exact HB.out)) hb)
    clear BK266
    clear BK267
    clear HB
    have BK266 := n0_
    have BK267 := n1_
    have HB := n2_
    clear n0_ n1_ n2_
    (try clear hb)
    (try clear hb2)
    (try clear hk)
    (try clear hi)
    refine hK.out _ _ ⟨(blk_cell BK266.out 0).trans rfl, (blk_cell BK266.out 1).trans rfl, (blk_cell BK267.out 0).trans rfl, (blk_cell BK267.out 1).trans rfl⟩ (fun hHeld => ?_)
    clear hK K
    refine norm_ (a' := ?_) ?_ ?_
    rotate_left
    ·show Act.put _ (some 12) _ = _
     simp only [Act.put, List.setIfInBounds_toArray, List.set_cons_zero, List.set_cons_succ, i64_w, i32_w]
     rfl
    refine one_ (i := 3) (N := some 14) #[true, true, true, true, false, false, false, false, false, false] rfl rfl (one_of HT_.out zK) (by decide) (fun K hK => ?_)
    refine goes_ Tryd.func10 zK rfl #[.agg #[.float .f64 a1_0, .float .f64 a1_1]] (by rfl) rfl rfl zM ?_
    with_reducible refine (toponymlaw14_Two_z.calls a1_0 a1_1 t269 _ A4.out).mono ?_
    rintro e w24 ⟨rfl, hb⟩
    refine ⟨_, rfl, ?_⟩
    have n0_ := aM (blk_below (g := gb266) (o := .cells #[.float .f64 a0_0, .float .f64 a0_1] 24 (0, 0)) (by (with_reducible repeat (first | refine blk_drewN ?_ _ | refine blk_drew ?_ | refine blk_alloc ?_ _)); exact BK266.out) hb)
    have n1_ := aM (blk_below (g := gb267) (o := .cells #[.float .f64 a1_0, .float .f64 a1_1] 24 (0, 0)) (by (with_reducible repeat (first | refine blk_drewN ?_ _ | refine blk_drew ?_ | refine blk_alloc ?_ _)); exact BK267.out) hb)
    have n2_ := aM (below_step (by repeat (first | (with_reducible first | exact HB.out | apply bA | apply bN | apply bD | refine below_set ?_ GE266.out | refine below_set ?_ GE267.out) | exact HB.out)) hb)
    clear BK266
    clear BK267
    clear HB
    have BK266 := n0_
    have BK267 := n1_
    have HB := n2_
    clear n0_ n1_ n2_
    (try clear hb)
    (try clear hb2)
    (try clear hk)
    (try clear hi)
    refine hK.out _ _ ⟨(blk_cell BK266.out 0).trans rfl, (blk_cell BK266.out 1).trans rfl, (blk_cell BK267.out 0).trans rfl, (blk_cell BK267.out 1).trans rfl⟩ (fun hHeld => ?_)
    clear hK K
    refine norm_ (a' := ?_) ?_ ?_
    rotate_left
    ·show Act.put _ (some 14) _ = _
     simp only [Act.put, List.setIfInBounds_toArray, List.set_cons_zero, List.set_cons_succ, i64_w, i32_w]
     rfl
    refine one_ (i := 4) (N := some 15) #[true, true, true, true, true, false, false, false, false, false] rfl rfl (one_of HT_.out zK) (by decide) (fun K hK => ?_)
    refine goes_ Tryd.func23 zK rfl #[.complex .f64 t268.1 t268.2, .complex .f64 t269.1 t269.2] (by rfl) rfl rfl zM ?_
    with_reducible refine (gauss_Times.calls k t268 t269 t270 t271 _ A5.out).mono ?_
    rintro e w25 ⟨rfl, hb⟩
    refine ⟨_, rfl, ?_⟩
    have n0_ := aM (blk_below (g := gb266) (o := .cells #[.float .f64 a0_0, .float .f64 a0_1] 24 (0, 0)) (by (with_reducible repeat (first | refine blk_drewN ?_ _ | refine blk_drew ?_ | refine blk_alloc ?_ _)); exact BK266.out) hb)
    have n1_ := aM (blk_below (g := gb267) (o := .cells #[.float .f64 a1_0, .float .f64 a1_1] 24 (0, 0)) (by (with_reducible repeat (first | refine blk_drewN ?_ _ | refine blk_drew ?_ | refine blk_alloc ?_ _)); exact BK267.out) hb)
    have n2_ := aM (below_step (by repeat (first | (with_reducible first | exact HB.out | apply bA | apply bN | apply bD | refine below_set ?_ GE266.out | refine below_set ?_ GE267.out) | exact HB.out)) hb)
    clear BK266
    clear BK267
    clear HB
    have BK266 := n0_
    have BK267 := n1_
    have HB := n2_
    clear n0_ n1_ n2_
    (try clear hb)
    (try clear hb2)
    (try clear hk)
    (try clear hi)
    refine hK.out _ _ ⟨(blk_cell BK266.out 0).trans rfl, (blk_cell BK266.out 1).trans rfl, (blk_cell BK267.out 0).trans rfl, (blk_cell BK267.out 1).trans rfl⟩ (fun hHeld => ?_)
    clear hK K
    refine norm_ (a' := ?_) ?_ ?_
    rotate_left
    ·show Act.put _ (some 15) _ = _
     simp only [Act.put, List.setIfInBounds_toArray, List.set_cons_zero, List.set_cons_succ, i64_w, i32_w]
     rfl
    refine pure_ (i := 5) (N := some 10) (v := ?_) (a' := ?_) #[true, true, true, true, true, true, false, false, false, false] rfl rfl (any_of HT_.out zK) (fun _ _ _ h => h) (Or.inl ⟨by rfl, ?_⟩) ?_ ?_
    rotate_left
    ·intro w'
     go_simp
     with_reducible rfl
    rotate_left
    ·simp only [Act.put, List.setIfInBounds_toArray, List.set_cons_zero, List.set_cons_succ, i64_w, i32_w]
     rfl
    refine pure_ (i := 6) (N := some 16) (v := ?_) (a' := ?_) #[true, true, true, true, true, true, true, false, false, false] rfl rfl (any_of HT_.out zK) (fun _ _ _ h => h) (Or.inl ⟨by rfl, ?_⟩) ?_ ?_
    rotate_left
    ·intro w'
     go_simp
     with_reducible rfl
    rotate_left
    ·simp only [Act.put, List.setIfInBounds_toArray, List.set_cons_zero, List.set_cons_succ, i64_w, i32_w]
     rfl
    refine pure_ (i := 7) (N := some 17) (v := ?_) (a' := ?_) #[true, true, true, true, true, true, true, true, false, false] rfl rfl (any_of HT_.out zK) (fun _ _ _ h => h) (Or.inl ⟨by rfl, ?_⟩) ?_ ?_
    rotate_left
    ·intro w'
     go_simp
     with_reducible rfl
    rotate_left
    ·simp only [Act.put, List.setIfInBounds_toArray, List.set_cons_zero, List.set_cons_succ, i64_w, i32_w]
     rfl
    refine pure_ (i := 8) (N := some 5) (v := ?_) (a' := ?_) #[true, true, true, true, true, true, true, true, true, false] rfl rfl (any_of HT_.out zK) (fun _ _ _ h => h) (Or.inl ⟨by rfl, ?_⟩) ?_ ?_
    rotate_left
    ·intro w'
     go_simp
     with_reducible rfl
    rotate_left
    ·simp only [Act.put, List.setIfInBounds_toArray, List.set_cons_zero, List.set_cons_succ, i64_w, i32_w]
     rfl
    refine pure_ (i := 9) (N := some 6) (v := ?_) (a' := ?_) #[true, true, true, true, true, true, true, true, true, true] rfl rfl (any_of HT_.out zK) (fun _ _ _ h => h) (Or.inl ⟨by rfl, ?_⟩) ?_ ?_
    rotate_left
    ·intro w'
     go_simp
     with_reducible rfl
    rotate_left
    ·simp only [Act.put, List.setIfInBounds_toArray, List.set_cons_zero, List.set_cons_succ, i64_w, i32_w]
     rfl
    refine done_ (done_of HT_.out zK) ?_
    try go_wp2
    have n0_ := aM (blk_drew BK266.out)
    have n1_ := aM (blk_drew BK267.out)
    have n2_ := aM (bD HB.out)
    clear BK266
    clear BK267
    clear HB
    have BK266 := n0_
    have BK267 := n1_
    have HB := n2_
    clear n0_ n1_ n2_
    refine start_ (n := 12) (S := fun w' => w'.cell? ⟨gb266, 0, none⟩ = some (.float .f64 a0_0) ∧ w'.cell? ⟨gb266, 1, none⟩ = some (.float .f64 a0_1) ∧ w'.cell? ⟨gb267, 0, none⟩ = some (.float .f64 a1_0) ∧ w'.cell? ⟨gb267, 1, none⟩ = some (.float .f64 a1_1)) (ds := []) #[false, false, false, false, false, false, false, false, false, false, false, false] zK rfl rfl ⟨(blk_cell BK266.out 0).trans rfl, (blk_cell BK266.out 1).trans rfl, (blk_cell BK267.out 0).trans rfl, (blk_cell BK267.out 1).trans rfl⟩ (fun hHeld => ?_); refine with_tabW toponymlaw14_GaussPairs.tab2 toponymlaw14_GaussPairs.bits2 (fun HT_ HW_ => ?_)
    generalize w25.drew = w26 at BK266 BK267 HB hHeld ⊢
    refine take_ (i := 0) (N := some 19) (v := ?_) (a' := ?_) #[true, false, false, false, false, false, false, false, false, false, false, false] rfl rfl (take_ofW HT_.out HW_.out zK) (fun _ _ _ h => h) (Or.inl ⟨by rfl, ?_⟩) hHeld ?_ ?_
    rotate_left
    ·rintro w' ⟨s0, s1, s2, s3⟩
     go_simp
     with_reducible rfl
    rotate_left
    ·simp only [Act.put, List.setIfInBounds_toArray, List.set_cons_zero, List.set_cons_succ, i64_w, i32_w]
     rfl
    refine take_ (i := 2) (N := some 21) (v := ?_) (a' := ?_) #[true, false, true, false, false, false, false, false, false, false, false, false] rfl rfl (take_ofW HT_.out HW_.out zK) (fun _ _ _ h => h) (Or.inl ⟨by rfl, ?_⟩) hHeld ?_ ?_
    rotate_left
    ·rintro w' ⟨s0, s1, s2, s3⟩
     go_simp
     with_reducible rfl
    rotate_left
    ·simp only [Act.put, List.setIfInBounds_toArray, List.set_cons_zero, List.set_cons_succ, i64_w, i32_w]
     rfl
    refine one_ (i := 1) (N := some 20) #[true, true, true, false, false, false, false, false, false, false, false, false] rfl rfl (one_of HT_.out zK) (by decide) (fun K hK => ?_)
    refine goes_ Tryd.func12 zK rfl #[.agg #[.float .f64 a0_0, .float .f64 a0_1]] (by rfl) rfl rfl zM ?_
    with_reducible refine (toponymlaw14_Two_r.calls a0_0 a0_1 t272 t273 _ A6.out).mono ?_
    rintro e w27 ⟨rfl, hb⟩
    refine ⟨_, rfl, ?_⟩
    have n0_ := aM (blk_below (g := gb266) (o := .cells #[.float .f64 a0_0, .float .f64 a0_1] 24 (0, 0)) (by (with_reducible repeat (first | refine blk_drewN ?_ _ | refine blk_drew ?_ | refine blk_alloc ?_ _)); exact BK266.out) hb)
    have n1_ := aM (blk_below (g := gb267) (o := .cells #[.float .f64 a1_0, .float .f64 a1_1] 24 (0, 0)) (by (with_reducible repeat (first | refine blk_drewN ?_ _ | refine blk_drew ?_ | refine blk_alloc ?_ _)); exact BK267.out) hb)
    have n2_ := aM (below_step (by repeat (first | (with_reducible first | exact HB.out | apply bA | apply bN | apply bD | refine below_set ?_ GE266.out | refine below_set ?_ GE267.out) | exact HB.out)) hb)
    clear BK266
    clear BK267
    clear HB
    have BK266 := n0_
    have BK267 := n1_
    have HB := n2_
    clear n0_ n1_ n2_
    (try clear hb)
    (try clear hb2)
    (try clear hk)
    (try clear hi)
    refine hK.out _ _ ⟨(blk_cell BK266.out 0).trans rfl, (blk_cell BK266.out 1).trans rfl, (blk_cell BK267.out 0).trans rfl, (blk_cell BK267.out 1).trans rfl⟩ (fun hHeld => ?_)
    clear hK K
    refine norm_ (a' := ?_) ?_ ?_
    rotate_left
    ·show Act.put _ (some 20) _ = _
     simp only [Act.put, List.setIfInBounds_toArray, List.set_cons_zero, List.set_cons_succ, i64_w, i32_w]
     rfl
    refine one_ (i := 3) (N := some 22) #[true, true, true, true, false, false, false, false, false, false, false, false] rfl rfl (one_of HT_.out zK) (by decide) (fun K hK => ?_)
    refine goes_ Tryd.func12 zK rfl #[.agg #[.float .f64 a1_0, .float .f64 a1_1]] (by rfl) rfl rfl zM ?_
    with_reducible refine (toponymlaw14_Two_r.calls a1_0 a1_1 t274 t275 _ A7.out).mono ?_
    rintro e w28 ⟨rfl, hb⟩
    refine ⟨_, rfl, ?_⟩
    have n0_ := aM (blk_below (g := gb266) (o := .cells #[.float .f64 a0_0, .float .f64 a0_1] 24 (0, 0)) (by (with_reducible repeat (first | refine blk_drewN ?_ _ | refine blk_drew ?_ | refine blk_alloc ?_ _)); exact BK266.out) hb)
    have n1_ := aM (blk_below (g := gb267) (o := .cells #[.float .f64 a1_0, .float .f64 a1_1] 24 (0, 0)) (by (with_reducible repeat (first | refine blk_drewN ?_ _ | refine blk_drew ?_ | refine blk_alloc ?_ _)); exact BK267.out) hb)
    have n2_ := aM (below_step (by repeat (first | (with_reducible first | exact HB.out | apply bA | apply bN | apply bD | refine below_set ?_ GE266.out | refine below_set ?_ GE267.out) | exact HB.out)) hb)
    clear BK266
    clear BK267
    clear HB
    have BK266 := n0_
    have BK267 := n1_
    have HB := n2_
    clear n0_ n1_ n2_
    (try clear hb)
    (try clear hb2)
    (try clear hk)
    (try clear hi)
    refine hK.out _ _ ⟨(blk_cell BK266.out 0).trans rfl, (blk_cell BK266.out 1).trans rfl, (blk_cell BK267.out 0).trans rfl, (blk_cell BK267.out 1).trans rfl⟩ (fun hHeld => ?_)
    clear hK K
    refine norm_ (a' := ?_) ?_ ?_
    rotate_left
    ·show Act.put _ (some 22) _ = _
     simp only [Act.put, List.setIfInBounds_toArray, List.set_cons_zero, List.set_cons_succ, i64_w, i32_w]
     rfl
    refine one_ (i := 4) (N := some 23) #[true, true, true, true, true, false, false, false, false, false, false, false] rfl rfl (one_of HT_.out zK) (by decide) (fun K hK => ?_)
    refine goes_ Tryd.func24 zK rfl #[.agg #[.float .f64 t272, .float .f64 t273], .agg #[.float .f64 t274, .float .f64 t275]] (by rfl) rfl rfl zM ?_
    with_reducible refine (toponymref14_Times.calls k t272 t273 t274 t275 t276 t277 t278 _ A8.out).mono ?_
    rintro e w29 ⟨rfl, hb⟩
    refine ⟨_, rfl, ?_⟩
    have n0_ := aM (blk_below (g := gb266) (o := .cells #[.float .f64 a0_0, .float .f64 a0_1] 24 (0, 0)) (by (with_reducible repeat (first | refine blk_drewN ?_ _ | refine blk_drew ?_ | refine blk_alloc ?_ _)); exact BK266.out) hb)
    have n1_ := aM (blk_below (g := gb267) (o := .cells #[.float .f64 a1_0, .float .f64 a1_1] 24 (0, 0)) (by (with_reducible repeat (first | refine blk_drewN ?_ _ | refine blk_drew ?_ | refine blk_alloc ?_ _)); exact BK267.out) hb)
    have n2_ := aM (below_step (by repeat (first | (with_reducible first | exact HB.out | apply bA | apply bN | apply bD | refine below_set ?_ GE266.out | refine below_set ?_ GE267.out) | exact HB.out)) hb)
    clear BK266
    clear BK267
    clear HB
    have BK266 := n0_
    have BK267 := n1_
    have HB := n2_
    clear n0_ n1_ n2_
    (try clear hb)
    (try clear hb2)
    (try clear hk)
    (try clear hi)
    refine hK.out _ _ ⟨(blk_cell BK266.out 0).trans rfl, (blk_cell BK266.out 1).trans rfl, (blk_cell BK267.out 0).trans rfl, (blk_cell BK267.out 1).trans rfl⟩ (fun hHeld => ?_)
    clear hK K
    refine norm_ (a' := ?_) ?_ ?_
    rotate_left
    ·show Act.put _ (some 23) _ = _
     simp only [Act.put, List.setIfInBounds_toArray, List.set_cons_zero, List.set_cons_succ, i64_w, i32_w]
     rfl
    refine pure_ (i := 5) (N := some 18) (v := ?_) (a' := ?_) #[true, true, true, true, true, true, false, false, false, false, false, false] rfl rfl (any_of HT_.out zK) (fun _ _ _ h => h) (Or.inl ⟨by rfl, ?_⟩) ?_ ?_
    rotate_left
    ·intro w'
     go_simp
     with_reducible rfl
    rotate_left
    ·simp only [Act.put, List.setIfInBounds_toArray, List.set_cons_zero, List.set_cons_succ, i64_w, i32_w]
     rfl
    refine pure_ (i := 6) (N := some 24) (v := ?_) (a' := ?_) #[true, true, true, true, true, true, true, false, false, false, false, false] rfl rfl (any_of HT_.out zK) (fun _ _ _ h => h) (Or.inl ⟨by rfl, ?_⟩) ?_ ?_
    rotate_left
    ·intro w'
     go_simp
     with_reducible rfl
    rotate_left
    ·simp only [Act.put, List.setIfInBounds_toArray, List.set_cons_zero, List.set_cons_succ, i64_w, i32_w]
     rfl
    refine pure_ (i := 7) (N := some 25) (v := ?_) (a' := ?_) #[true, true, true, true, true, true, true, true, false, false, false, false] rfl rfl (any_of HT_.out zK) (fun _ _ _ h => h) (Or.inl ⟨by rfl, ?_⟩) ?_ ?_
    rotate_left
    ·intro w'
     go_simp
     with_reducible rfl
    rotate_left
    ·simp only [Act.put, List.setIfInBounds_toArray, List.set_cons_zero, List.set_cons_succ, i64_w, i32_w]
     rfl
    refine pure_ (i := 8) (N := some 26) (v := ?_) (a' := ?_) #[true, true, true, true, true, true, true, true, true, false, false, false] rfl rfl (any_of HT_.out zK) (fun _ _ _ h => h) (Or.inl ⟨by rfl, ?_⟩) ?_ ?_
    rotate_left
    ·intro w'
     go_simp
     with_reducible rfl
    rotate_left
    ·simp only [Act.put, List.setIfInBounds_toArray, List.set_cons_zero, List.set_cons_succ, i64_w, i32_w]
     rfl
    refine pure_ (i := 9) (N := some 7) (v := ?_) (a' := ?_) #[true, true, true, true, true, true, true, true, true, true, false, false] rfl rfl (any_of HT_.out zK) (fun _ _ _ h => h) (Or.inl ⟨by rfl, ?_⟩) ?_ ?_
    rotate_left
    ·intro w'
     go_simp
     with_reducible rfl
    rotate_left
    ·simp only [Act.put, List.setIfInBounds_toArray, List.set_cons_zero, List.set_cons_succ, i64_w, i32_w]
     rfl
    refine pure_ (i := 10) (N := some 8) (v := ?_) (a' := ?_) #[true, true, true, true, true, true, true, true, true, true, true, false] rfl rfl (any_of HT_.out zK) (fun _ _ _ h => h) (Or.inl ⟨by rfl, ?_⟩) ?_ ?_
    rotate_left
    ·intro w'
     go_simp
     with_reducible rfl
    rotate_left
    ·simp only [Act.put, List.setIfInBounds_toArray, List.set_cons_zero, List.set_cons_succ, i64_w, i32_w]
     rfl
    refine pure_ (i := 11) (N := some 9) (v := ?_) (a' := ?_) #[true, true, true, true, true, true, true, true, true, true, true, true] rfl rfl (any_of HT_.out zK) (fun _ _ _ h => h) (Or.inl ⟨by rfl, ?_⟩) ?_ ?_
    rotate_left
    ·intro w'
     go_simp
     with_reducible rfl
    rotate_left
    ·simp only [Act.put, List.setIfInBounds_toArray, List.set_cons_zero, List.set_cons_succ, i64_w, i32_w]
     rfl
    refine done_ (done_of HT_.out zK) ?_
    try go_wp2
    have n0_ := aM (blk_drew BK266.out)
    have n1_ := aM (blk_drew BK267.out)
    have n2_ := aM (bD HB.out)
    clear BK266
    clear BK267
    clear HB
    have BK266 := n0_
    have BK267 := n1_
    have HB := n2_
    clear n0_ n1_ n2_
    refine start_ (n := 26) (S := fun w' => w'.cell? ⟨gb266, 0, none⟩ = some (.float .f64 a0_0) ∧ w'.cell? ⟨gb266, 1, none⟩ = some (.float .f64 a0_1) ∧ w'.cell? ⟨gb267, 0, none⟩ = some (.float .f64 a1_0) ∧ w'.cell? ⟨gb267, 1, none⟩ = some (.float .f64 a1_1)) (ds := []) #[false, false, false, false, false, false, false, false, false, false, false, false, false, false, false, false, false, false, false, false, false, false, false, false, false, false] zK rfl rfl ⟨(blk_cell BK266.out 0).trans rfl, (blk_cell BK266.out 1).trans rfl, (blk_cell BK267.out 0).trans rfl, (blk_cell BK267.out 1).trans rfl⟩ (fun hHeld => ?_); refine with_tabW toponymlaw14_GaussPairs.tab3 toponymlaw14_GaussPairs.bits3 (fun HT_ HW_ => ?_)
    generalize w29.drew = w30 at BK266 BK267 HB hHeld ⊢
    refine pure_ (i := 0) (N := some 27) (v := ?_) (a' := ?_) #[true, false, false, false, false, false, false, false, false, false, false, false, false, false, false, false, false, false, false, false, false, false, false, false, false, false] rfl rfl (any_of HT_.out zK) (fun _ _ _ h => h) (Or.inl ⟨by rfl, ?_⟩) ?_ ?_
    rotate_left
    ·intro w'
     go_simp
     with_reducible rfl
    rotate_left
    ·simp only [Act.put, List.setIfInBounds_toArray, List.set_cons_zero, List.set_cons_succ, i64_w, i32_w]
     rfl
    refine pure_ (i := 1) (N := some 28) (v := ?_) (a' := ?_) #[true, true, false, false, false, false, false, false, false, false, false, false, false, false, false, false, false, false, false, false, false, false, false, false, false, false] rfl rfl (any_of HT_.out zK) (fun _ _ _ h => h) (Or.inl ⟨by rfl, ?_⟩) ?_ ?_
    rotate_left
    ·intro w'
     go_simp
     with_reducible rfl
    rotate_left
    ·simp only [Act.put, List.setIfInBounds_toArray, List.set_cons_zero, List.set_cons_succ, i64_w, i32_w]
     rfl
    refine pure_ (i := 2) (N := some 29) (v := ?_) (a' := ?_) #[true, true, true, false, false, false, false, false, false, false, false, false, false, false, false, false, false, false, false, false, false, false, false, false, false, false] rfl rfl (any_of HT_.out zK) (fun _ _ _ h => h) (Or.inl ⟨by rfl, ?_⟩) ?_ ?_
    rotate_left
    ·intro w'
     go_simp
     with_reducible rfl
    rotate_left
    ·simp only [Act.put, List.setIfInBounds_toArray, List.set_cons_zero, List.set_cons_succ, i64_w, i32_w]
     rfl
    refine one_ (i := 3) (N := some 30) #[true, true, true, true, false, false, false, false, false, false, false, false, false, false, false, false, false, false, false, false, false, false, false, false, false, false] rfl rfl (one_of HT_.out zK) (by decide) (fun K hK => ?_)
    refine goes_ Tryd.func16 zK rfl #[.complex .f64 t270.1 t270.2, .int .i64 t276, .int .i64 t277] (by rfl) rfl rfl zM ?_
    with_reducible refine (toponymlaw14_is.calls t270 t276 t277 true _ A9.out).mono ?_
    rintro e w31 ⟨rfl, hb⟩
    refine ⟨_, rfl, ?_⟩
    have n0_ := aM (blk_below (g := gb266) (o := .cells #[.float .f64 a0_0, .float .f64 a0_1] 24 (0, 0)) (by (with_reducible repeat (first | refine blk_drewN ?_ _ | refine blk_drew ?_ | refine blk_alloc ?_ _)); exact BK266.out) hb)
    have n1_ := aM (blk_below (g := gb267) (o := .cells #[.float .f64 a1_0, .float .f64 a1_1] 24 (0, 0)) (by (with_reducible repeat (first | refine blk_drewN ?_ _ | refine blk_drew ?_ | refine blk_alloc ?_ _)); exact BK267.out) hb)
    have n2_ := aM (below_step (by repeat (first | (with_reducible first | exact HB.out | apply bA | apply bN | apply bD | refine below_set ?_ GE266.out | refine below_set ?_ GE267.out) | exact HB.out)) hb)
    clear BK266
    clear BK267
    clear HB
    have BK266 := n0_
    have BK267 := n1_
    have HB := n2_
    clear n0_ n1_ n2_
    (try clear hb)
    (try clear hb2)
    (try clear hk)
    (try clear hi)
    refine hK.out _ _ ⟨(blk_cell BK266.out 0).trans rfl, (blk_cell BK266.out 1).trans rfl, (blk_cell BK267.out 0).trans rfl, (blk_cell BK267.out 1).trans rfl⟩ (fun hHeld => ?_)
    clear hK K
    refine norm_ (a' := ?_) ?_ ?_
    rotate_left
    ·show Act.put _ (some 30) _ = _
     simp only [Act.put, List.setIfInBounds_toArray, List.set_cons_zero, List.set_cons_succ, i64_w, i32_w]
     rfl
    refine pure_ (i := 4) (N := some 31) (v := ?_) (a' := ?_) #[true, true, true, true, true, false, false, false, false, false, false, false, false, false, false, false, false, false, false, false, false, false, false, false, false, false] rfl rfl (any_of HT_.out zK) (fun _ _ _ h => h) (Or.inl ⟨by rfl, ?_⟩) ?_ ?_
    rotate_left
    ·intro w'
     go_simp
     with_reducible rfl
    rotate_left
    ·simp only [Act.put, List.setIfInBounds_toArray, List.set_cons_zero, List.set_cons_succ, i64_w, i32_w]
     rfl
    refine pure_ (i := 5) (N := some 32) (v := ?_) (a' := ?_) #[true, true, true, true, true, true, false, false, false, false, false, false, false, false, false, false, false, false, false, false, false, false, false, false, false, false] rfl rfl (any_of HT_.out zK) (fun _ _ _ h => h) (Or.inl ⟨by rfl, ?_⟩) ?_ ?_
    rotate_left
    ·intro w'
     go_simp
     with_reducible rfl
    rotate_left
    ·simp only [Act.put, List.setIfInBounds_toArray, List.set_cons_zero, List.set_cons_succ, i64_w, i32_w]
     rfl
    refine pure_ (i := 6) (N := some 33) (v := ?_) (a' := ?_) #[true, true, true, true, true, true, true, false, false, false, false, false, false, false, false, false, false, false, false, false, false, false, false, false, false, false] rfl rfl (any_of HT_.out zK) (fun _ _ _ h => h) (Or.inl ⟨by rfl, ?_⟩) ?_ ?_
    rotate_left
    ·intro w'
     go_simp
     with_reducible rfl
    rotate_left
    ·simp only [Act.put, List.setIfInBounds_toArray, List.set_cons_zero, List.set_cons_succ, i64_w, i32_w]
     rfl
    refine pure_ (i := 7) (N := some 34) (v := ?_) (a' := ?_) #[true, true, true, true, true, true, true, true, false, false, false, false, false, false, false, false, false, false, false, false, false, false, false, false, false, false] rfl rfl (any_of HT_.out zK) (fun _ _ _ h => h) (Or.inl ⟨by rfl, ?_⟩) ?_ ?_
    rotate_left
    ·intro w'
     go_simp
     with_reducible rfl
    rotate_left
    ·simp only [Act.put, List.setIfInBounds_toArray, List.set_cons_zero, List.set_cons_succ, i64_w, i32_w]
     rfl
    refine pure_ (i := 8) (N := some 35) (v := ?_) (a' := ?_) #[true, true, true, true, true, true, true, true, true, false, false, false, false, false, false, false, false, false, false, false, false, false, false, false, false, false] rfl rfl (any_of HT_.out zK) (fun _ _ _ h => h) (Or.inl ⟨by rfl, ?_⟩) ?_ ?_
    rotate_left
    ·intro w'
     go_simp
     with_reducible rfl
    rotate_left
    ·simp only [Act.put, List.setIfInBounds_toArray, List.set_cons_zero, List.set_cons_succ, i64_w, i32_w]
     rfl
    refine pure_ (i := 9) (N := some 36) (v := ?_) (a' := ?_) #[true, true, true, true, true, true, true, true, true, true, false, false, false, false, false, false, false, false, false, false, false, false, false, false, false, false] rfl rfl (any_of HT_.out zK) (fun _ _ _ h => h) (Or.inl ⟨by rfl, ?_⟩) ?_ ?_
    rotate_left
    ·intro w'
     go_simp
     with_reducible rfl
    rotate_left
    ·simp only [Act.put, List.setIfInBounds_toArray, List.set_cons_zero, List.set_cons_succ, i64_w, i32_w]
     rfl
    refine take_ (i := 10) (N := some 37) (v := ?_) (a' := ?_) #[true, true, true, true, true, true, true, true, true, true, true, false, false, false, false, false, false, false, false, false, false, false, false, false, false, false] rfl rfl (take_ofW HT_.out HW_.out zK) (fun _ _ _ h => h) (Or.inl ⟨by rfl, ?_⟩) hHeld ?_ ?_
    rotate_left
    ·rintro w' ⟨s0, s1, s2, s3⟩
     go_simp
     with_reducible rfl
    rotate_left
    ·simp only [Act.put, List.setIfInBounds_toArray, List.set_cons_zero, List.set_cons_succ, i64_w, i32_w]
     rfl
    refine take_ (i := 12) (N := some 39) (v := ?_) (a' := ?_) #[true, true, true, true, true, true, true, true, true, true, true, false, true, false, false, false, false, false, false, false, false, false, false, false, false, false] rfl rfl (take_ofW HT_.out HW_.out zK) (fun _ _ _ h => h) (Or.inl ⟨by rfl, ?_⟩) hHeld ?_ ?_
    rotate_left
    ·rintro w' ⟨s0, s1, s2, s3⟩
     go_simp
     with_reducible rfl
    rotate_left
    ·simp only [Act.put, List.setIfInBounds_toArray, List.set_cons_zero, List.set_cons_succ, i64_w, i32_w]
     rfl
    refine take_ (i := 15) (N := some 42) (v := ?_) (a' := ?_) #[true, true, true, true, true, true, true, true, true, true, true, false, true, false, false, true, false, false, false, false, false, false, false, false, false, false] rfl rfl (take_ofW HT_.out HW_.out zK) (fun _ _ _ h => h) (Or.inl ⟨by rfl, ?_⟩) hHeld ?_ ?_
    rotate_left
    ·rintro w' ⟨s0, s1, s2, s3⟩
     go_simp
     with_reducible rfl
    rotate_left
    ·simp only [Act.put, List.setIfInBounds_toArray, List.set_cons_zero, List.set_cons_succ, i64_w, i32_w]
     rfl
    refine take_ (i := 17) (N := some 44) (v := ?_) (a' := ?_) #[true, true, true, true, true, true, true, true, true, true, true, false, true, false, false, true, false, true, false, false, false, false, false, false, false, false] rfl rfl (take_ofW HT_.out HW_.out zK) (fun _ _ _ h => h) (Or.inl ⟨by rfl, ?_⟩) hHeld ?_ ?_
    rotate_left
    ·rintro w' ⟨s0, s1, s2, s3⟩
     go_simp
     with_reducible rfl
    rotate_left
    ·simp only [Act.put, List.setIfInBounds_toArray, List.set_cons_zero, List.set_cons_succ, i64_w, i32_w]
     rfl
    refine one_ (i := 11) (N := some 38) #[true, true, true, true, true, true, true, true, true, true, true, true, true, false, false, true, false, true, false, false, false, false, false, false, false, false] rfl rfl (one_of HT_.out zK) (by decide) (fun K hK => ?_)
    refine goes_ Tryd.func10 zK rfl #[.agg #[.float .f64 a0_0, .float .f64 a0_1]] (by rfl) rfl rfl zM ?_
    with_reducible refine (toponymlaw14_Two_z.calls a0_0 a0_1 t280 _ A12.out).mono ?_
    rintro e w32 ⟨rfl, hb⟩
    refine ⟨_, rfl, ?_⟩
    have n0_ := aM (blk_below (g := gb266) (o := .cells #[.float .f64 a0_0, .float .f64 a0_1] 24 (0, 0)) (by (with_reducible repeat (first | refine blk_drewN ?_ _ | refine blk_drew ?_ | refine blk_alloc ?_ _)); exact BK266.out) hb)
    have n1_ := aM (blk_below (g := gb267) (o := .cells #[.float .f64 a1_0, .float .f64 a1_1] 24 (0, 0)) (by (with_reducible repeat (first | refine blk_drewN ?_ _ | refine blk_drew ?_ | refine blk_alloc ?_ _)); exact BK267.out) hb)
    have n2_ := aM (below_step (by repeat (first | (with_reducible first | exact HB.out | apply bA | apply bN | apply bD | refine below_set ?_ GE266.out | refine below_set ?_ GE267.out) | exact HB.out)) hb)
    clear BK266
    clear BK267
    clear HB
    have BK266 := n0_
    have BK267 := n1_
    have HB := n2_
    clear n0_ n1_ n2_
    (try clear hb)
    (try clear hb2)
    (try clear hk)
    (try clear hi)
    refine hK.out _ _ ⟨(blk_cell BK266.out 0).trans rfl, (blk_cell BK266.out 1).trans rfl, (blk_cell BK267.out 0).trans rfl, (blk_cell BK267.out 1).trans rfl⟩ (fun hHeld => ?_)
    clear hK K
    refine norm_ (a' := ?_) ?_ ?_
    rotate_left
    ·show Act.put _ (some 38) _ = _
     simp only [Act.put, List.setIfInBounds_toArray, List.set_cons_zero, List.set_cons_succ, i64_w, i32_w]
     rfl
    refine one_ (i := 13) (N := some 40) #[true, true, true, true, true, true, true, true, true, true, true, true, true, true, false, true, false, true, false, false, false, false, false, false, false, false] rfl rfl (one_of HT_.out zK) (by decide) (fun K hK => ?_)
    refine goes_ Tryd.func10 zK rfl #[.agg #[.float .f64 a1_0, .float .f64 a1_1]] (by rfl) rfl rfl zM ?_
    with_reducible refine (toponymlaw14_Two_z.calls a1_0 a1_1 t281 _ A13.out).mono ?_
    rintro e w33 ⟨rfl, hb⟩
    refine ⟨_, rfl, ?_⟩
    have n0_ := aM (blk_below (g := gb266) (o := .cells #[.float .f64 a0_0, .float .f64 a0_1] 24 (0, 0)) (by (with_reducible repeat (first | refine blk_drewN ?_ _ | refine blk_drew ?_ | refine blk_alloc ?_ _)); exact BK266.out) hb)
    have n1_ := aM (blk_below (g := gb267) (o := .cells #[.float .f64 a1_0, .float .f64 a1_1] 24 (0, 0)) (by (with_reducible repeat (first | refine blk_drewN ?_ _ | refine blk_drew ?_ | refine blk_alloc ?_ _)); exact BK267.out) hb)
    have n2_ := aM (below_step (by repeat (first | (with_reducible first | exact HB.out | apply bA | apply bN | apply bD | refine below_set ?_ GE266.out | refine below_set ?_ GE267.out) | exact HB.out)) hb)
    clear BK266
    clear BK267
    clear HB
    have BK266 := n0_
    have BK267 := n1_
    have HB := n2_
    clear n0_ n1_ n2_
    (try clear hb)
    (try clear hb2)
    (try clear hk)
    (try clear hi)
    refine hK.out _ _ ⟨(blk_cell BK266.out 0).trans rfl, (blk_cell BK266.out 1).trans rfl, (blk_cell BK267.out 0).trans rfl, (blk_cell BK267.out 1).trans rfl⟩ (fun hHeld => ?_)
    clear hK K
    refine norm_ (a' := ?_) ?_ ?_
    rotate_left
    ·show Act.put _ (some 40) _ = _
     simp only [Act.put, List.setIfInBounds_toArray, List.set_cons_zero, List.set_cons_succ, i64_w, i32_w]
     rfl
    refine one_ (i := 14) (N := some 41) #[true, true, true, true, true, true, true, true, true, true, true, true, true, true, true, true, false, true, false, false, false, false, false, false, false, false] rfl rfl (one_of HT_.out zK) (by decide) (fun K hK => ?_)
    refine goes_ Tryd.func25 zK rfl #[.complex .f64 t280.1 t280.2, .complex .f64 t281.1 t281.2] (by rfl) rfl rfl zM ?_
    with_reducible refine (gauss_Cmp.calls k t280 t281 t282 _ A14.out).mono ?_
    rintro e w34 ⟨rfl, hb⟩
    refine ⟨_, rfl, ?_⟩
    have n0_ := aM (blk_below (g := gb266) (o := .cells #[.float .f64 a0_0, .float .f64 a0_1] 24 (0, 0)) (by (with_reducible repeat (first | refine blk_drewN ?_ _ | refine blk_drew ?_ | refine blk_alloc ?_ _)); exact BK266.out) hb)
    have n1_ := aM (blk_below (g := gb267) (o := .cells #[.float .f64 a1_0, .float .f64 a1_1] 24 (0, 0)) (by (with_reducible repeat (first | refine blk_drewN ?_ _ | refine blk_drew ?_ | refine blk_alloc ?_ _)); exact BK267.out) hb)
    have n2_ := aM (below_step (by repeat (first | (with_reducible first | exact HB.out | apply bA | apply bN | apply bD | refine below_set ?_ GE266.out | refine below_set ?_ GE267.out) | exact HB.out)) hb)
    clear BK266
    clear BK267
    clear HB
    have BK266 := n0_
    have BK267 := n1_
    have HB := n2_
    clear n0_ n1_ n2_
    (try clear hb)
    (try clear hb2)
    (try clear hk)
    (try clear hi)
    refine hK.out _ _ ⟨(blk_cell BK266.out 0).trans rfl, (blk_cell BK266.out 1).trans rfl, (blk_cell BK267.out 0).trans rfl, (blk_cell BK267.out 1).trans rfl⟩ (fun hHeld => ?_)
    clear hK K
    refine norm_ (a' := ?_) ?_ ?_
    rotate_left
    ·show Act.put _ (some 41) _ = _
     simp only [Act.put, List.setIfInBounds_toArray, List.set_cons_zero, List.set_cons_succ, i64_w, i32_w]
     rfl
    refine one_ (i := 16) (N := some 43) #[true, true, true, true, true, true, true, true, true, true, true, true, true, true, true, true, true, true, false, false, false, false, false, false, false, false] rfl rfl (one_of HT_.out zK) (by decide) (fun K hK => ?_)
    refine goes_ Tryd.func12 zK rfl #[.agg #[.float .f64 a0_0, .float .f64 a0_1]] (by rfl) rfl rfl zM ?_
    with_reducible refine (toponymlaw14_Two_r.calls a0_0 a0_1 t283 t284 _ A15.out).mono ?_
    rintro e w35 ⟨rfl, hb⟩
    refine ⟨_, rfl, ?_⟩
    have n0_ := aM (blk_below (g := gb266) (o := .cells #[.float .f64 a0_0, .float .f64 a0_1] 24 (0, 0)) (by (with_reducible repeat (first | refine blk_drewN ?_ _ | refine blk_drew ?_ | refine blk_alloc ?_ _)); exact BK266.out) hb)
    have n1_ := aM (blk_below (g := gb267) (o := .cells #[.float .f64 a1_0, .float .f64 a1_1] 24 (0, 0)) (by (with_reducible repeat (first | refine blk_drewN ?_ _ | refine blk_drew ?_ | refine blk_alloc ?_ _)); exact BK267.out) hb)
    have n2_ := aM (below_step (by repeat (first | (with_reducible first | exact HB.out | apply bA | apply bN | apply bD | refine below_set ?_ GE266.out | refine below_set ?_ GE267.out) | exact HB.out)) hb)
    clear BK266
    clear BK267
    clear HB
    have BK266 := n0_
    have BK267 := n1_
    have HB := n2_
    clear n0_ n1_ n2_
    (try clear hb)
    (try clear hb2)
    (try clear hk)
    (try clear hi)
    refine hK.out _ _ ⟨(blk_cell BK266.out 0).trans rfl, (blk_cell BK266.out 1).trans rfl, (blk_cell BK267.out 0).trans rfl, (blk_cell BK267.out 1).trans rfl⟩ (fun hHeld => ?_)
    clear hK K
    refine norm_ (a' := ?_) ?_ ?_
    rotate_left
    ·show Act.put _ (some 43) _ = _
     simp only [Act.put, List.setIfInBounds_toArray, List.set_cons_zero, List.set_cons_succ, i64_w, i32_w]
     rfl
    refine one_ (i := 18) (N := some 45) #[true, true, true, true, true, true, true, true, true, true, true, true, true, true, true, true, true, true, true, false, false, false, false, false, false, false] rfl rfl (one_of HT_.out zK) (by decide) (fun K hK => ?_)
    refine goes_ Tryd.func12 zK rfl #[.agg #[.float .f64 a1_0, .float .f64 a1_1]] (by rfl) rfl rfl zM ?_
    with_reducible refine (toponymlaw14_Two_r.calls a1_0 a1_1 t285 t286 _ A16.out).mono ?_
    rintro e w36 ⟨rfl, hb⟩
    refine ⟨_, rfl, ?_⟩
    have n0_ := aM (blk_below (g := gb266) (o := .cells #[.float .f64 a0_0, .float .f64 a0_1] 24 (0, 0)) (by (with_reducible repeat (first | refine blk_drewN ?_ _ | refine blk_drew ?_ | refine blk_alloc ?_ _)); exact BK266.out) hb)
    have n1_ := aM (blk_below (g := gb267) (o := .cells #[.float .f64 a1_0, .float .f64 a1_1] 24 (0, 0)) (by (with_reducible repeat (first | refine blk_drewN ?_ _ | refine blk_drew ?_ | refine blk_alloc ?_ _)); exact BK267.out) hb)
    have n2_ := aM (below_step (by repeat (first | (with_reducible first | exact HB.out | apply bA | apply bN | apply bD | refine below_set ?_ GE266.out | refine below_set ?_ GE267.out) | exact HB.out)) hb)
    clear BK266
    clear BK267
    clear HB
    have BK266 := n0_
    have BK267 := n1_
    have HB := n2_
    clear n0_ n1_ n2_
    (try clear hb)
    (try clear hb2)
    (try clear hk)
    (try clear hi)
    refine hK.out _ _ ⟨(blk_cell BK266.out 0).trans rfl, (blk_cell BK266.out 1).trans rfl, (blk_cell BK267.out 0).trans rfl, (blk_cell BK267.out 1).trans rfl⟩ (fun hHeld => ?_)
    clear hK K
    refine norm_ (a' := ?_) ?_ ?_
    rotate_left
    ·show Act.put _ (some 45) _ = _
     simp only [Act.put, List.setIfInBounds_toArray, List.set_cons_zero, List.set_cons_succ, i64_w, i32_w]
     rfl
    refine one_ (i := 19) (N := some 46) #[true, true, true, true, true, true, true, true, true, true, true, true, true, true, true, true, true, true, true, true, false, false, false, false, false, false] rfl rfl (one_of HT_.out zK) (by decide) (fun K hK => ?_)
    refine goes_ Tryd.func26 zK rfl #[.agg #[.float .f64 t283, .float .f64 t284], .agg #[.float .f64 t285, .float .f64 t286]] (by rfl) rfl rfl zM ?_
    with_reducible refine (toponymref14_Cmp.calls t283 t284 t285 t286 t287 _ A17.out).mono ?_
    rintro e w37 ⟨rfl, hb⟩
    refine ⟨_, rfl, ?_⟩
    have n0_ := aM (blk_below (g := gb266) (o := .cells #[.float .f64 a0_0, .float .f64 a0_1] 24 (0, 0)) (by (with_reducible repeat (first | refine blk_drewN ?_ _ | refine blk_drew ?_ | refine blk_alloc ?_ _)); exact BK266.out) hb)
    have n1_ := aM (blk_below (g := gb267) (o := .cells #[.float .f64 a1_0, .float .f64 a1_1] 24 (0, 0)) (by (with_reducible repeat (first | refine blk_drewN ?_ _ | refine blk_drew ?_ | refine blk_alloc ?_ _)); exact BK267.out) hb)
    have n2_ := aM (below_step (by repeat (first | (with_reducible first | exact HB.out | apply bA | apply bN | apply bD | refine below_set ?_ GE266.out | refine below_set ?_ GE267.out) | exact HB.out)) hb)
    clear BK266
    clear BK267
    clear HB
    have BK266 := n0_
    have BK267 := n1_
    have HB := n2_
    clear n0_ n1_ n2_
    (try clear hb)
    (try clear hb2)
    (try clear hk)
    (try clear hi)
    refine hK.out _ _ ⟨(blk_cell BK266.out 0).trans rfl, (blk_cell BK266.out 1).trans rfl, (blk_cell BK267.out 0).trans rfl, (blk_cell BK267.out 1).trans rfl⟩ (fun hHeld => ?_)
    clear hK K
    refine norm_ (a' := ?_) ?_ ?_
    rotate_left
    ·show Act.put _ (some 46) _ = _
     simp only [Act.put, List.setIfInBounds_toArray, List.set_cons_zero, List.set_cons_succ, i64_w, i32_w]
     rfl
    refine pure_ (i := 20) (N := some 47) (v := ?_) (a' := ?_) #[true, true, true, true, true, true, true, true, true, true, true, true, true, true, true, true, true, true, true, true, true, false, false, false, false, false] rfl rfl (any_of HT_.out zK) (fun _ _ _ h => h) (Or.inl ⟨by rfl, ?_⟩) ?_ ?_
    rotate_left
    ·intro w'
     go_simp
     with_reducible rfl
    rotate_left
    ·simp only [Act.put, List.setIfInBounds_toArray, List.set_cons_zero, List.set_cons_succ, i64_w, i32_w]
     rfl
    refine pure_ (i := 21) (N := some 48) (v := ?_) (a' := ?_) #[true, true, true, true, true, true, true, true, true, true, true, true, true, true, true, true, true, true, true, true, true, true, false, false, false, false] rfl rfl (any_of HT_.out zK) (fun _ _ _ h => h) (Or.inl ⟨by rfl, ?_⟩) ?_ ?_
    rotate_left
    ·intro w'
     go_simp
     with_reducible rfl
    rotate_left
    ·simp only [Act.put, List.setIfInBounds_toArray, List.set_cons_zero, List.set_cons_succ, i64_w, i32_w]
     rfl
    refine pure_ (i := 22) (N := some 49) (v := ?_) (a' := ?_) #[true, true, true, true, true, true, true, true, true, true, true, true, true, true, true, true, true, true, true, true, true, true, true, false, false, false] rfl rfl (any_of HT_.out zK) (fun _ _ _ h => h) (Or.inl ⟨by rfl, ?_⟩) ?_ ?_
    rotate_left
    ·intro w'
     go_simp
     with_reducible rfl
    rotate_left
    ·simp only [Act.put, List.setIfInBounds_toArray, List.set_cons_zero, List.set_cons_succ, i64_w, i32_w]
     rfl
    refine one_ (i := 23) (N := some 50) #[true, true, true, true, true, true, true, true, true, true, true, true, true, true, true, true, true, true, true, true, true, true, true, true, false, false] rfl rfl (one_of HT_.out zK) (by decide) (fun K hK => ?_)
    refine goes_ Tryd.func20 zK rfl #[] (by rfl) rfl rfl zM ?_
    with_reducible refine (toponymlaw14_awake.calls k  t288 _ (zEnv HE) A19.out).mono ?_
    rintro e w38 ⟨rfl, hb⟩
    refine ⟨_, rfl, ?_⟩
    have n0_ := aM (blk_below (g := gb266) (o := .cells #[.float .f64 a0_0, .float .f64 a0_1] 24 (0, 0)) (by (with_reducible repeat (first | refine blk_drewN ?_ _ | refine blk_drew ?_ | refine blk_alloc ?_ _)); exact BK266.out) hb)
    have n1_ := aM (blk_below (g := gb267) (o := .cells #[.float .f64 a1_0, .float .f64 a1_1] 24 (0, 0)) (by (with_reducible repeat (first | refine blk_drewN ?_ _ | refine blk_drew ?_ | refine blk_alloc ?_ _)); exact BK267.out) hb)
    have n2_ := aM (below_step (by repeat (first | (with_reducible first | exact HB.out | apply bA | apply bN | apply bD | refine below_set ?_ GE266.out | refine below_set ?_ GE267.out) | exact HB.out)) hb)
    clear BK266
    clear BK267
    clear HB
    have BK266 := n0_
    have BK267 := n1_
    have HB := n2_
    clear n0_ n1_ n2_
    (try clear hb)
    (try clear hb2)
    (try clear hk)
    (try clear hi)
    refine hK.out _ _ ⟨(blk_cell BK266.out 0).trans rfl, (blk_cell BK266.out 1).trans rfl, (blk_cell BK267.out 0).trans rfl, (blk_cell BK267.out 1).trans rfl⟩ (fun hHeld => ?_)
    clear hK K
    refine norm_ (a' := ?_) ?_ ?_
    rotate_left
    ·show Act.put _ (some 50) _ = _
     simp only [Act.put, List.setIfInBounds_toArray, List.set_cons_zero, List.set_cons_succ, i64_w, i32_w]
     rfl
    refine pure_ (i := 24) (N := some 51) (v := ?_) (a' := ?_) #[true, true, true, true, true, true, true, true, true, true, true, true, true, true, true, true, true, true, true, true, true, true, true, true, true, false] rfl rfl (any_of HT_.out zK) (fun _ _ _ h => h) (Or.inl ⟨by rfl, ?_⟩) ?_ ?_
    rotate_left
    ·intro w'
     go_simp
     with_reducible rfl
    rotate_left
    ·simp only [Act.put, List.setIfInBounds_toArray, List.set_cons_zero, List.set_cons_succ, i64_w, i32_w]
     rfl
    refine pure_ (i := 25) (N := some 4) (v := ?_) (a' := ?_) #[true, true, true, true, true, true, true, true, true, true, true, true, true, true, true, true, true, true, true, true, true, true, true, true, true, true] rfl rfl (any_of HT_.out zK) (fun _ _ _ h => h) (Or.inl ⟨by rfl, ?_⟩) ?_ ?_
    rotate_left
    ·intro w'
     go_simp
     with_reducible rfl
    rotate_left
    ·simp only [Act.put, List.setIfInBounds_toArray, List.set_cons_zero, List.set_cons_succ, i64_w, i32_w]
     rfl
    refine done_ (done_of HT_.out zK) ?_
    try go_wp2
    go_ret
    exact ⟨zE, by repeat (first | (with_reducible first | exact HB.out | apply bA | apply bN | apply bD | refine below_set ?_ GE266.out | refine below_set ?_ GE267.out) | exact HB.out)⟩
   ·rw [if_neg c18] at H
    exact absurd ((sI H).trans hT.out) (by decide)
  ·rw [if_neg c11] at H
   exact absurd ((sI H).trans hT.out) (by decide)
 ·replace c10 := Bool.eq_false_iff.mpr c10
  subst c10
  rw [if_neg (show ¬ (false = true) by decide)] at H
  exact absurd ((sI H).trans hT.out) (by decide)
/-! ### toponymlaw14_GaussBack: function 6 -/
def toponymlaw14_GaussBack.j0 : Nat → ByteArray → Option (Bool)
 | 0, _ => none
 | k + 1, x1 => (gauss_Parse.f k x1).bind fun bt296 => (if bt296.2 = 0 then ((gauss_Show.f bt296.1).bind fun bt298 => (if bt298.1.toList = x1.toList then (if bt298.2 = 0 then ((gauss_Fits.f bt296.1).bind fun t300 => (if t300 = true then ((toponymlaw14_awake.f k).bind fun t301 => (some t301)) else (some false))) else (some false)) else (some false))) else (if (Go.FloatKind.f64.format.order bt296.1.1 0 == some .eq && Go.FloatKind.f64.format.order bt296.1.2 0 == some .eq) = true then (if bt296.2 = 140 then ((toponymlaw14_awake.f k).bind fun t302 => (some t302)) else (some false)) else (some false)))
def toponymlaw14_GaussBack.f (k : Nat) (a0_0 : Nat) (a0_1 : Nat) (a1 : ByteArray) : Option (Bool) := (toponymlaw14_Two_z.f a0_0 a0_1).bind fun t290 => ((gauss_Show.f t290).bind fun bt291 => (if bt291.2 = 0 then ((gauss_Parse.f k bt291.1).bind fun bt293 => (if bt293.2 = 0 then ((toponymlaw14_Two_z.f a0_0 a0_1).bind fun t295 => (if ((Go.FloatKind.f64.format.order bt293.1.1 t295.1 == some .eq && Go.FloatKind.f64.format.order bt293.1.2 t295.2 == some .eq) = true) then (if (bt291.1.size : Int) > 16 then (some false) else (toponymlaw14_GaussBack.j0 k a1)) else (some false))) else (some false))) else (toponymlaw14_GaussBack.j0 k a1)))
theorem toponymlaw14_GaussBack.mono_l : ∀ k, (∀ y0, LeO (toponymlaw14_GaussBack.j0 k y0) (toponymlaw14_GaussBack.j0 (k + 1) y0))
 | 0 => fun _ r h => by simp [toponymlaw14_GaussBack.j0] at h
 | k + 1 => by
  have ih0 := toponymlaw14_GaussBack.mono_l k
  ·intro y0
   unfold toponymlaw14_GaussBack.j0
   repeat' first
   | (with_reducible exact ih0 _)
   | (with_reducible exact gauss_Parse.mono _ _)
   | (with_reducible exact toponymlaw14_awake.mono _)
   | (with_reducible exact LeO.refl _)
   | exact ih0 _
   | exact gauss_Parse.mono _ _
   | exact toponymlaw14_awake.mono _
   | exact LeO.none _
   | refine LeO.ite ?_ ?_
   | refine LeO.bind ?_ (fun _ => ?_)
theorem toponymlaw14_GaussBack.mono : ∀ a0 a1 a2 k, LeO (toponymlaw14_GaussBack.f k a0 a1 a2) (toponymlaw14_GaussBack.f (k + 1) a0 a1 a2) := by
 intro a0 a1 a2 k
 have ih0 := toponymlaw14_GaussBack.mono_l k
 unfold toponymlaw14_GaussBack.f
 repeat' first
   | (with_reducible exact ih0 _)
   | (with_reducible exact gauss_Parse.mono _ _)
   | (with_reducible exact toponymlaw14_awake.mono _)
   | (with_reducible exact LeO.refl _)
   | exact ih0 _
   | exact gauss_Parse.mono _ _
   | exact toponymlaw14_awake.mono _
   | exact LeO.none _
   | refine LeO.ite ?_ ?_
   | refine LeO.bind ?_ (fun _ => ?_)
set_option maxHeartbeats 8000000 in
set_option maxRecDepth 100000 in
theorem toponymlaw14_GaussBack.calls (k : Nat) (a0_0 : Nat) (a0_1 : Nat) (a1 : ByteArray) (r : Bool) (w : World) (hE : Env w) (h : toponymlaw14_GaussBack.f k a0_0 a0_1 a1 = some r) (hT_ : r = true) :
  Calls Tryd.prog 6 #[.agg #[.float .f64 a0_0, .float .f64 a0_1], .string a1] w fun e w' => e = .returned (.bool r) ∧ Below w.heap.size w w' := by
 have hT := aM hT_
 clear hT_
 have HE := aM hE
 clear hE
 have hu24 := Tryd.underlying24
 have HB := aM (Below.refl w.heap.size w)
 have H := h
 clear h
 unfold toponymlaw14_GaussBack.f at H
 obtain ⟨t290, A3, H⟩ := zO H
 obtain ⟨⟨t291, t292⟩, A4, H⟩ := zO H
 try dsimp only at H
 have HC5 := aM H
 clear H
 go_enter Tryd.func6, Tryd.ntmps6
 go_upto_if 20 with (first | ((with_reducible refine gate_dst (N := 2) rfl ?_); (try (refine gate_guard (by rfl) ?_; dsimp only)); refine box_event ?hg (N := 2) ?hd (cs := #[.float .f64 a0_0, .float .f64 a0_1]) (t := 24) ?hr ?_; (case hd => rfl); (case hg => rfl); (case hr => first | (go_simp; done) | (go_simp; rfl)); intro gb289 hg w6 hbox hb; have n_ := zI (aM (below_step zB hb)) (zI (aM (hbox)) (zI (aM ((by rw [hg]; exact (below_size zB) : w.heap.size ≤ gb289))) (aM ((by rw [hg]; exact (below_size zB) : w.heap.size ≤ gb289))))); clear HB; obtain ⟨HB, BK289, GW289, GE289⟩ := n_; clear hb hbox hg; have hcz7_0 : w6.cell? ⟨gb289, 0, none⟩ = some (.float .f64 a0_0) := (blk_cell BK289.out 0).trans rfl; have hcz7_1 : w6.cell? ⟨gb289, 1, none⟩ = some (.float .f64 a0_1) := (blk_cell BK289.out 1).trans rfl; have hfz7_0 := blk_frozen BK289.out 0; have hfz7_1 := blk_frozen BK289.out 1) | ((with_reducible refine gate_callee (f := 10) rfl ?_); refine goesL_ (some 15) rfl rfl Tryd.func10 zK rfl #[.agg #[.float .f64 a0_0, .float .f64 a0_1]] rfl zM ?_; (with_reducible refine (toponymlaw14_Two_z.calls a0_0 a0_1 t290 _ A3.out).mono ?_); rintro e w8 ⟨rfl, hb⟩; (try clear A3); refine ⟨_, rfl, ?_⟩; have n_ := zI (aM (blk_below (g := gb289) (o := .cells #[.float .f64 a0_0, .float .f64 a0_1] 24 (0, 0)) (by (with_reducible repeat (first | refine blk_drewN ?_ _ | refine blk_drew ?_ | refine blk_alloc ?_ _)); exact BK289.out) hb)) (aM (below_step (by repeat (first | (with_reducible first | exact HB.out | apply bA | apply bN | apply bD | refine below_set ?_ GE289.out) | exact HB.out)) hb)); clear BK289 HB; obtain ⟨BK289, HB⟩ := n_; (try clear hb)) | ((with_reducible refine gate_callee (f := 9) rfl ?_); refine goesL_ (some 16) rfl rfl Tryd.func9 zK rfl #[.complex .f64 t290.1 t290.2] rfl zM ?_; (with_reducible refine (gauss_Show.calls t290 t291 t292 _ (zEnv HE) A4.out).mono ?_); rintro e w9 ⟨rfl, hb⟩; (try clear A4); refine ⟨_, rfl, ?_⟩; have n_ := zI (aM (blk_below (g := gb289) (o := .cells #[.float .f64 a0_0, .float .f64 a0_1] 24 (0, 0)) (by (with_reducible repeat (first | refine blk_drewN ?_ _ | refine blk_drew ?_ | refine blk_alloc ?_ _)); exact BK289.out) hb)) (aM (below_step (by repeat (first | (with_reducible first | exact HB.out | apply bA | apply bN | apply bD | refine below_set ?_ GE289.out) | exact HB.out)) hb)); clear BK289 HB; obtain ⟨BK289, HB⟩ := n_; (try clear hb)))
 (try simp only [Act.put, List.setIfInBounds_toArray, List.set_cons_zero, List.set_cons_succ])
 go_cut [] (fun wc => ∃ (kq : Nat), Aside0 (toponymlaw14_GaussBack.j0 kq a1 = some r) ∧ Aside0 (kq ≤ k) ∧ Aside0 (wc.heap[gb289]? = some (.cells #[.float .f64 a0_0, .float .f64 a0_1] 24 (0, 0))) ∧ Aside0 (Below w.heap.size w wc))
 case first =>
  have H := HC5.out
  clear HC5
  by_cases c10 : t292 = 0
  ·rw [if_pos c10] at H
   have c10b0 : (t292 == 0) = true := beq_iff_eq.mpr c10
   have c10b1 : (t292 != 0) = false := bne_eq_false_iff_eq.mpr c10
   clear c10
   (first | rw [c10b0] | (simp only [i64_w, i32_w]; rw [c10b0]) | skip)
   obtain ⟨⟨t293, t294⟩, A11, H⟩ := zO H
   try dsimp only at H
   by_cases c12 : t294 = 0
   ·rw [if_pos c12] at H
    have c12b0 : (t294 == 0) = true := beq_iff_eq.mpr c12
    have c12b1 : (t294 != 0) = false := bne_eq_false_iff_eq.mpr c12
    clear c12
    obtain ⟨t295, A13, H⟩ := zO H
    by_cases c14 : ((Go.FloatKind.f64.format.order t293.1 t295.1 == some .eq && Go.FloatKind.f64.format.order t293.2 t295.2 == some .eq) = true)
    ·rw [if_pos c14] at H
     have c14b0 : (Go.FloatKind.f64.format.order t293.1 t295.1 == some .eq && Go.FloatKind.f64.format.order t293.2 t295.2 == some .eq) = true := c14
     (try (have c14b1 : decide (Go.FloatKind.f64.format.order t293.1 t295.1 = some .eq && Go.FloatKind.f64.format.order t293.2 t295.2 == some .eq) = true := by simpa using c14))
     (try (have c14b2 : (Go.FloatKind.f64.format.order t293.1 t295.1 == some .eq && Go.FloatKind.f64.format.order t293.2 t295.2 == some .eq) = true := by simpa using c14))
     clear c14
     by_cases c15 : (t291.size : Int) > 16
     ·rw [if_pos c15] at H
      have c15b0 : decide (16 < (t291.size : Int)) = true := decide_eq_true c15
      have c15b1 : decide (16 < t291.size) = true := decide_eq_true (by omega)
      clear c15
      obtain rfl := sI H
      go_wp2_with (first | ((with_reducible refine gate_callee (f := 21) rfl ?_); refine goesL_ (some 23) rfl rfl Tryd.func21 zK rfl #[.string t291] rfl zM ?_; (with_reducible refine (gauss_Parse.calls k t291 t293 t294 _ (zEnv HE) A11.out).mono ?_); rintro e w16 ⟨rfl, hb⟩; (try clear A11); refine ⟨_, rfl, ?_⟩; have n_ := zI (aM (blk_below (g := gb289) (o := .cells #[.float .f64 a0_0, .float .f64 a0_1] 24 (0, 0)) (by (with_reducible repeat (first | refine blk_drewN ?_ _ | refine blk_drew ?_ | refine blk_alloc ?_ _)); exact BK289.out) hb)) (aM (below_step (by repeat (first | (with_reducible first | exact HB.out | apply bA | apply bN | apply bD | refine below_set ?_ GE289.out) | exact HB.out)) hb)); clear BK289 HB; obtain ⟨BK289, HB⟩ := n_; (try clear hb); have hcz17_0 : w16.cell? ⟨gb289, 0, none⟩ = some (.float .f64 a0_0) := (blk_cell BK289.out 0).trans rfl; have hcz17_1 : w16.cell? ⟨gb289, 1, none⟩ = some (.float .f64 a0_1) := (blk_cell BK289.out 1).trans rfl; have hfz17_0 := blk_frozen BK289.out 0; have hfz17_1 := blk_frozen BK289.out 1) | (go_at_call 10; (with_reducible refine (toponymlaw14_Two_z.calls a0_0 a0_1 t295 _ A13.out).mono ?_); rintro e w18 ⟨rfl, hb⟩; (try clear A13); have n_ := zI (aM (blk_below (g := gb289) (o := .cells #[.float .f64 a0_0, .float .f64 a0_1] 24 (0, 0)) (by (with_reducible repeat (first | refine blk_drewN ?_ _ | refine blk_drew ?_ | refine blk_alloc ?_ _)); exact BK289.out) hb)) (aM (below_step (by repeat (first | (with_reducible first | exact HB.out | apply bA | apply bN | apply bD | refine below_set ?_ GE289.out) | exact HB.out)) hb)); clear BK289 HB; obtain ⟨BK289, HB⟩ := n_; (try clear hb)))
      go_ret
      exact ⟨zE, by repeat (first | (with_reducible first | exact HB.out | apply bA | apply bN | apply bD | refine below_set ?_ GE289.out) | exact HB.out)⟩
     ·rw [if_neg c15] at H
      have c15b0 : decide (16 < (t291.size : Int)) = false := decide_eq_false c15
      have c15b1 : decide (16 < t291.size) = false := decide_eq_false (by omega)
      clear c15
      have H' := aM H
      clear H
      go_wp2_with (first | ((with_reducible refine gate_callee (f := 21) rfl ?_); refine goesL_ (some 23) rfl rfl Tryd.func21 zK rfl #[.string t291] rfl zM ?_; (with_reducible refine (gauss_Parse.calls k t291 t293 t294 _ (zEnv HE) A11.out).mono ?_); rintro e w19 ⟨rfl, hb⟩; (try clear A11); refine ⟨_, rfl, ?_⟩; have n_ := zI (aM (blk_below (g := gb289) (o := .cells #[.float .f64 a0_0, .float .f64 a0_1] 24 (0, 0)) (by (with_reducible repeat (first | refine blk_drewN ?_ _ | refine blk_drew ?_ | refine blk_alloc ?_ _)); exact BK289.out) hb)) (aM (below_step (by repeat (first | (with_reducible first | exact HB.out | apply bA | apply bN | apply bD | refine below_set ?_ GE289.out) | exact HB.out)) hb)); clear BK289 HB; obtain ⟨BK289, HB⟩ := n_; (try clear hb); have hcz20_0 : w19.cell? ⟨gb289, 0, none⟩ = some (.float .f64 a0_0) := (blk_cell BK289.out 0).trans rfl; have hcz20_1 : w19.cell? ⟨gb289, 1, none⟩ = some (.float .f64 a0_1) := (blk_cell BK289.out 1).trans rfl; have hfz20_0 := blk_frozen BK289.out 0; have hfz20_1 := blk_frozen BK289.out 1) | (go_at_call 10; (with_reducible refine (toponymlaw14_Two_z.calls a0_0 a0_1 t295 _ A13.out).mono ?_); rintro e w21 ⟨rfl, hb⟩; (try clear A13); have n_ := zI (aM (blk_below (g := gb289) (o := .cells #[.float .f64 a0_0, .float .f64 a0_1] 24 (0, 0)) (by (with_reducible repeat (first | refine blk_drewN ?_ _ | refine blk_drew ?_ | refine blk_alloc ?_ _)); exact BK289.out) hb)) (aM (below_step (by repeat (first | (with_reducible first | exact HB.out | apply bA | apply bN | apply bD | refine below_set ?_ GE289.out) | exact HB.out)) hb)); clear BK289 HB; obtain ⟨BK289, HB⟩ := n_; (try clear hb)))
      go_meet
      case rel => exact ⟨_, H', ⟨by first | omega | exact Nat.le_refl _⟩, ⟨by (with_reducible repeat (first | refine blk_drewN ?_ _ | refine blk_drew ?_ | refine blk_alloc ?_ _)); exact BK289.out⟩, ⟨by repeat (first | (with_reducible first | exact HB.out | apply bA | apply bN | apply bD | refine below_set ?_ GE289.out) | exact HB.out)⟩⟩
    ·rw [if_neg c14] at H
     exact absurd ((sI H).trans hT.out) (by decide)
   ·rw [if_neg c12] at H
    exact absurd ((sI H).trans hT.out) (by decide)
  ·rw [if_neg c10] at H
   have c10b0 : (t292 == 0) = false := beq_eq_false_iff_ne.mpr c10
   have c10b1 : (t292 != 0) = true := bne_iff_ne.mpr c10
   (first | rw [c10b0] | (simp only [i64_w, i32_w]; rw [c10b0]) | skip)
   have H' := aM H
   clear H
   go_wp2
   go_meet
   case rel => exact ⟨_, H', ⟨by first | omega | exact Nat.le_refl _⟩, ⟨by (with_reducible repeat (first | refine blk_drewN ?_ _ | refine blk_drew ?_ | refine blk_alloc ?_ _)); exact BK289.out⟩, ⟨by repeat (first | (with_reducible first | exact HB.out | apply bA | apply bN | apply bD | refine below_set ?_ GE289.out) | exact HB.out)⟩⟩
 case rest =>
  clear HC5
  try clear c1
  try clear c2
  try clear p2
  try clear c6
  try clear c9
  try clear c10
  try clear c10b0
  try clear c10b1
  try clear c12
  try clear c12b0
  try clear c12b1
  try clear c14
  try clear c14b0
  try clear c14b1
  try clear c14b2
  try clear c15
  try clear c15b0
  try clear c15b1
  try clear c21
  try clear hcz17_0
  try clear hcz17_1
  try clear hcz20_0
  try clear hcz20_1
  try clear hcz23_0
  try clear hcz23_1
  try clear hcz7_0
  try clear hcz7_1
  try clear hfz17_0
  try clear hfz17_1
  try clear hfz20_0
  try clear hfz20_1
  try clear hfz23_0
  try clear hfz23_1
  try clear hfz7_0
  try clear hfz7_1
  obtain ⟨kq, HA, HJ4, BK289, HB⟩ := hcut
  cases kq with
  | zero => exact absurd HA.out (by simp [toponymlaw14_GaussBack.j0])
  | succ kj4 =>
   have H := HA.out
   clear HA
   simp only [toponymlaw14_GaussBack.j0] at H
   obtain ⟨⟨t296, t297⟩, A26, H⟩ := zO H
   try dsimp only at H
   by_cases c27 : t297 = 0
   ·rw [if_pos c27] at H
    have c27b0 : (t297 == 0) = true := beq_iff_eq.mpr c27
    have c27b1 : (t297 != 0) = false := bne_eq_false_iff_eq.mpr c27
    clear c27
    obtain ⟨⟨t298, t299⟩, A28, H⟩ := zO H
    try dsimp only at H
    by_cases c29 : t298.toList = a1.toList
    ·rw [if_pos c29] at H
     have c29b0 : (t298.toList == a1.toList) = true := beq_iff_eq.mpr c29
     have c29b1 : (t298.toList != a1.toList) = false := bne_eq_false_iff_eq.mpr c29
     clear c29
     by_cases c30 : t299 = 0
     ·rw [if_pos c30] at H
      have c30b0 : (t299 == 0) = true := beq_iff_eq.mpr c30
      have c30b1 : (t299 != 0) = false := bne_eq_false_iff_eq.mpr c30
      clear c30
      obtain ⟨t300, A31, H⟩ := zO H
      by_cases c32 : t300 = true
      ·subst c32
       rw [if_pos rfl] at H
       obtain ⟨t301, A33, H⟩ := zO H
       obtain rfl := sI H
       go_wp2_with (first | ((with_reducible refine gate_callee (f := 21) rfl ?_); refine goesL_ (some 41) rfl rfl Tryd.func21 zK rfl #[.string a1] rfl zM ?_; (with_reducible refine (gauss_Parse.calls kj4 a1 t296 t297 _ (zEnv HE) A26.out).mono ?_); rintro e w34 ⟨rfl, hb⟩; (try clear A26); refine ⟨_, rfl, ?_⟩; have n_ := zI (aM (blk_below (g := gb289) (o := .cells #[.float .f64 a0_0, .float .f64 a0_1] 24 (0, 0)) (by (with_reducible repeat (first | refine blk_drewN ?_ _ | refine blk_drew ?_ | refine blk_alloc ?_ _)); exact BK289.out) hb)) (aM (below_step (by repeat (first | (with_reducible first | exact HB.out | apply bA | apply bN | apply bD | refine below_set ?_ GE289.out) | exact HB.out)) hb)); clear BK289 HB; obtain ⟨BK289, HB⟩ := n_; (try clear hb)) | ((with_reducible refine gate_callee (f := 9) rfl ?_); refine goesL_ (some 57) rfl rfl Tryd.func9 zK rfl #[.complex .f64 t296.1 t296.2] rfl zM ?_; (with_reducible refine (gauss_Show.calls t296 t298 t299 _ (zEnv HE) A28.out).mono ?_); rintro e w35 ⟨rfl, hb⟩; (try clear A28); refine ⟨_, rfl, ?_⟩; have n_ := zI (aM (blk_below (g := gb289) (o := .cells #[.float .f64 a0_0, .float .f64 a0_1] 24 (0, 0)) (by (with_reducible repeat (first | refine blk_drewN ?_ _ | refine blk_drew ?_ | refine blk_alloc ?_ _)); exact BK289.out) hb)) (aM (below_step (by repeat (first | (with_reducible first | exact HB.out | apply bA | apply bN | apply bD | refine below_set ?_ GE289.out) | exact HB.out)) hb)); clear BK289 HB; obtain ⟨BK289, HB⟩ := n_; (try clear hb)) | (go_at_call 17; (with_reducible refine (gauss_Fits.calls t296 true _ A31.out).mono ?_); rintro e w36 ⟨rfl, hb⟩; have n_ := zI (aM (blk_below (g := gb289) (o := .cells #[.float .f64 a0_0, .float .f64 a0_1] 24 (0, 0)) (by (with_reducible repeat (first | refine blk_drewN ?_ _ | refine blk_drew ?_ | refine blk_alloc ?_ _)); exact BK289.out) hb)) (aM (below_step (by repeat (first | (with_reducible first | exact HB.out | apply bA | apply bN | apply bD | refine below_set ?_ GE289.out) | exact HB.out)) hb)); clear BK289 HB; obtain ⟨BK289, HB⟩ := n_; (try clear hb)) | (go_at_call 20; (with_reducible refine (toponymlaw14_awake.calls kj4  t301 _ (zEnv HE) A33.out).mono ?_); rintro e w37 ⟨rfl, hb⟩; (try clear A33); have n_ := zI (aM (blk_below (g := gb289) (o := .cells #[.float .f64 a0_0, .float .f64 a0_1] 24 (0, 0)) (by (with_reducible repeat (first | refine blk_drewN ?_ _ | refine blk_drew ?_ | refine blk_alloc ?_ _)); exact BK289.out) hb)) (aM (below_step (by repeat (first | (with_reducible first | exact HB.out | apply bA | apply bN | apply bD | refine below_set ?_ GE289.out) | exact HB.out)) hb)); clear BK289 HB; obtain ⟨BK289, HB⟩ := n_; (try clear hb)))
       go_ret
       exact ⟨zE, by repeat (first | (with_reducible first | exact HB.out | apply bA | apply bN | apply bD | refine below_set ?_ GE289.out) | exact HB.out)⟩
      ·replace c32 := Bool.eq_false_iff.mpr c32
       subst c32
       rw [if_neg (show ¬ (false = true) by decide)] at H
       exact absurd ((sI H).trans hT.out) (by decide)
     ·rw [if_neg c30] at H
      exact absurd ((sI H).trans hT.out) (by decide)
    ·rw [if_neg c29] at H
     exact absurd ((sI H).trans hT.out) (by decide)
   ·rw [if_neg c27] at H
    have c27b0 : (t297 == 0) = false := beq_eq_false_iff_ne.mpr c27
    have c27b1 : (t297 != 0) = true := bne_iff_ne.mpr c27
    by_cases c45 : (Go.FloatKind.f64.format.order t296.1 0 == some .eq && Go.FloatKind.f64.format.order t296.2 0 == some .eq) = true
    ·rw [if_pos c45] at H
     have c45b0 : (Go.FloatKind.f64.format.order t296.1 0 == some .eq && Go.FloatKind.f64.format.order t296.2 0 == some .eq) = true := c45
     (try (have c45b1 : decide (Go.FloatKind.f64.format.order t296.1 0 = some .eq && Go.FloatKind.f64.format.order t296.2 0 == some .eq) = true := by simpa using c45))
     (try (have c45b2 : (Go.FloatKind.f64.format.order t296.1 0 == some .eq && Go.FloatKind.f64.format.order t296.2 0 == some .eq) = true := by simpa using c45))
     clear c45
     by_cases c46 : t297 = 140
     ·rw [if_pos c46] at H
      have c46b0 : (t297 == 140) = true := beq_iff_eq.mpr c46
      have c46b1 : (t297 != 140) = false := bne_eq_false_iff_eq.mpr c46
      clear c46
      obtain ⟨t302, A47, H⟩ := zO H
      obtain rfl := sI H
      go_wp2_with (first | ((with_reducible refine gate_callee (f := 21) rfl ?_); refine goesL_ (some 41) rfl rfl Tryd.func21 zK rfl #[.string a1] rfl zM ?_; (with_reducible refine (gauss_Parse.calls kj4 a1 t296 t297 _ (zEnv HE) A26.out).mono ?_); rintro e w48 ⟨rfl, hb⟩; (try clear A26); refine ⟨_, rfl, ?_⟩; have n_ := zI (aM (blk_below (g := gb289) (o := .cells #[.float .f64 a0_0, .float .f64 a0_1] 24 (0, 0)) (by (with_reducible repeat (first | refine blk_drewN ?_ _ | refine blk_drew ?_ | refine blk_alloc ?_ _)); exact BK289.out) hb)) (aM (below_step (by repeat (first | (with_reducible first | exact HB.out | apply bA | apply bN | apply bD | refine below_set ?_ GE289.out) | exact HB.out)) hb)); clear BK289 HB; obtain ⟨BK289, HB⟩ := n_; (try clear hb)) | (go_at_call 20; (with_reducible refine (toponymlaw14_awake.calls kj4  t302 _ (zEnv HE) A47.out).mono ?_); rintro e w49 ⟨rfl, hb⟩; (try clear A47); have n_ := zI (aM (blk_below (g := gb289) (o := .cells #[.float .f64 a0_0, .float .f64 a0_1] 24 (0, 0)) (by (with_reducible repeat (first | refine blk_drewN ?_ _ | refine blk_drew ?_ | refine blk_alloc ?_ _)); exact BK289.out) hb)) (aM (below_step (by repeat (first | (with_reducible first | exact HB.out | apply bA | apply bN | apply bD | refine below_set ?_ GE289.out) | exact HB.out)) hb)); clear BK289 HB; obtain ⟨BK289, HB⟩ := n_; (try clear hb)))
      go_ret
      exact ⟨zE, by repeat (first | (with_reducible first | exact HB.out | apply bA | apply bN | apply bD | refine below_set ?_ GE289.out) | exact HB.out)⟩
     ·rw [if_neg c46] at H
      exact absurd ((sI H).trans hT.out) (by decide)
    ·rw [if_neg c45] at H
     exact absurd ((sI H).trans hT.out) (by decide)
end Go.Proofs.YtoadfanppajhhaaDoor.P
