-- Printed by wip/mk.py (this session's driver over the kit's print) and from wip/manual.
import Derived.Test.YtpihglokjcbjkaaT0
import Derived.Test.YtpihglokjcbjkaaT9
namespace Go.Proofs.Ytpihglokjcbjkaa.P
open Go.RowKit Go.Proofs.YtpihglokjcbjkaaW.PrintWords Go.Proofs.YtpihglokjcbjkaaW.PrintLast Go.Proofs.YtpihglokjcbjkaaW.PrintMore
attribute [local go_sem] max2_int min2_int max_two min_two max_three min_three max_four min_four   -- for this text's walks alone
set_option linter.unusedVariables false
set_option linter.unusedSimpArgs false

/-! ### toponymref05_ligature: function 87 -/
def toponymref05_ligature.f (a0 : Int) : Option (List Int) := if a0 = 64256 then (some (([102, 102] : List Int))) else (if a0 = 64257 then (some (([102, 105] : List Int))) else (if a0 = 64258 then (some (([102, 108] : List Int))) else (if a0 = 64259 then (some (([102, 102, 105] : List Int))) else (if a0 = 64260 then (some (([102, 102, 108] : List Int))) else (if a0 = 64261 then (some (([383, 116] : List Int))) else (some ([] : List Int)))))))
set_option maxHeartbeats 8000000 in
set_option maxRecDepth 100000 in
theorem toponymref05_ligature.calls (a0 : Int) (r : List Int) (w : World) (h : toponymref05_ligature.f a0 = some r) :
  Calls Try.prog 87 #[.int .i64 a0] w fun e w' => ∃ v0_ : Value, e = .returned (v0_) ∧ Kd.R (Kd.int .i32) 21 w' w.heap.size (fun _ => True) v0_ r ∧ Below w.heap.size w w' := by
 have HB := aM (Below.refl w.heap.size w)
 have H : (if a0 = 64256 then (some (([102, 102] : List Int))) else (if a0 = 64257 then (some (([102, 105] : List Int))) else (if a0 = 64258 then (some (([102, 108] : List Int))) else (if a0 = 64259 then (some (([102, 102, 105] : List Int))) else (if a0 = 64260 then (some (([102, 102, 108] : List Int))) else (if a0 = 64261 then (some (([383, 116] : List Int))) else (some ([] : List Int)))))))) = some r := h
 clear h
 by_cases c2 : a0 = 64256
 ·rw [if_pos c2] at H
  have c2b0 : (a0 == 64256) = true := beq_iff_eq.mpr c2
  have c2b1 : (a0 != 64256) = false := bne_eq_false_iff_eq.mpr c2
  clear c2
  obtain ⟨y487, hy487⟩ : ∃ y_ : List Int, y_ = (([102, 102] : List Int)) := ⟨_, rfl⟩
  replace H : (some y487) = some r := zY hy487 H
  have Ny487 := aM hy487
  clear hy487
  obtain rfl := sI H
  go_enter Try.func87, Try.ntmps87
  go_wp2_with (first | ((with_reducible refine gate_dst (N := 6) rfl ?_); refine Kd.R_lit (Kd.int .i32) _ 21 ?hg (N := 6) ?hd (xs := ([102, 102] : List Int)) (inner := [.int .i32 102, .int .i32 102]) (ok := fun _ => True) (okp := fun _ => True) ?hr ?hp (fun _ hk => hk) trivial (Below.refl _ _) (Nat.le_refl _) (by simp) ?_; (case hd => rfl); (case hg => rfl); (case hr => first | (go_simp; done) | (go_simp; rfl)); (case hp => exact (Reps.one (show Kd.M (Kd.int .i32) _ _ _ 102 [.int .i32 102] from rfl) (Reps.one (show Kd.M (Kd.int .i32) _ _ _ 102 [.int .i32 102] from rfl) (Reps.none _ _)))); intro v488 w3 ho4 hb hg_ hnew_; clear hg_ hnew_; (first | rw [← Ny487.out] at ho4 | (simp only [Int.reduceToNat] at ho4; rw [← Ny487.out] at ho4)); have n_ := zI (aM (Kd.R_lower ho4 (below_size zB))) (aM (below_step zB hb)); clear HB; obtain ⟨HO489, HB⟩ := n_; clear hb ho4))
  go_ret
  exact ⟨_, zE, zR HO489, zB⟩
 ·rw [if_neg c2] at H
  have c2b0 : (a0 == 64256) = false := beq_eq_false_iff_ne.mpr c2
  have c2b1 : (a0 != 64256) = true := bne_iff_ne.mpr c2
  by_cases c5 : a0 = 64257
  ·rw [if_pos c5] at H
   have c5b0 : (a0 == 64257) = true := beq_iff_eq.mpr c5
   have c5b1 : (a0 != 64257) = false := bne_eq_false_iff_eq.mpr c5
   clear c5
   obtain ⟨y490, hy490⟩ : ∃ y_ : List Int, y_ = (([102, 105] : List Int)) := ⟨_, rfl⟩
   replace H : (some y490) = some r := zY hy490 H
   have Ny490 := aM hy490
   clear hy490
   obtain rfl := sI H
   go_enter Try.func87, Try.ntmps87
   go_wp2_with (first | ((with_reducible refine gate_dst (N := 9) rfl ?_); refine Kd.R_lit (Kd.int .i32) _ 21 ?hg (N := 9) ?hd (xs := ([102, 105] : List Int)) (inner := [.int .i32 102, .int .i32 105]) (ok := fun _ => True) (okp := fun _ => True) ?hr ?hp (fun _ hk => hk) trivial (Below.refl _ _) (Nat.le_refl _) (by simp) ?_; (case hd => rfl); (case hg => rfl); (case hr => first | (go_simp; done) | (go_simp; rfl)); (case hp => exact (Reps.one (show Kd.M (Kd.int .i32) _ _ _ 102 [.int .i32 102] from rfl) (Reps.one (show Kd.M (Kd.int .i32) _ _ _ 105 [.int .i32 105] from rfl) (Reps.none _ _)))); intro v491 w6 ho7 hb hg_ hnew_; clear hg_ hnew_; (first | rw [← Ny490.out] at ho7 | (simp only [Int.reduceToNat] at ho7; rw [← Ny490.out] at ho7)); have n_ := zI (aM (Kd.R_lower ho7 (below_size zB))) (aM (below_step zB hb)); clear HB; obtain ⟨HO492, HB⟩ := n_; clear hb ho7))
   go_ret
   exact ⟨_, zE, zR HO492, zB⟩
  ·rw [if_neg c5] at H
   have c5b0 : (a0 == 64257) = false := beq_eq_false_iff_ne.mpr c5
   have c5b1 : (a0 != 64257) = true := bne_iff_ne.mpr c5
   by_cases c8 : a0 = 64258
   ·rw [if_pos c8] at H
    have c8b0 : (a0 == 64258) = true := beq_iff_eq.mpr c8
    have c8b1 : (a0 != 64258) = false := bne_eq_false_iff_eq.mpr c8
    clear c8
    obtain ⟨y493, hy493⟩ : ∃ y_ : List Int, y_ = (([102, 108] : List Int)) := ⟨_, rfl⟩
    replace H : (some y493) = some r := zY hy493 H
    have Ny493 := aM hy493
    clear hy493
    obtain rfl := sI H
    go_enter Try.func87, Try.ntmps87
    go_wp2_with (first | ((with_reducible refine gate_dst (N := 12) rfl ?_); refine Kd.R_lit (Kd.int .i32) _ 21 ?hg (N := 12) ?hd (xs := ([102, 108] : List Int)) (inner := [.int .i32 102, .int .i32 108]) (ok := fun _ => True) (okp := fun _ => True) ?hr ?hp (fun _ hk => hk) trivial (Below.refl _ _) (Nat.le_refl _) (by simp) ?_; (case hd => rfl); (case hg => rfl); (case hr => first | (go_simp; done) | (go_simp; rfl)); (case hp => exact (Reps.one (show Kd.M (Kd.int .i32) _ _ _ 102 [.int .i32 102] from rfl) (Reps.one (show Kd.M (Kd.int .i32) _ _ _ 108 [.int .i32 108] from rfl) (Reps.none _ _)))); intro v494 w9 ho10 hb hg_ hnew_; clear hg_ hnew_; (first | rw [← Ny493.out] at ho10 | (simp only [Int.reduceToNat] at ho10; rw [← Ny493.out] at ho10)); have n_ := zI (aM (Kd.R_lower ho10 (below_size zB))) (aM (below_step zB hb)); clear HB; obtain ⟨HO495, HB⟩ := n_; clear hb ho10))
    go_ret
    exact ⟨_, zE, zR HO495, zB⟩
   ·rw [if_neg c8] at H
    have c8b0 : (a0 == 64258) = false := beq_eq_false_iff_ne.mpr c8
    have c8b1 : (a0 != 64258) = true := bne_iff_ne.mpr c8
    by_cases c11 : a0 = 64259
    ·rw [if_pos c11] at H
     have c11b0 : (a0 == 64259) = true := beq_iff_eq.mpr c11
     have c11b1 : (a0 != 64259) = false := bne_eq_false_iff_eq.mpr c11
     clear c11
     obtain ⟨y496, hy496⟩ : ∃ y_ : List Int, y_ = (([102, 102, 105] : List Int)) := ⟨_, rfl⟩
     replace H : (some y496) = some r := zY hy496 H
     have Ny496 := aM hy496
     clear hy496
     obtain rfl := sI H
     go_enter Try.func87, Try.ntmps87
     go_wp2_with (first | ((with_reducible refine gate_dst (N := 15) rfl ?_); refine Kd.R_lit (Kd.int .i32) _ 21 ?hg (N := 15) ?hd (xs := ([102, 102, 105] : List Int)) (inner := [.int .i32 102, .int .i32 102, .int .i32 105]) (ok := fun _ => True) (okp := fun _ => True) ?hr ?hp (fun _ hk => hk) trivial (Below.refl _ _) (Nat.le_refl _) (by simp) ?_; (case hd => rfl); (case hg => rfl); (case hr => first | (go_simp; done) | (go_simp; rfl)); (case hp => exact (Reps.one (show Kd.M (Kd.int .i32) _ _ _ 102 [.int .i32 102] from rfl) (Reps.one (show Kd.M (Kd.int .i32) _ _ _ 102 [.int .i32 102] from rfl) (Reps.one (show Kd.M (Kd.int .i32) _ _ _ 105 [.int .i32 105] from rfl) (Reps.none _ _))))); intro v497 w12 ho13 hb hg_ hnew_; clear hg_ hnew_; (first | rw [← Ny496.out] at ho13 | (simp only [Int.reduceToNat] at ho13; rw [← Ny496.out] at ho13)); have n_ := zI (aM (Kd.R_lower ho13 (below_size zB))) (aM (below_step zB hb)); clear HB; obtain ⟨HO498, HB⟩ := n_; clear hb ho13))
     go_ret
     exact ⟨_, zE, zR HO498, zB⟩
    ·rw [if_neg c11] at H
     have c11b0 : (a0 == 64259) = false := beq_eq_false_iff_ne.mpr c11
     have c11b1 : (a0 != 64259) = true := bne_iff_ne.mpr c11
     by_cases c14 : a0 = 64260
     ·rw [if_pos c14] at H
      have c14b0 : (a0 == 64260) = true := beq_iff_eq.mpr c14
      have c14b1 : (a0 != 64260) = false := bne_eq_false_iff_eq.mpr c14
      clear c14
      obtain ⟨y499, hy499⟩ : ∃ y_ : List Int, y_ = (([102, 102, 108] : List Int)) := ⟨_, rfl⟩
      replace H : (some y499) = some r := zY hy499 H
      have Ny499 := aM hy499
      clear hy499
      obtain rfl := sI H
      go_enter Try.func87, Try.ntmps87
      go_wp2_with (first | ((with_reducible refine gate_dst (N := 18) rfl ?_); refine Kd.R_lit (Kd.int .i32) _ 21 ?hg (N := 18) ?hd (xs := ([102, 102, 108] : List Int)) (inner := [.int .i32 102, .int .i32 102, .int .i32 108]) (ok := fun _ => True) (okp := fun _ => True) ?hr ?hp (fun _ hk => hk) trivial (Below.refl _ _) (Nat.le_refl _) (by simp) ?_; (case hd => rfl); (case hg => rfl); (case hr => first | (go_simp; done) | (go_simp; rfl)); (case hp => exact (Reps.one (show Kd.M (Kd.int .i32) _ _ _ 102 [.int .i32 102] from rfl) (Reps.one (show Kd.M (Kd.int .i32) _ _ _ 102 [.int .i32 102] from rfl) (Reps.one (show Kd.M (Kd.int .i32) _ _ _ 108 [.int .i32 108] from rfl) (Reps.none _ _))))); intro v500 w15 ho16 hb hg_ hnew_; clear hg_ hnew_; (first | rw [← Ny499.out] at ho16 | (simp only [Int.reduceToNat] at ho16; rw [← Ny499.out] at ho16)); have n_ := zI (aM (Kd.R_lower ho16 (below_size zB))) (aM (below_step zB hb)); clear HB; obtain ⟨HO501, HB⟩ := n_; clear hb ho16))
      go_ret
      exact ⟨_, zE, zR HO501, zB⟩
     ·rw [if_neg c14] at H
      have c14b0 : (a0 == 64260) = false := beq_eq_false_iff_ne.mpr c14
      have c14b1 : (a0 != 64260) = true := bne_iff_ne.mpr c14
      by_cases c17 : a0 = 64261
      ·rw [if_pos c17] at H
       have c17b0 : (a0 == 64261) = true := beq_iff_eq.mpr c17
       have c17b1 : (a0 != 64261) = false := bne_eq_false_iff_eq.mpr c17
       clear c17
       obtain ⟨y502, hy502⟩ : ∃ y_ : List Int, y_ = (([383, 116] : List Int)) := ⟨_, rfl⟩
       replace H : (some y502) = some r := zY hy502 H
       have Ny502 := aM hy502
       clear hy502
       obtain rfl := sI H
       go_enter Try.func87, Try.ntmps87
       go_wp2_with (first | ((with_reducible refine gate_dst (N := 21) rfl ?_); refine Kd.R_lit (Kd.int .i32) _ 21 ?hg (N := 21) ?hd (xs := ([383, 116] : List Int)) (inner := [.int .i32 383, .int .i32 116]) (ok := fun _ => True) (okp := fun _ => True) ?hr ?hp (fun _ hk => hk) trivial (Below.refl _ _) (Nat.le_refl _) (by simp) ?_; (case hd => rfl); (case hg => rfl); (case hr => first | (go_simp; done) | (go_simp; rfl)); (case hp => exact (Reps.one (show Kd.M (Kd.int .i32) _ _ _ 383 [.int .i32 383] from rfl) (Reps.one (show Kd.M (Kd.int .i32) _ _ _ 116 [.int .i32 116] from rfl) (Reps.none _ _)))); intro v503 w18 ho19 hb hg_ hnew_; clear hg_ hnew_; (first | rw [← Ny502.out] at ho19 | (simp only [Int.reduceToNat] at ho19; rw [← Ny502.out] at ho19)); have n_ := zI (aM (Kd.R_lower ho19 (below_size zB))) (aM (below_step zB hb)); clear HB; obtain ⟨HO504, HB⟩ := n_; clear hb ho19))
       go_ret
       exact ⟨_, zE, zR HO504, zB⟩
      ·rw [if_neg c17] at H
       have c17b0 : (a0 == 64261) = false := beq_eq_false_iff_ne.mpr c17
       have c17b1 : (a0 != 64261) = true := bne_iff_ne.mpr c17
       obtain rfl := sI H
       go_enter Try.func87, Try.ntmps87
       go_wp2
       go_ret
       exact ⟨_, zE, zL, zB⟩

/-! ### toponymref05_few: function 77 -/
def toponymref05_few.f (a0 : Int) : Option (List Int) := if a0 = 168 then (some (([32, 776] : List Int))) else (if a0 = 170 then (some (([97] : List Int))) else (if a0 = 175 then (some (([32, 772] : List Int))) else (if a0 = 178 then (some (([50] : List Int))) else (if a0 = 179 then (some (([51] : List Int))) else (if a0 = 180 then (some (([32, 769] : List Int))) else (if a0 = 181 then (some (([956] : List Int))) else (if a0 = 184 then (some (([32, 807] : List Int))) else (if a0 = 185 then (some (([49] : List Int))) else (if a0 = 186 then (some (([111] : List Int))) else (if a0 = 188 then (some (([49, 8260, 52] : List Int))) else (if a0 = 189 then (some (([49, 8260, 50] : List Int))) else (if a0 = 190 then (some (([51, 8260, 52] : List Int))) else (if a0 = 306 then (some (([73, 74] : List Int))) else (if a0 = 307 then (some (([105, 106] : List Int))) else (if a0 = 319 then (some (([76, 183] : List Int))) else (if a0 = 320 then (some (([108, 183] : List Int))) else (if a0 = 329 then (some (([700, 110] : List Int))) else (if a0 = 383 then (some (([115] : List Int))) else ((toponymref05_ligature.f a0).bind fun t562 => (some t562))))))))))))))))))))
set_option maxHeartbeats 8000000 in
set_option maxRecDepth 100000 in
theorem toponymref05_few.calls (a0 : Int) (r : List Int) (w : World) (h : toponymref05_few.f a0 = some r) :
  Calls Try.prog 77 #[.int .i64 a0] w fun e w' => ∃ v0_ : Value, e = .returned (v0_) ∧ Kd.R (Kd.int .i32) 21 w' w.heap.size (fun _ => True) v0_ r ∧ Below w.heap.size w w' := by
 have HB := aM (Below.refl w.heap.size w)
 have H : (if a0 = 168 then (some (([32, 776] : List Int))) else (if a0 = 170 then (some (([97] : List Int))) else (if a0 = 175 then (some (([32, 772] : List Int))) else (if a0 = 178 then (some (([50] : List Int))) else (if a0 = 179 then (some (([51] : List Int))) else (if a0 = 180 then (some (([32, 769] : List Int))) else (if a0 = 181 then (some (([956] : List Int))) else (if a0 = 184 then (some (([32, 807] : List Int))) else (if a0 = 185 then (some (([49] : List Int))) else (if a0 = 186 then (some (([111] : List Int))) else (if a0 = 188 then (some (([49, 8260, 52] : List Int))) else (if a0 = 189 then (some (([49, 8260, 50] : List Int))) else (if a0 = 190 then (some (([51, 8260, 52] : List Int))) else (if a0 = 306 then (some (([73, 74] : List Int))) else (if a0 = 307 then (some (([105, 106] : List Int))) else (if a0 = 319 then (some (([76, 183] : List Int))) else (if a0 = 320 then (some (([108, 183] : List Int))) else (if a0 = 329 then (some (([700, 110] : List Int))) else (if a0 = 383 then (some (([115] : List Int))) else ((toponymref05_ligature.f a0).bind fun t562 => (some t562))))))))))))))))))))) = some r := h
 clear h
 by_cases c2 : a0 = 168
 ·rw [if_pos c2] at H
  have c2b0 : (a0 == 168) = true := beq_iff_eq.mpr c2
  have c2b1 : (a0 != 168) = false := bne_eq_false_iff_eq.mpr c2
  clear c2
  obtain ⟨y505, hy505⟩ : ∃ y_ : List Int, y_ = (([32, 776] : List Int)) := ⟨_, rfl⟩
  replace H : (some y505) = some r := zY hy505 H
  have Ny505 := aM hy505
  clear hy505
  obtain rfl := sI H
  go_enter Try.func77, Try.ntmps77
  go_wp2_with (first | ((with_reducible refine gate_dst (N := 6) rfl ?_); refine Kd.R_lit (Kd.int .i32) _ 21 ?hg (N := 6) ?hd (xs := ([32, 776] : List Int)) (inner := [.int .i32 32, .int .i32 776]) (ok := fun _ => True) (okp := fun _ => True) ?hr ?hp (fun _ hk => hk) trivial (Below.refl _ _) (Nat.le_refl _) (by simp) ?_; (case hd => rfl); (case hg => rfl); (case hr => first | (go_simp; done) | (go_simp; rfl)); (case hp => exact (Reps.one (show Kd.M (Kd.int .i32) _ _ _ 32 [.int .i32 32] from rfl) (Reps.one (show Kd.M (Kd.int .i32) _ _ _ 776 [.int .i32 776] from rfl) (Reps.none _ _)))); intro v506 w3 ho4 hb hg_ hnew_; clear hg_ hnew_; (first | rw [← Ny505.out] at ho4 | (simp only [Int.reduceToNat] at ho4; rw [← Ny505.out] at ho4)); have n_ := zI (aM (Kd.R_lower ho4 (below_size zB))) (aM (below_step zB hb)); clear HB; obtain ⟨HO507, HB⟩ := n_; clear hb ho4))
  go_ret
  exact ⟨_, zE, zR HO507, zB⟩
 ·rw [if_neg c2] at H
  have c2b0 : (a0 == 168) = false := beq_eq_false_iff_ne.mpr c2
  have c2b1 : (a0 != 168) = true := bne_iff_ne.mpr c2
  by_cases c5 : a0 = 170
  ·rw [if_pos c5] at H
   have c5b0 : (a0 == 170) = true := beq_iff_eq.mpr c5
   have c5b1 : (a0 != 170) = false := bne_eq_false_iff_eq.mpr c5
   clear c5
   obtain ⟨y508, hy508⟩ : ∃ y_ : List Int, y_ = (([97] : List Int)) := ⟨_, rfl⟩
   replace H : (some y508) = some r := zY hy508 H
   have Ny508 := aM hy508
   clear hy508
   obtain rfl := sI H
   go_enter Try.func77, Try.ntmps77
   go_wp2_with (first | ((with_reducible refine gate_dst (N := 9) rfl ?_); refine Kd.R_lit (Kd.int .i32) _ 21 ?hg (N := 9) ?hd (xs := ([97] : List Int)) (inner := [.int .i32 97]) (ok := fun _ => True) (okp := fun _ => True) ?hr ?hp (fun _ hk => hk) trivial (Below.refl _ _) (Nat.le_refl _) (by simp) ?_; (case hd => rfl); (case hg => rfl); (case hr => first | (go_simp; done) | (go_simp; rfl)); (case hp => exact (Reps.one (show Kd.M (Kd.int .i32) _ _ _ 97 [.int .i32 97] from rfl) (Reps.none _ _))); intro v509 w6 ho7 hb hg_ hnew_; clear hg_ hnew_; (first | rw [← Ny508.out] at ho7 | (simp only [Int.reduceToNat] at ho7; rw [← Ny508.out] at ho7)); have n_ := zI (aM (Kd.R_lower ho7 (below_size zB))) (aM (below_step zB hb)); clear HB; obtain ⟨HO510, HB⟩ := n_; clear hb ho7))
   go_ret
   exact ⟨_, zE, zR HO510, zB⟩
  ·rw [if_neg c5] at H
   have c5b0 : (a0 == 170) = false := beq_eq_false_iff_ne.mpr c5
   have c5b1 : (a0 != 170) = true := bne_iff_ne.mpr c5
   by_cases c8 : a0 = 175
   ·rw [if_pos c8] at H
    have c8b0 : (a0 == 175) = true := beq_iff_eq.mpr c8
    have c8b1 : (a0 != 175) = false := bne_eq_false_iff_eq.mpr c8
    clear c8
    obtain ⟨y511, hy511⟩ : ∃ y_ : List Int, y_ = (([32, 772] : List Int)) := ⟨_, rfl⟩
    replace H : (some y511) = some r := zY hy511 H
    have Ny511 := aM hy511
    clear hy511
    obtain rfl := sI H
    go_enter Try.func77, Try.ntmps77
    go_wp2_with (first | ((with_reducible refine gate_dst (N := 12) rfl ?_); refine Kd.R_lit (Kd.int .i32) _ 21 ?hg (N := 12) ?hd (xs := ([32, 772] : List Int)) (inner := [.int .i32 32, .int .i32 772]) (ok := fun _ => True) (okp := fun _ => True) ?hr ?hp (fun _ hk => hk) trivial (Below.refl _ _) (Nat.le_refl _) (by simp) ?_; (case hd => rfl); (case hg => rfl); (case hr => first | (go_simp; done) | (go_simp; rfl)); (case hp => exact (Reps.one (show Kd.M (Kd.int .i32) _ _ _ 32 [.int .i32 32] from rfl) (Reps.one (show Kd.M (Kd.int .i32) _ _ _ 772 [.int .i32 772] from rfl) (Reps.none _ _)))); intro v512 w9 ho10 hb hg_ hnew_; clear hg_ hnew_; (first | rw [← Ny511.out] at ho10 | (simp only [Int.reduceToNat] at ho10; rw [← Ny511.out] at ho10)); have n_ := zI (aM (Kd.R_lower ho10 (below_size zB))) (aM (below_step zB hb)); clear HB; obtain ⟨HO513, HB⟩ := n_; clear hb ho10))
    go_ret
    exact ⟨_, zE, zR HO513, zB⟩
   ·rw [if_neg c8] at H
    have c8b0 : (a0 == 175) = false := beq_eq_false_iff_ne.mpr c8
    have c8b1 : (a0 != 175) = true := bne_iff_ne.mpr c8
    by_cases c11 : a0 = 178
    ·rw [if_pos c11] at H
     have c11b0 : (a0 == 178) = true := beq_iff_eq.mpr c11
     have c11b1 : (a0 != 178) = false := bne_eq_false_iff_eq.mpr c11
     clear c11
     obtain ⟨y514, hy514⟩ : ∃ y_ : List Int, y_ = (([50] : List Int)) := ⟨_, rfl⟩
     replace H : (some y514) = some r := zY hy514 H
     have Ny514 := aM hy514
     clear hy514
     obtain rfl := sI H
     go_enter Try.func77, Try.ntmps77
     go_wp2_with (first | ((with_reducible refine gate_dst (N := 15) rfl ?_); refine Kd.R_lit (Kd.int .i32) _ 21 ?hg (N := 15) ?hd (xs := ([50] : List Int)) (inner := [.int .i32 50]) (ok := fun _ => True) (okp := fun _ => True) ?hr ?hp (fun _ hk => hk) trivial (Below.refl _ _) (Nat.le_refl _) (by simp) ?_; (case hd => rfl); (case hg => rfl); (case hr => first | (go_simp; done) | (go_simp; rfl)); (case hp => exact (Reps.one (show Kd.M (Kd.int .i32) _ _ _ 50 [.int .i32 50] from rfl) (Reps.none _ _))); intro v515 w12 ho13 hb hg_ hnew_; clear hg_ hnew_; (first | rw [← Ny514.out] at ho13 | (simp only [Int.reduceToNat] at ho13; rw [← Ny514.out] at ho13)); have n_ := zI (aM (Kd.R_lower ho13 (below_size zB))) (aM (below_step zB hb)); clear HB; obtain ⟨HO516, HB⟩ := n_; clear hb ho13))
     go_ret
     exact ⟨_, zE, zR HO516, zB⟩
    ·rw [if_neg c11] at H
     have c11b0 : (a0 == 178) = false := beq_eq_false_iff_ne.mpr c11
     have c11b1 : (a0 != 178) = true := bne_iff_ne.mpr c11
     by_cases c14 : a0 = 179
     ·rw [if_pos c14] at H
      have c14b0 : (a0 == 179) = true := beq_iff_eq.mpr c14
      have c14b1 : (a0 != 179) = false := bne_eq_false_iff_eq.mpr c14
      clear c14
      obtain ⟨y517, hy517⟩ : ∃ y_ : List Int, y_ = (([51] : List Int)) := ⟨_, rfl⟩
      replace H : (some y517) = some r := zY hy517 H
      have Ny517 := aM hy517
      clear hy517
      obtain rfl := sI H
      go_enter Try.func77, Try.ntmps77
      go_wp2_with (first | ((with_reducible refine gate_dst (N := 18) rfl ?_); refine Kd.R_lit (Kd.int .i32) _ 21 ?hg (N := 18) ?hd (xs := ([51] : List Int)) (inner := [.int .i32 51]) (ok := fun _ => True) (okp := fun _ => True) ?hr ?hp (fun _ hk => hk) trivial (Below.refl _ _) (Nat.le_refl _) (by simp) ?_; (case hd => rfl); (case hg => rfl); (case hr => first | (go_simp; done) | (go_simp; rfl)); (case hp => exact (Reps.one (show Kd.M (Kd.int .i32) _ _ _ 51 [.int .i32 51] from rfl) (Reps.none _ _))); intro v518 w15 ho16 hb hg_ hnew_; clear hg_ hnew_; (first | rw [← Ny517.out] at ho16 | (simp only [Int.reduceToNat] at ho16; rw [← Ny517.out] at ho16)); have n_ := zI (aM (Kd.R_lower ho16 (below_size zB))) (aM (below_step zB hb)); clear HB; obtain ⟨HO519, HB⟩ := n_; clear hb ho16))
      go_ret
      exact ⟨_, zE, zR HO519, zB⟩
     ·rw [if_neg c14] at H
      have c14b0 : (a0 == 179) = false := beq_eq_false_iff_ne.mpr c14
      have c14b1 : (a0 != 179) = true := bne_iff_ne.mpr c14
      by_cases c17 : a0 = 180
      ·rw [if_pos c17] at H
       have c17b0 : (a0 == 180) = true := beq_iff_eq.mpr c17
       have c17b1 : (a0 != 180) = false := bne_eq_false_iff_eq.mpr c17
       clear c17
       obtain ⟨y520, hy520⟩ : ∃ y_ : List Int, y_ = (([32, 769] : List Int)) := ⟨_, rfl⟩
       replace H : (some y520) = some r := zY hy520 H
       have Ny520 := aM hy520
       clear hy520
       obtain rfl := sI H
       go_enter Try.func77, Try.ntmps77
       go_wp2_with (first | ((with_reducible refine gate_dst (N := 21) rfl ?_); refine Kd.R_lit (Kd.int .i32) _ 21 ?hg (N := 21) ?hd (xs := ([32, 769] : List Int)) (inner := [.int .i32 32, .int .i32 769]) (ok := fun _ => True) (okp := fun _ => True) ?hr ?hp (fun _ hk => hk) trivial (Below.refl _ _) (Nat.le_refl _) (by simp) ?_; (case hd => rfl); (case hg => rfl); (case hr => first | (go_simp; done) | (go_simp; rfl)); (case hp => exact (Reps.one (show Kd.M (Kd.int .i32) _ _ _ 32 [.int .i32 32] from rfl) (Reps.one (show Kd.M (Kd.int .i32) _ _ _ 769 [.int .i32 769] from rfl) (Reps.none _ _)))); intro v521 w18 ho19 hb hg_ hnew_; clear hg_ hnew_; (first | rw [← Ny520.out] at ho19 | (simp only [Int.reduceToNat] at ho19; rw [← Ny520.out] at ho19)); have n_ := zI (aM (Kd.R_lower ho19 (below_size zB))) (aM (below_step zB hb)); clear HB; obtain ⟨HO522, HB⟩ := n_; clear hb ho19))
       go_ret
       exact ⟨_, zE, zR HO522, zB⟩
      ·rw [if_neg c17] at H
       have c17b0 : (a0 == 180) = false := beq_eq_false_iff_ne.mpr c17
       have c17b1 : (a0 != 180) = true := bne_iff_ne.mpr c17
       by_cases c20 : a0 = 181
       ·rw [if_pos c20] at H
        have c20b0 : (a0 == 181) = true := beq_iff_eq.mpr c20
        have c20b1 : (a0 != 181) = false := bne_eq_false_iff_eq.mpr c20
        clear c20
        obtain ⟨y523, hy523⟩ : ∃ y_ : List Int, y_ = (([956] : List Int)) := ⟨_, rfl⟩
        replace H : (some y523) = some r := zY hy523 H
        have Ny523 := aM hy523
        clear hy523
        obtain rfl := sI H
        go_enter Try.func77, Try.ntmps77
        go_wp2_with (first | ((with_reducible refine gate_dst (N := 24) rfl ?_); refine Kd.R_lit (Kd.int .i32) _ 21 ?hg (N := 24) ?hd (xs := ([956] : List Int)) (inner := [.int .i32 956]) (ok := fun _ => True) (okp := fun _ => True) ?hr ?hp (fun _ hk => hk) trivial (Below.refl _ _) (Nat.le_refl _) (by simp) ?_; (case hd => rfl); (case hg => rfl); (case hr => first | (go_simp; done) | (go_simp; rfl)); (case hp => exact (Reps.one (show Kd.M (Kd.int .i32) _ _ _ 956 [.int .i32 956] from rfl) (Reps.none _ _))); intro v524 w21 ho22 hb hg_ hnew_; clear hg_ hnew_; (first | rw [← Ny523.out] at ho22 | (simp only [Int.reduceToNat] at ho22; rw [← Ny523.out] at ho22)); have n_ := zI (aM (Kd.R_lower ho22 (below_size zB))) (aM (below_step zB hb)); clear HB; obtain ⟨HO525, HB⟩ := n_; clear hb ho22))
        go_ret
        exact ⟨_, zE, zR HO525, zB⟩
       ·rw [if_neg c20] at H
        have c20b0 : (a0 == 181) = false := beq_eq_false_iff_ne.mpr c20
        have c20b1 : (a0 != 181) = true := bne_iff_ne.mpr c20
        by_cases c23 : a0 = 184
        ·rw [if_pos c23] at H
         have c23b0 : (a0 == 184) = true := beq_iff_eq.mpr c23
         have c23b1 : (a0 != 184) = false := bne_eq_false_iff_eq.mpr c23
         clear c23
         obtain ⟨y526, hy526⟩ : ∃ y_ : List Int, y_ = (([32, 807] : List Int)) := ⟨_, rfl⟩
         replace H : (some y526) = some r := zY hy526 H
         have Ny526 := aM hy526
         clear hy526
         obtain rfl := sI H
         go_enter Try.func77, Try.ntmps77
         go_wp2_with (first | ((with_reducible refine gate_dst (N := 27) rfl ?_); refine Kd.R_lit (Kd.int .i32) _ 21 ?hg (N := 27) ?hd (xs := ([32, 807] : List Int)) (inner := [.int .i32 32, .int .i32 807]) (ok := fun _ => True) (okp := fun _ => True) ?hr ?hp (fun _ hk => hk) trivial (Below.refl _ _) (Nat.le_refl _) (by simp) ?_; (case hd => rfl); (case hg => rfl); (case hr => first | (go_simp; done) | (go_simp; rfl)); (case hp => exact (Reps.one (show Kd.M (Kd.int .i32) _ _ _ 32 [.int .i32 32] from rfl) (Reps.one (show Kd.M (Kd.int .i32) _ _ _ 807 [.int .i32 807] from rfl) (Reps.none _ _)))); intro v527 w24 ho25 hb hg_ hnew_; clear hg_ hnew_; (first | rw [← Ny526.out] at ho25 | (simp only [Int.reduceToNat] at ho25; rw [← Ny526.out] at ho25)); have n_ := zI (aM (Kd.R_lower ho25 (below_size zB))) (aM (below_step zB hb)); clear HB; obtain ⟨HO528, HB⟩ := n_; clear hb ho25))
         go_ret
         exact ⟨_, zE, zR HO528, zB⟩
        ·rw [if_neg c23] at H
         have c23b0 : (a0 == 184) = false := beq_eq_false_iff_ne.mpr c23
         have c23b1 : (a0 != 184) = true := bne_iff_ne.mpr c23
         by_cases c26 : a0 = 185
         ·rw [if_pos c26] at H
          have c26b0 : (a0 == 185) = true := beq_iff_eq.mpr c26
          have c26b1 : (a0 != 185) = false := bne_eq_false_iff_eq.mpr c26
          clear c26
          obtain ⟨y529, hy529⟩ : ∃ y_ : List Int, y_ = (([49] : List Int)) := ⟨_, rfl⟩
          replace H : (some y529) = some r := zY hy529 H
          have Ny529 := aM hy529
          clear hy529
          obtain rfl := sI H
          go_enter Try.func77, Try.ntmps77
          go_wp2_with (first | ((with_reducible refine gate_dst (N := 30) rfl ?_); refine Kd.R_lit (Kd.int .i32) _ 21 ?hg (N := 30) ?hd (xs := ([49] : List Int)) (inner := [.int .i32 49]) (ok := fun _ => True) (okp := fun _ => True) ?hr ?hp (fun _ hk => hk) trivial (Below.refl _ _) (Nat.le_refl _) (by simp) ?_; (case hd => rfl); (case hg => rfl); (case hr => first | (go_simp; done) | (go_simp; rfl)); (case hp => exact (Reps.one (show Kd.M (Kd.int .i32) _ _ _ 49 [.int .i32 49] from rfl) (Reps.none _ _))); intro v530 w27 ho28 hb hg_ hnew_; clear hg_ hnew_; (first | rw [← Ny529.out] at ho28 | (simp only [Int.reduceToNat] at ho28; rw [← Ny529.out] at ho28)); have n_ := zI (aM (Kd.R_lower ho28 (below_size zB))) (aM (below_step zB hb)); clear HB; obtain ⟨HO531, HB⟩ := n_; clear hb ho28))
          go_ret
          exact ⟨_, zE, zR HO531, zB⟩
         ·rw [if_neg c26] at H
          have c26b0 : (a0 == 185) = false := beq_eq_false_iff_ne.mpr c26
          have c26b1 : (a0 != 185) = true := bne_iff_ne.mpr c26
          by_cases c29 : a0 = 186
          ·rw [if_pos c29] at H
           have c29b0 : (a0 == 186) = true := beq_iff_eq.mpr c29
           have c29b1 : (a0 != 186) = false := bne_eq_false_iff_eq.mpr c29
           clear c29
           obtain ⟨y532, hy532⟩ : ∃ y_ : List Int, y_ = (([111] : List Int)) := ⟨_, rfl⟩
           replace H : (some y532) = some r := zY hy532 H
           have Ny532 := aM hy532
           clear hy532
           obtain rfl := sI H
           go_enter Try.func77, Try.ntmps77
           go_wp2_with (first | ((with_reducible refine gate_dst (N := 33) rfl ?_); refine Kd.R_lit (Kd.int .i32) _ 21 ?hg (N := 33) ?hd (xs := ([111] : List Int)) (inner := [.int .i32 111]) (ok := fun _ => True) (okp := fun _ => True) ?hr ?hp (fun _ hk => hk) trivial (Below.refl _ _) (Nat.le_refl _) (by simp) ?_; (case hd => rfl); (case hg => rfl); (case hr => first | (go_simp; done) | (go_simp; rfl)); (case hp => exact (Reps.one (show Kd.M (Kd.int .i32) _ _ _ 111 [.int .i32 111] from rfl) (Reps.none _ _))); intro v533 w30 ho31 hb hg_ hnew_; clear hg_ hnew_; (first | rw [← Ny532.out] at ho31 | (simp only [Int.reduceToNat] at ho31; rw [← Ny532.out] at ho31)); have n_ := zI (aM (Kd.R_lower ho31 (below_size zB))) (aM (below_step zB hb)); clear HB; obtain ⟨HO534, HB⟩ := n_; clear hb ho31))
           go_ret
           exact ⟨_, zE, zR HO534, zB⟩
          ·rw [if_neg c29] at H
           have c29b0 : (a0 == 186) = false := beq_eq_false_iff_ne.mpr c29
           have c29b1 : (a0 != 186) = true := bne_iff_ne.mpr c29
           by_cases c32 : a0 = 188
           ·rw [if_pos c32] at H
            have c32b0 : (a0 == 188) = true := beq_iff_eq.mpr c32
            have c32b1 : (a0 != 188) = false := bne_eq_false_iff_eq.mpr c32
            clear c32
            obtain ⟨y535, hy535⟩ : ∃ y_ : List Int, y_ = (([49, 8260, 52] : List Int)) := ⟨_, rfl⟩
            replace H : (some y535) = some r := zY hy535 H
            have Ny535 := aM hy535
            clear hy535
            obtain rfl := sI H
            go_enter Try.func77, Try.ntmps77
            go_wp2_with (first | ((with_reducible refine gate_dst (N := 36) rfl ?_); refine Kd.R_lit (Kd.int .i32) _ 21 ?hg (N := 36) ?hd (xs := ([49, 8260, 52] : List Int)) (inner := [.int .i32 49, .int .i32 8260, .int .i32 52]) (ok := fun _ => True) (okp := fun _ => True) ?hr ?hp (fun _ hk => hk) trivial (Below.refl _ _) (Nat.le_refl _) (by simp) ?_; (case hd => rfl); (case hg => rfl); (case hr => first | (go_simp; done) | (go_simp; rfl)); (case hp => exact (Reps.one (show Kd.M (Kd.int .i32) _ _ _ 49 [.int .i32 49] from rfl) (Reps.one (show Kd.M (Kd.int .i32) _ _ _ 8260 [.int .i32 8260] from rfl) (Reps.one (show Kd.M (Kd.int .i32) _ _ _ 52 [.int .i32 52] from rfl) (Reps.none _ _))))); intro v536 w33 ho34 hb hg_ hnew_; clear hg_ hnew_; (first | rw [← Ny535.out] at ho34 | (simp only [Int.reduceToNat] at ho34; rw [← Ny535.out] at ho34)); have n_ := zI (aM (Kd.R_lower ho34 (below_size zB))) (aM (below_step zB hb)); clear HB; obtain ⟨HO537, HB⟩ := n_; clear hb ho34))
            go_ret
            exact ⟨_, zE, zR HO537, zB⟩
           ·rw [if_neg c32] at H
            have c32b0 : (a0 == 188) = false := beq_eq_false_iff_ne.mpr c32
            have c32b1 : (a0 != 188) = true := bne_iff_ne.mpr c32
            by_cases c35 : a0 = 189
            ·rw [if_pos c35] at H
             have c35b0 : (a0 == 189) = true := beq_iff_eq.mpr c35
             have c35b1 : (a0 != 189) = false := bne_eq_false_iff_eq.mpr c35
             clear c35
             obtain ⟨y538, hy538⟩ : ∃ y_ : List Int, y_ = (([49, 8260, 50] : List Int)) := ⟨_, rfl⟩
             replace H : (some y538) = some r := zY hy538 H
             have Ny538 := aM hy538
             clear hy538
             obtain rfl := sI H
             go_enter Try.func77, Try.ntmps77
             go_wp2_with (first | ((with_reducible refine gate_dst (N := 39) rfl ?_); refine Kd.R_lit (Kd.int .i32) _ 21 ?hg (N := 39) ?hd (xs := ([49, 8260, 50] : List Int)) (inner := [.int .i32 49, .int .i32 8260, .int .i32 50]) (ok := fun _ => True) (okp := fun _ => True) ?hr ?hp (fun _ hk => hk) trivial (Below.refl _ _) (Nat.le_refl _) (by simp) ?_; (case hd => rfl); (case hg => rfl); (case hr => first | (go_simp; done) | (go_simp; rfl)); (case hp => exact (Reps.one (show Kd.M (Kd.int .i32) _ _ _ 49 [.int .i32 49] from rfl) (Reps.one (show Kd.M (Kd.int .i32) _ _ _ 8260 [.int .i32 8260] from rfl) (Reps.one (show Kd.M (Kd.int .i32) _ _ _ 50 [.int .i32 50] from rfl) (Reps.none _ _))))); intro v539 w36 ho37 hb hg_ hnew_; clear hg_ hnew_; (first | rw [← Ny538.out] at ho37 | (simp only [Int.reduceToNat] at ho37; rw [← Ny538.out] at ho37)); have n_ := zI (aM (Kd.R_lower ho37 (below_size zB))) (aM (below_step zB hb)); clear HB; obtain ⟨HO540, HB⟩ := n_; clear hb ho37))
             go_ret
             exact ⟨_, zE, zR HO540, zB⟩
            ·rw [if_neg c35] at H
             have c35b0 : (a0 == 189) = false := beq_eq_false_iff_ne.mpr c35
             have c35b1 : (a0 != 189) = true := bne_iff_ne.mpr c35
             by_cases c38 : a0 = 190
             ·rw [if_pos c38] at H
              have c38b0 : (a0 == 190) = true := beq_iff_eq.mpr c38
              have c38b1 : (a0 != 190) = false := bne_eq_false_iff_eq.mpr c38
              clear c38
              obtain ⟨y541, hy541⟩ : ∃ y_ : List Int, y_ = (([51, 8260, 52] : List Int)) := ⟨_, rfl⟩
              replace H : (some y541) = some r := zY hy541 H
              have Ny541 := aM hy541
              clear hy541
              obtain rfl := sI H
              go_enter Try.func77, Try.ntmps77
              go_wp2_with (first | ((with_reducible refine gate_dst (N := 42) rfl ?_); refine Kd.R_lit (Kd.int .i32) _ 21 ?hg (N := 42) ?hd (xs := ([51, 8260, 52] : List Int)) (inner := [.int .i32 51, .int .i32 8260, .int .i32 52]) (ok := fun _ => True) (okp := fun _ => True) ?hr ?hp (fun _ hk => hk) trivial (Below.refl _ _) (Nat.le_refl _) (by simp) ?_; (case hd => rfl); (case hg => rfl); (case hr => first | (go_simp; done) | (go_simp; rfl)); (case hp => exact (Reps.one (show Kd.M (Kd.int .i32) _ _ _ 51 [.int .i32 51] from rfl) (Reps.one (show Kd.M (Kd.int .i32) _ _ _ 8260 [.int .i32 8260] from rfl) (Reps.one (show Kd.M (Kd.int .i32) _ _ _ 52 [.int .i32 52] from rfl) (Reps.none _ _))))); intro v542 w39 ho40 hb hg_ hnew_; clear hg_ hnew_; (first | rw [← Ny541.out] at ho40 | (simp only [Int.reduceToNat] at ho40; rw [← Ny541.out] at ho40)); have n_ := zI (aM (Kd.R_lower ho40 (below_size zB))) (aM (below_step zB hb)); clear HB; obtain ⟨HO543, HB⟩ := n_; clear hb ho40))
              go_ret
              exact ⟨_, zE, zR HO543, zB⟩
             ·rw [if_neg c38] at H
              have c38b0 : (a0 == 190) = false := beq_eq_false_iff_ne.mpr c38
              have c38b1 : (a0 != 190) = true := bne_iff_ne.mpr c38
              by_cases c41 : a0 = 306
              ·rw [if_pos c41] at H
               have c41b0 : (a0 == 306) = true := beq_iff_eq.mpr c41
               have c41b1 : (a0 != 306) = false := bne_eq_false_iff_eq.mpr c41
               clear c41
               obtain ⟨y544, hy544⟩ : ∃ y_ : List Int, y_ = (([73, 74] : List Int)) := ⟨_, rfl⟩
               replace H : (some y544) = some r := zY hy544 H
               have Ny544 := aM hy544
               clear hy544
               obtain rfl := sI H
               go_enter Try.func77, Try.ntmps77
               go_wp2_with (first | ((with_reducible refine gate_dst (N := 45) rfl ?_); refine Kd.R_lit (Kd.int .i32) _ 21 ?hg (N := 45) ?hd (xs := ([73, 74] : List Int)) (inner := [.int .i32 73, .int .i32 74]) (ok := fun _ => True) (okp := fun _ => True) ?hr ?hp (fun _ hk => hk) trivial (Below.refl _ _) (Nat.le_refl _) (by simp) ?_; (case hd => rfl); (case hg => rfl); (case hr => first | (go_simp; done) | (go_simp; rfl)); (case hp => exact (Reps.one (show Kd.M (Kd.int .i32) _ _ _ 73 [.int .i32 73] from rfl) (Reps.one (show Kd.M (Kd.int .i32) _ _ _ 74 [.int .i32 74] from rfl) (Reps.none _ _)))); intro v545 w42 ho43 hb hg_ hnew_; clear hg_ hnew_; (first | rw [← Ny544.out] at ho43 | (simp only [Int.reduceToNat] at ho43; rw [← Ny544.out] at ho43)); have n_ := zI (aM (Kd.R_lower ho43 (below_size zB))) (aM (below_step zB hb)); clear HB; obtain ⟨HO546, HB⟩ := n_; clear hb ho43))
               go_ret
               exact ⟨_, zE, zR HO546, zB⟩
              ·rw [if_neg c41] at H
               have c41b0 : (a0 == 306) = false := beq_eq_false_iff_ne.mpr c41
               have c41b1 : (a0 != 306) = true := bne_iff_ne.mpr c41
               by_cases c44 : a0 = 307
               ·rw [if_pos c44] at H
                have c44b0 : (a0 == 307) = true := beq_iff_eq.mpr c44
                have c44b1 : (a0 != 307) = false := bne_eq_false_iff_eq.mpr c44
                clear c44
                obtain ⟨y547, hy547⟩ : ∃ y_ : List Int, y_ = (([105, 106] : List Int)) := ⟨_, rfl⟩
                replace H : (some y547) = some r := zY hy547 H
                have Ny547 := aM hy547
                clear hy547
                obtain rfl := sI H
                go_enter Try.func77, Try.ntmps77
                go_wp2_with (first | ((with_reducible refine gate_dst (N := 48) rfl ?_); refine Kd.R_lit (Kd.int .i32) _ 21 ?hg (N := 48) ?hd (xs := ([105, 106] : List Int)) (inner := [.int .i32 105, .int .i32 106]) (ok := fun _ => True) (okp := fun _ => True) ?hr ?hp (fun _ hk => hk) trivial (Below.refl _ _) (Nat.le_refl _) (by simp) ?_; (case hd => rfl); (case hg => rfl); (case hr => first | (go_simp; done) | (go_simp; rfl)); (case hp => exact (Reps.one (show Kd.M (Kd.int .i32) _ _ _ 105 [.int .i32 105] from rfl) (Reps.one (show Kd.M (Kd.int .i32) _ _ _ 106 [.int .i32 106] from rfl) (Reps.none _ _)))); intro v548 w45 ho46 hb hg_ hnew_; clear hg_ hnew_; (first | rw [← Ny547.out] at ho46 | (simp only [Int.reduceToNat] at ho46; rw [← Ny547.out] at ho46)); have n_ := zI (aM (Kd.R_lower ho46 (below_size zB))) (aM (below_step zB hb)); clear HB; obtain ⟨HO549, HB⟩ := n_; clear hb ho46))
                go_ret
                exact ⟨_, zE, zR HO549, zB⟩
               ·rw [if_neg c44] at H
                have c44b0 : (a0 == 307) = false := beq_eq_false_iff_ne.mpr c44
                have c44b1 : (a0 != 307) = true := bne_iff_ne.mpr c44
                by_cases c47 : a0 = 319
                ·rw [if_pos c47] at H
                 have c47b0 : (a0 == 319) = true := beq_iff_eq.mpr c47
                 have c47b1 : (a0 != 319) = false := bne_eq_false_iff_eq.mpr c47
                 clear c47
                 obtain ⟨y550, hy550⟩ : ∃ y_ : List Int, y_ = (([76, 183] : List Int)) := ⟨_, rfl⟩
                 replace H : (some y550) = some r := zY hy550 H
                 have Ny550 := aM hy550
                 clear hy550
                 obtain rfl := sI H
                 go_enter Try.func77, Try.ntmps77
                 go_wp2_with (first | ((with_reducible refine gate_dst (N := 51) rfl ?_); refine Kd.R_lit (Kd.int .i32) _ 21 ?hg (N := 51) ?hd (xs := ([76, 183] : List Int)) (inner := [.int .i32 76, .int .i32 183]) (ok := fun _ => True) (okp := fun _ => True) ?hr ?hp (fun _ hk => hk) trivial (Below.refl _ _) (Nat.le_refl _) (by simp) ?_; (case hd => rfl); (case hg => rfl); (case hr => first | (go_simp; done) | (go_simp; rfl)); (case hp => exact (Reps.one (show Kd.M (Kd.int .i32) _ _ _ 76 [.int .i32 76] from rfl) (Reps.one (show Kd.M (Kd.int .i32) _ _ _ 183 [.int .i32 183] from rfl) (Reps.none _ _)))); intro v551 w48 ho49 hb hg_ hnew_; clear hg_ hnew_; (first | rw [← Ny550.out] at ho49 | (simp only [Int.reduceToNat] at ho49; rw [← Ny550.out] at ho49)); have n_ := zI (aM (Kd.R_lower ho49 (below_size zB))) (aM (below_step zB hb)); clear HB; obtain ⟨HO552, HB⟩ := n_; clear hb ho49))
                 go_ret
                 exact ⟨_, zE, zR HO552, zB⟩
                ·rw [if_neg c47] at H
                 have c47b0 : (a0 == 319) = false := beq_eq_false_iff_ne.mpr c47
                 have c47b1 : (a0 != 319) = true := bne_iff_ne.mpr c47
                 by_cases c50 : a0 = 320
                 ·rw [if_pos c50] at H
                  have c50b0 : (a0 == 320) = true := beq_iff_eq.mpr c50
                  have c50b1 : (a0 != 320) = false := bne_eq_false_iff_eq.mpr c50
                  clear c50
                  obtain ⟨y553, hy553⟩ : ∃ y_ : List Int, y_ = (([108, 183] : List Int)) := ⟨_, rfl⟩
                  replace H : (some y553) = some r := zY hy553 H
                  have Ny553 := aM hy553
                  clear hy553
                  obtain rfl := sI H
                  go_enter Try.func77, Try.ntmps77
                  go_wp2_with (first | ((with_reducible refine gate_dst (N := 54) rfl ?_); refine Kd.R_lit (Kd.int .i32) _ 21 ?hg (N := 54) ?hd (xs := ([108, 183] : List Int)) (inner := [.int .i32 108, .int .i32 183]) (ok := fun _ => True) (okp := fun _ => True) ?hr ?hp (fun _ hk => hk) trivial (Below.refl _ _) (Nat.le_refl _) (by simp) ?_; (case hd => rfl); (case hg => rfl); (case hr => first | (go_simp; done) | (go_simp; rfl)); (case hp => exact (Reps.one (show Kd.M (Kd.int .i32) _ _ _ 108 [.int .i32 108] from rfl) (Reps.one (show Kd.M (Kd.int .i32) _ _ _ 183 [.int .i32 183] from rfl) (Reps.none _ _)))); intro v554 w51 ho52 hb hg_ hnew_; clear hg_ hnew_; (first | rw [← Ny553.out] at ho52 | (simp only [Int.reduceToNat] at ho52; rw [← Ny553.out] at ho52)); have n_ := zI (aM (Kd.R_lower ho52 (below_size zB))) (aM (below_step zB hb)); clear HB; obtain ⟨HO555, HB⟩ := n_; clear hb ho52))
                  go_ret
                  exact ⟨_, zE, zR HO555, zB⟩
                 ·rw [if_neg c50] at H
                  have c50b0 : (a0 == 320) = false := beq_eq_false_iff_ne.mpr c50
                  have c50b1 : (a0 != 320) = true := bne_iff_ne.mpr c50
                  by_cases c53 : a0 = 329
                  ·rw [if_pos c53] at H
                   have c53b0 : (a0 == 329) = true := beq_iff_eq.mpr c53
                   have c53b1 : (a0 != 329) = false := bne_eq_false_iff_eq.mpr c53
                   clear c53
                   obtain ⟨y556, hy556⟩ : ∃ y_ : List Int, y_ = (([700, 110] : List Int)) := ⟨_, rfl⟩
                   replace H : (some y556) = some r := zY hy556 H
                   have Ny556 := aM hy556
                   clear hy556
                   obtain rfl := sI H
                   go_enter Try.func77, Try.ntmps77
                   go_wp2_with (first | ((with_reducible refine gate_dst (N := 57) rfl ?_); refine Kd.R_lit (Kd.int .i32) _ 21 ?hg (N := 57) ?hd (xs := ([700, 110] : List Int)) (inner := [.int .i32 700, .int .i32 110]) (ok := fun _ => True) (okp := fun _ => True) ?hr ?hp (fun _ hk => hk) trivial (Below.refl _ _) (Nat.le_refl _) (by simp) ?_; (case hd => rfl); (case hg => rfl); (case hr => first | (go_simp; done) | (go_simp; rfl)); (case hp => exact (Reps.one (show Kd.M (Kd.int .i32) _ _ _ 700 [.int .i32 700] from rfl) (Reps.one (show Kd.M (Kd.int .i32) _ _ _ 110 [.int .i32 110] from rfl) (Reps.none _ _)))); intro v557 w54 ho55 hb hg_ hnew_; clear hg_ hnew_; (first | rw [← Ny556.out] at ho55 | (simp only [Int.reduceToNat] at ho55; rw [← Ny556.out] at ho55)); have n_ := zI (aM (Kd.R_lower ho55 (below_size zB))) (aM (below_step zB hb)); clear HB; obtain ⟨HO558, HB⟩ := n_; clear hb ho55))
                   go_ret
                   exact ⟨_, zE, zR HO558, zB⟩
                  ·rw [if_neg c53] at H
                   have c53b0 : (a0 == 329) = false := beq_eq_false_iff_ne.mpr c53
                   have c53b1 : (a0 != 329) = true := bne_iff_ne.mpr c53
                   by_cases c56 : a0 = 383
                   ·rw [if_pos c56] at H
                    have c56b0 : (a0 == 383) = true := beq_iff_eq.mpr c56
                    have c56b1 : (a0 != 383) = false := bne_eq_false_iff_eq.mpr c56
                    clear c56
                    obtain ⟨y559, hy559⟩ : ∃ y_ : List Int, y_ = (([115] : List Int)) := ⟨_, rfl⟩
                    replace H : (some y559) = some r := zY hy559 H
                    have Ny559 := aM hy559
                    clear hy559
                    obtain rfl := sI H
                    go_enter Try.func77, Try.ntmps77
                    go_wp2_with (first | ((with_reducible refine gate_dst (N := 60) rfl ?_); refine Kd.R_lit (Kd.int .i32) _ 21 ?hg (N := 60) ?hd (xs := ([115] : List Int)) (inner := [.int .i32 115]) (ok := fun _ => True) (okp := fun _ => True) ?hr ?hp (fun _ hk => hk) trivial (Below.refl _ _) (Nat.le_refl _) (by simp) ?_; (case hd => rfl); (case hg => rfl); (case hr => first | (go_simp; done) | (go_simp; rfl)); (case hp => exact (Reps.one (show Kd.M (Kd.int .i32) _ _ _ 115 [.int .i32 115] from rfl) (Reps.none _ _))); intro v560 w57 ho58 hb hg_ hnew_; clear hg_ hnew_; (first | rw [← Ny559.out] at ho58 | (simp only [Int.reduceToNat] at ho58; rw [← Ny559.out] at ho58)); have n_ := zI (aM (Kd.R_lower ho58 (below_size zB))) (aM (below_step zB hb)); clear HB; obtain ⟨HO561, HB⟩ := n_; clear hb ho58))
                    go_ret
                    exact ⟨_, zE, zR HO561, zB⟩
                   ·rw [if_neg c56] at H
                    have c56b0 : (a0 == 383) = false := beq_eq_false_iff_ne.mpr c56
                    have c56b1 : (a0 != 383) = true := bne_iff_ne.mpr c56
                    obtain ⟨t562, A59, H⟩ := zO H
                    obtain rfl := sI H
                    go_enter Try.func77, Try.ntmps77
                    go_wp2_with (first | ((with_reducible refine gate_callee (f := 87) rfl ?_); refine goesL_ (some 62) rfl rfl Try.func87 zK rfl #[.int .i64 a0] rfl zM ?_; (with_reducible refine (toponymref05_ligature.calls a0 t562 _ A59.out).mono ?_); rintro e w60 ⟨v563, rfl, ho0, hb⟩; refine ⟨_, rfl, ?_⟩; have n_ := zI (aM (Kd.R_lower ho0 (below_size zB))) (aM (below_step zB hb)); clear HB; obtain ⟨HO564, HB⟩ := n_; (try clear hb); (try clear ho0)))
                    go_ret
                    exact ⟨_, zE, zR HO564, zB⟩

/-! ### toponymref05_Loose: function 61 -/
mutual
def toponymref05_Loose.j0 : Nat → Int → Int → Bool → Option (List Int)
 | 0, _, _, _ => none
 | k + 1, x0, x3, x6 => if x6 = true then (some (([32] : List Int))) else (if x3 = 8209 then (some (([8208] : List Int))) else (if x3 = 8304 then (toponymref05_Loose.j1 k x0 x3 true) else (if x3 ≥ 8308 then (toponymref05_Loose.j1 k x0 x3 (decide (x3 ≤ 8313))) else (toponymref05_Loose.j1 k x0 x3 false))))
def toponymref05_Loose.j1 : Nat → Int → Int → Bool → Option (List Int)
 | 0, _, _, _ => none
 | k + 1, x0, x3, x34 => if x34 = true then (some (([wrap32 (x0 - 8256)] : List Int))) else (if x3 ≥ 8320 then (toponymref05_Loose.j2 k x0 x3 (decide (x3 ≤ 8329))) else (toponymref05_Loose.j2 k x0 x3 false))
def toponymref05_Loose.j2 : Nat → Int → Int → Bool → Option (List Int)
 | 0, _, _, _ => none
 | k + 1, x0, x3, x48 => if x48 = true then (some (([wrap32 (x0 - 8272)] : List Int))) else (if x3 ≥ 8544 then (toponymref05_Loose.j3 k x0 x3 (decide (x3 ≤ 8555))) else (toponymref05_Loose.j3 k x0 x3 false))
def toponymref05_Loose.j3 : Nat → Int → Int → Bool → Option (List Int)
 | 0, _, _, _ => none
 | k + 1, x0, x3, x58 => if x58 = true then ((toponymref05_roman.f k (wrap64 (x3 - 8543)) 73 86 88).bind fun t577 => (some t577)) else (if x3 ≥ 8560 then (toponymref05_Loose.j4 k x0 x3 (decide (x3 ≤ 8571))) else (toponymref05_Loose.j4 k x0 x3 false))
def toponymref05_Loose.j4 : Nat → Int → Int → Bool → Option (List Int)
 | 0, _, _, _ => none
 | k + 1, x0, x3, x68 => if x68 = true then ((toponymref05_roman.f k (wrap64 (x3 - 8559)) 105 118 120).bind fun t580 => (some t580)) else (if x3 ≥ 65281 then (if x3 ≤ 65374 then (some (([wrap32 (x0 - 65248)] : List Int))) else ((toponymref05_few.f x3).bind fun t586 => (some t586))) else ((toponymref05_few.f x3).bind fun t589 => (some t589)))
end
def toponymref05_Loose.f (k : Nat) (a0 : Int) : Option (List Int) := if (wrap64 (a0)) = 160 then (toponymref05_Loose.j0 k a0 (wrap64 (a0)) true) else (if (wrap64 (a0)) ≥ 8194 then (if (wrap64 (a0)) ≤ 8202 then (toponymref05_Loose.j0 k a0 (wrap64 (a0)) true) else (if (wrap64 (a0)) = 8239 then (toponymref05_Loose.j0 k a0 (wrap64 (a0)) true) else (if (wrap64 (a0)) = 8287 then (toponymref05_Loose.j0 k a0 (wrap64 (a0)) true) else (toponymref05_Loose.j0 k a0 (wrap64 (a0)) ((wrap64 (a0)) == 12288))))) else (if (wrap64 (a0)) = 8239 then (toponymref05_Loose.j0 k a0 (wrap64 (a0)) true) else (if (wrap64 (a0)) = 8287 then (toponymref05_Loose.j0 k a0 (wrap64 (a0)) true) else (toponymref05_Loose.j0 k a0 (wrap64 (a0)) ((wrap64 (a0)) == 12288)))))
theorem toponymref05_Loose.mono_l : ∀ k, (∀ y0 y1 y2, LeO (toponymref05_Loose.j0 k y0 y1 y2) (toponymref05_Loose.j0 (k + 1) y0 y1 y2)) ∧ (∀ y0 y1 y2, LeO (toponymref05_Loose.j1 k y0 y1 y2) (toponymref05_Loose.j1 (k + 1) y0 y1 y2)) ∧ (∀ y0 y1 y2, LeO (toponymref05_Loose.j2 k y0 y1 y2) (toponymref05_Loose.j2 (k + 1) y0 y1 y2)) ∧ (∀ y0 y1 y2, LeO (toponymref05_Loose.j3 k y0 y1 y2) (toponymref05_Loose.j3 (k + 1) y0 y1 y2)) ∧ (∀ y0 y1 y2, LeO (toponymref05_Loose.j4 k y0 y1 y2) (toponymref05_Loose.j4 (k + 1) y0 y1 y2))
 | 0 => ⟨fun _ _ _ r h => by simp [toponymref05_Loose.j0] at h, fun _ _ _ r h => by simp [toponymref05_Loose.j1] at h, fun _ _ _ r h => by simp [toponymref05_Loose.j2] at h, fun _ _ _ r h => by simp [toponymref05_Loose.j3] at h, fun _ _ _ r h => by simp [toponymref05_Loose.j4] at h⟩
 | k + 1 => by
  obtain ⟨ih0, ih1, ih2, ih3, ih4⟩ := toponymref05_Loose.mono_l k
  refine ⟨?_, ?_, ?_, ?_, ?_⟩
  ·intro y0 y1 y2
   unfold toponymref05_Loose.j0
   repeat' first
   | (with_reducible exact ih0 _ _ _)
   | (with_reducible exact ih1 _ _ _)
   | (with_reducible exact ih2 _ _ _)
   | (with_reducible exact ih3 _ _ _)
   | (with_reducible exact ih4 _ _ _)
   | (with_reducible exact toponymref05_roman.mono _ _ _ _ _)
   | (with_reducible exact LeO.refl _)
   | exact ih0 _ _ _
   | exact ih1 _ _ _
   | exact ih2 _ _ _
   | exact ih3 _ _ _
   | exact ih4 _ _ _
   | exact toponymref05_roman.mono _ _ _ _ _
   | exact LeO.none _
   | refine LeO.ite ?_ ?_
   | refine LeO.bind ?_ (fun _ => ?_)
  ·intro y0 y1 y2
   unfold toponymref05_Loose.j1
   repeat' first
   | (with_reducible exact ih0 _ _ _)
   | (with_reducible exact ih1 _ _ _)
   | (with_reducible exact ih2 _ _ _)
   | (with_reducible exact ih3 _ _ _)
   | (with_reducible exact ih4 _ _ _)
   | (with_reducible exact toponymref05_roman.mono _ _ _ _ _)
   | (with_reducible exact LeO.refl _)
   | exact ih0 _ _ _
   | exact ih1 _ _ _
   | exact ih2 _ _ _
   | exact ih3 _ _ _
   | exact ih4 _ _ _
   | exact toponymref05_roman.mono _ _ _ _ _
   | exact LeO.none _
   | refine LeO.ite ?_ ?_
   | refine LeO.bind ?_ (fun _ => ?_)
  ·intro y0 y1 y2
   unfold toponymref05_Loose.j2
   repeat' first
   | (with_reducible exact ih0 _ _ _)
   | (with_reducible exact ih1 _ _ _)
   | (with_reducible exact ih2 _ _ _)
   | (with_reducible exact ih3 _ _ _)
   | (with_reducible exact ih4 _ _ _)
   | (with_reducible exact toponymref05_roman.mono _ _ _ _ _)
   | (with_reducible exact LeO.refl _)
   | exact ih0 _ _ _
   | exact ih1 _ _ _
   | exact ih2 _ _ _
   | exact ih3 _ _ _
   | exact ih4 _ _ _
   | exact toponymref05_roman.mono _ _ _ _ _
   | exact LeO.none _
   | refine LeO.ite ?_ ?_
   | refine LeO.bind ?_ (fun _ => ?_)
  ·intro y0 y1 y2
   unfold toponymref05_Loose.j3
   repeat' first
   | (with_reducible exact ih0 _ _ _)
   | (with_reducible exact ih1 _ _ _)
   | (with_reducible exact ih2 _ _ _)
   | (with_reducible exact ih3 _ _ _)
   | (with_reducible exact ih4 _ _ _)
   | (with_reducible exact toponymref05_roman.mono _ _ _ _ _)
   | (with_reducible exact LeO.refl _)
   | exact ih0 _ _ _
   | exact ih1 _ _ _
   | exact ih2 _ _ _
   | exact ih3 _ _ _
   | exact ih4 _ _ _
   | exact toponymref05_roman.mono _ _ _ _ _
   | exact LeO.none _
   | refine LeO.ite ?_ ?_
   | refine LeO.bind ?_ (fun _ => ?_)
  ·intro y0 y1 y2
   unfold toponymref05_Loose.j4
   repeat' first
   | (with_reducible exact ih0 _ _ _)
   | (with_reducible exact ih1 _ _ _)
   | (with_reducible exact ih2 _ _ _)
   | (with_reducible exact ih3 _ _ _)
   | (with_reducible exact ih4 _ _ _)
   | (with_reducible exact toponymref05_roman.mono _ _ _ _ _)
   | (with_reducible exact LeO.refl _)
   | exact ih0 _ _ _
   | exact ih1 _ _ _
   | exact ih2 _ _ _
   | exact ih3 _ _ _
   | exact ih4 _ _ _
   | exact toponymref05_roman.mono _ _ _ _ _
   | exact LeO.none _
   | refine LeO.ite ?_ ?_
   | refine LeO.bind ?_ (fun _ => ?_)
theorem toponymref05_Loose.mono : ∀ a0 k, LeO (toponymref05_Loose.f k a0) (toponymref05_Loose.f (k + 1) a0) := by
 intro a0 k
 obtain ⟨ih0, ih1, ih2, ih3, ih4⟩ := toponymref05_Loose.mono_l k
 unfold toponymref05_Loose.f
 repeat' first
   | (with_reducible exact ih0 _ _ _)
   | (with_reducible exact ih1 _ _ _)
   | (with_reducible exact ih2 _ _ _)
   | (with_reducible exact ih3 _ _ _)
   | (with_reducible exact ih4 _ _ _)
   | (with_reducible exact toponymref05_roman.mono _ _ _ _ _)
   | (with_reducible exact LeO.refl _)
   | exact ih0 _ _ _
   | exact ih1 _ _ _
   | exact ih2 _ _ _
   | exact ih3 _ _ _
   | exact ih4 _ _ _
   | exact toponymref05_roman.mono _ _ _ _ _
   | exact LeO.none _
   | refine LeO.ite ?_ ?_
   | refine LeO.bind ?_ (fun _ => ?_)
set_option maxHeartbeats 8000000 in
set_option maxRecDepth 100000 in
theorem toponymref05_Loose.calls (k : Nat) (a0 : Int) (r : List Int) (w : World) (h : toponymref05_Loose.f k a0 = some r) :
  Calls Try.prog 61 #[.int .i32 a0] w fun e w' => ∃ v0_ : Value, e = .returned (v0_) ∧ Kd.R (Kd.int .i32) 21 w' w.heap.size (fun _ => True) v0_ r ∧ Below w.heap.size w w' := by
 have HB := aM (Below.refl w.heap.size w)
 have H : (if (wrap64 (a0)) = 160 then (toponymref05_Loose.j0 k a0 (wrap64 (a0)) true) else (if (wrap64 (a0)) ≥ 8194 then (if (wrap64 (a0)) ≤ 8202 then (toponymref05_Loose.j0 k a0 (wrap64 (a0)) true) else (if (wrap64 (a0)) = 8239 then (toponymref05_Loose.j0 k a0 (wrap64 (a0)) true) else (if (wrap64 (a0)) = 8287 then (toponymref05_Loose.j0 k a0 (wrap64 (a0)) true) else (toponymref05_Loose.j0 k a0 (wrap64 (a0)) ((wrap64 (a0)) == 12288))))) else (if (wrap64 (a0)) = 8239 then (toponymref05_Loose.j0 k a0 (wrap64 (a0)) true) else (if (wrap64 (a0)) = 8287 then (toponymref05_Loose.j0 k a0 (wrap64 (a0)) true) else (toponymref05_Loose.j0 k a0 (wrap64 (a0)) ((wrap64 (a0)) == 12288)))))) = some r := h
 clear h
 have HC2 := aM H
 clear H
 go_enter Try.func61, Try.ntmps61
 go_upto_region 2 with (fail)
 go_cut [6] (fun v6 wc => ∃ (kq : Nat) (x6_1 : Bool), v6 = .bool x6_1 ∧ Aside0 (toponymref05_Loose.j0 kq a0 (wrap64 (a0)) x6_1 = some r) ∧ Aside0 (kq ≤ k) ∧ Aside0 (Below w.heap.size w wc))
 case first =>
  have H := HC2.out
  clear HC2
  by_cases c3 : (wrap64 (a0)) = 160
  ·rw [if_pos c3] at H
   have c3b0 : ((wrap64 (a0)) == 160) = true := beq_iff_eq.mpr c3
   have c3b1 : ((wrap64 (a0)) != 160) = false := bne_eq_false_iff_eq.mpr c3
   clear c3
   (first | rw [c3b0] | (simp only [i64_w, i32_w]; rw [c3b0]) | skip)
   have H' := aM H
   clear H
   go_wp2
   go_meet
   case rel => exact ⟨_, (true), zP, H', ⟨by first | omega | exact Nat.le_refl _⟩, ⟨zB⟩⟩
  ·rw [if_neg c3] at H
   have c3b0 : ((wrap64 (a0)) == 160) = false := beq_eq_false_iff_ne.mpr c3
   have c3b1 : ((wrap64 (a0)) != 160) = true := bne_iff_ne.mpr c3
   (first | rw [c3b0] | (simp only [i64_w, i32_w]; rw [c3b0]) | skip)
   by_cases c4 : (wrap64 (a0)) ≥ 8194
   ·rw [if_pos c4] at H
    have c4b0 : decide (8194 ≤ (wrap64 (a0))) = true := decide_eq_true c4
    clear c4
    by_cases c5 : (wrap64 (a0)) ≤ 8202
    ·rw [if_pos c5] at H
     have c5b0 : decide ((wrap64 (a0)) ≤ 8202) = true := decide_eq_true c5
     clear c5
     have H' := aM H
     clear H
     go_wp2
     go_meet
     case rel => exact ⟨_, (true), zP, H', ⟨by first | omega | exact Nat.le_refl _⟩, ⟨zB⟩⟩
    ·rw [if_neg c5] at H
     have c5b0 : decide ((wrap64 (a0)) ≤ 8202) = false := decide_eq_false c5
     clear c5
     by_cases c6 : (wrap64 (a0)) = 8239
     ·rw [if_pos c6] at H
      have c6b0 : ((wrap64 (a0)) == 8239) = true := beq_iff_eq.mpr c6
      have c6b1 : ((wrap64 (a0)) != 8239) = false := bne_eq_false_iff_eq.mpr c6
      clear c6
      have H' := aM H
      clear H
      go_wp2
      go_meet
      case rel => exact ⟨_, (true), zP, H', ⟨by first | omega | exact Nat.le_refl _⟩, ⟨zB⟩⟩
     ·rw [if_neg c6] at H
      have c6b0 : ((wrap64 (a0)) == 8239) = false := beq_eq_false_iff_ne.mpr c6
      have c6b1 : ((wrap64 (a0)) != 8239) = true := bne_iff_ne.mpr c6
      by_cases c7 : (wrap64 (a0)) = 8287
      ·rw [if_pos c7] at H
       have c7b0 : ((wrap64 (a0)) == 8287) = true := beq_iff_eq.mpr c7
       have c7b1 : ((wrap64 (a0)) != 8287) = false := bne_eq_false_iff_eq.mpr c7
       clear c7
       have H' := aM H
       clear H
       go_wp2
       go_meet
       case rel => exact ⟨_, (true), zP, H', ⟨by first | omega | exact Nat.le_refl _⟩, ⟨zB⟩⟩
      ·rw [if_neg c7] at H
       have c7b0 : ((wrap64 (a0)) == 8287) = false := beq_eq_false_iff_ne.mpr c7
       have c7b1 : ((wrap64 (a0)) != 8287) = true := bne_iff_ne.mpr c7
       have H' := aM H
       clear H
       go_wp2
       go_meet
       case rel => exact ⟨_, (((wrap64 (a0)) == 12288)), zP, H', ⟨by first | omega | exact Nat.le_refl _⟩, ⟨zB⟩⟩
   ·rw [if_neg c4] at H
    have c4b0 : decide (8194 ≤ (wrap64 (a0))) = false := decide_eq_false c4
    clear c4
    by_cases c8 : (wrap64 (a0)) = 8239
    ·rw [if_pos c8] at H
     have c8b0 : ((wrap64 (a0)) == 8239) = true := beq_iff_eq.mpr c8
     have c8b1 : ((wrap64 (a0)) != 8239) = false := bne_eq_false_iff_eq.mpr c8
     clear c8
     have H' := aM H
     clear H
     go_wp2
     go_meet
     case rel => exact ⟨_, (true), zP, H', ⟨by first | omega | exact Nat.le_refl _⟩, ⟨zB⟩⟩
    ·rw [if_neg c8] at H
     have c8b0 : ((wrap64 (a0)) == 8239) = false := beq_eq_false_iff_ne.mpr c8
     have c8b1 : ((wrap64 (a0)) != 8239) = true := bne_iff_ne.mpr c8
     by_cases c9 : (wrap64 (a0)) = 8287
     ·rw [if_pos c9] at H
      have c9b0 : ((wrap64 (a0)) == 8287) = true := beq_iff_eq.mpr c9
      have c9b1 : ((wrap64 (a0)) != 8287) = false := bne_eq_false_iff_eq.mpr c9
      clear c9
      have H' := aM H
      clear H
      go_wp2
      go_meet
      case rel => exact ⟨_, (true), zP, H', ⟨by first | omega | exact Nat.le_refl _⟩, ⟨zB⟩⟩
     ·rw [if_neg c9] at H
      have c9b0 : ((wrap64 (a0)) == 8287) = false := beq_eq_false_iff_ne.mpr c9
      have c9b1 : ((wrap64 (a0)) != 8287) = true := bne_iff_ne.mpr c9
      have H' := aM H
      clear H
      go_wp2
      go_meet
      case rel => exact ⟨_, (((wrap64 (a0)) == 12288)), zP, H', ⟨by first | omega | exact Nat.le_refl _⟩, ⟨zB⟩⟩
 case rest =>
  clear HC2
  try clear p2
  try clear c3
  try clear c3b0
  try clear c3b1
  try clear c4
  try clear c4b0
  try clear c5
  try clear c5b0
  try clear c6
  try clear c6b0
  try clear c6b1
  try clear p6
  try clear c7
  try clear c7b0
  try clear c7b1
  try clear c8
  try clear c8b0
  try clear c8b1
  try clear c9
  try clear c9b0
  try clear c9b1
  obtain ⟨kq, x6_1, rfl, HA, HJ1, HB⟩ := hcut
  cases kq with
  | zero => exact absurd HA.out (by simp [toponymref05_Loose.j0])
  | succ kj1 =>
   have H := HA.out
   clear HA
   simp only [toponymref05_Loose.j0] at H
   by_cases c10 : x6_1 = true
   ·subst c10
    rw [if_pos rfl] at H
    obtain ⟨y565, hy565⟩ : ∃ y_ : List Int, y_ = (([32] : List Int)) := ⟨_, rfl⟩
    replace H : (some y565) = some r := zY hy565 H
    have Ny565 := aM hy565
    clear hy565
    obtain rfl := sI H
    go_wp2_with (first | ((with_reducible refine gate_dst (N := 29) rfl ?_); refine Kd.R_lit (Kd.int .i32) _ 21 ?hg (N := 29) ?hd (xs := ([32] : List Int)) (inner := [.int .i32 32]) (ok := fun _ => True) (okp := fun _ => True) ?hr ?hp (fun _ hk => hk) trivial (Below.refl _ _) (Nat.le_refl _) (by simp) ?_; (case hd => rfl); (case hg => rfl); (case hr => first | (go_simp; done) | (go_simp; rfl)); (case hp => exact (Reps.one (show Kd.M (Kd.int .i32) _ _ _ 32 [.int .i32 32] from rfl) (Reps.none _ _))); intro v566 w11 ho12 hb hg_ hnew_; clear hg_ hnew_; (first | rw [← Ny565.out] at ho12 | (simp only [Int.reduceToNat] at ho12; rw [← Ny565.out] at ho12)); have n_ := zI (aM (Kd.R_lower ho12 (below_size zB))) (aM (below_step zB hb)); clear HB; obtain ⟨HO567, HB⟩ := n_; clear hb ho12))
    go_ret
    exact ⟨_, zE, zR HO567, zB⟩
   ·replace c10 := Bool.eq_false_iff.mpr c10
    subst c10
    rw [if_neg (show ¬ (false = true) by decide)] at H
    by_cases c13 : (wrap64 (a0)) = 8209
    ·rw [if_pos c13] at H
     have c13b0 : ((wrap64 (a0)) == 8209) = true := beq_iff_eq.mpr c13
     have c13b1 : ((wrap64 (a0)) != 8209) = false := bne_eq_false_iff_eq.mpr c13
     clear c13
     obtain ⟨y568, hy568⟩ : ∃ y_ : List Int, y_ = (([8208] : List Int)) := ⟨_, rfl⟩
     replace H : (some y568) = some r := zY hy568 H
     have Ny568 := aM hy568
     clear hy568
     obtain rfl := sI H
     go_wp2_with (first | ((with_reducible refine gate_dst (N := 33) rfl ?_); refine Kd.R_lit (Kd.int .i32) _ 21 ?hg (N := 33) ?hd (xs := ([8208] : List Int)) (inner := [.int .i32 8208]) (ok := fun _ => True) (okp := fun _ => True) ?hr ?hp (fun _ hk => hk) trivial (Below.refl _ _) (Nat.le_refl _) (by simp) ?_; (case hd => rfl); (case hg => rfl); (case hr => first | (go_simp; done) | (go_simp; rfl)); (case hp => exact (Reps.one (show Kd.M (Kd.int .i32) _ _ _ 8208 [.int .i32 8208] from rfl) (Reps.none _ _))); intro v569 w14 ho15 hb hg_ hnew_; clear hg_ hnew_; (first | rw [← Ny568.out] at ho15 | (simp only [Int.reduceToNat] at ho15; rw [← Ny568.out] at ho15)); have n_ := zI (aM (Kd.R_lower ho15 (below_size zB))) (aM (below_step zB hb)); clear HB; obtain ⟨HO570, HB⟩ := n_; clear hb ho15))
     go_ret
     exact ⟨_, zE, zR HO570, zB⟩
    ·rw [if_neg c13] at H
     have c13b0 : ((wrap64 (a0)) == 8209) = false := beq_eq_false_iff_ne.mpr c13
     have c13b1 : ((wrap64 (a0)) != 8209) = true := bne_iff_ne.mpr c13
     have HC16 := aM H
     clear H
     go_upto_region 6 with (fail)
     go_cut [34] (fun v34 wc => ∃ (kq : Nat) (x34_15 : Bool), v34 = .bool x34_15 ∧ Aside0 (toponymref05_Loose.j1 kq a0 (wrap64 (a0)) x34_15 = some r) ∧ Aside0 (kq ≤ kj1) ∧ Aside0 (Below w.heap.size w wc))
     case first =>
      have H := HC16.out
      clear HC16
      by_cases c17 : (wrap64 (a0)) = 8304
      ·rw [if_pos c17] at H
       have c17b0 : ((wrap64 (a0)) == 8304) = true := beq_iff_eq.mpr c17
       have c17b1 : ((wrap64 (a0)) != 8304) = false := bne_eq_false_iff_eq.mpr c17
       clear c17
       (first | rw [c17b0] | (simp only [i64_w, i32_w]; rw [c17b0]) | skip)
       have H' := aM H
       clear H
       go_wp2
       go_meet
       case rel => exact ⟨_, (true), zP, H', ⟨by have := HJ1.out; first | omega | exact Nat.le_refl _⟩, ⟨zB⟩⟩
      ·rw [if_neg c17] at H
       have c17b0 : ((wrap64 (a0)) == 8304) = false := beq_eq_false_iff_ne.mpr c17
       have c17b1 : ((wrap64 (a0)) != 8304) = true := bne_iff_ne.mpr c17
       (first | rw [c17b0] | (simp only [i64_w, i32_w]; rw [c17b0]) | skip)
       by_cases c18 : (wrap64 (a0)) ≥ 8308
       ·rw [if_pos c18] at H
        have c18b0 : decide (8308 ≤ (wrap64 (a0))) = true := decide_eq_true c18
        clear c18
        have H' := aM H
        clear H
        go_wp2
        go_meet
        case rel => exact ⟨_, (decide ((wrap64 (a0)) ≤ 8313)), zP, H', ⟨by have := HJ1.out; first | omega | exact Nat.le_refl _⟩, ⟨zB⟩⟩
       ·rw [if_neg c18] at H
        have c18b0 : decide (8308 ≤ (wrap64 (a0))) = false := decide_eq_false c18
        clear c18
        have H' := aM H
        clear H
        go_wp2
        go_meet
        case rel => exact ⟨_, (false), zP, H', ⟨by have := HJ1.out; first | omega | exact Nat.le_refl _⟩, ⟨zB⟩⟩
     case rest =>
      clear HC16
      try clear c1
      try clear p2
      try clear c3
      try clear c3b0
      try clear c3b1
      try clear c4
      try clear c4b0
      try clear c5
      try clear c5b0
      try clear c6
      try clear c6b0
      try clear c6b1
      try clear p6
      try clear c7
      try clear c7b0
      try clear c7b1
      try clear c8
      try clear c8b0
      try clear c8b1
      try clear c9
      try clear c9b0
      try clear c9b1
      try clear c10
      try clear c13
      try clear c13b0
      try clear c13b1
      try clear c17
      try clear c17b0
      try clear c17b1
      try clear c18
      try clear c18b0
      try clear p2
      try clear p6
      obtain ⟨kq, x34_15, rfl, HA, HJ15, HB⟩ := hcut
      cases kq with
      | zero => exact absurd HA.out (by simp [toponymref05_Loose.j1])
      | succ kj15 =>
       have H := HA.out
       clear HA
       simp only [toponymref05_Loose.j1] at H
       by_cases c19 : x34_15 = true
       ·subst c19
        rw [if_pos rfl] at H
        obtain ⟨y571, hy571⟩ : ∃ y_ : List Int, y_ = (([wrap32 (a0 - 8256)] : List Int)) := ⟨_, rfl⟩
        replace H : (some y571) = some r := zY hy571 H
        have Ny571 := aM hy571
        clear hy571
        obtain rfl := sI H
        go_wp2_with (first | ((with_reducible refine gate_dst (N := 47) rfl ?_); refine Kd.R_lit (Kd.int .i32) _ 21 ?hg (N := 47) ?hd (xs := ([wrap32 (a0 - 8256)] : List Int)) (inner := [.int .i32 (wrap32 (a0 - 8256))]) (ok := fun _ => True) (okp := fun _ => True) ?hr ?hp (fun _ hk => hk) trivial (Below.refl _ _) (Nat.le_refl _) (by simp) ?_; (case hd => rfl); (case hg => rfl); (case hr => first | (go_simp; done) | (go_simp; rfl)); (case hp => exact (Reps.one (show Kd.M (Kd.int .i32) _ _ _ (wrap32 (a0 - 8256)) [.int .i32 (wrap32 (a0 - 8256))] from rfl) (Reps.none _ _))); intro v572 w20 ho21 hb hg_ hnew_; clear hg_ hnew_; (first | rw [← Ny571.out] at ho21 | (simp only [Int.reduceToNat] at ho21; rw [← Ny571.out] at ho21)); have n_ := zI (aM (Kd.R_lower ho21 (below_size zB))) (aM (below_step zB hb)); clear HB; obtain ⟨HO573, HB⟩ := n_; clear hb ho21))
        go_ret
        exact ⟨_, zE, zR HO573, zB⟩
       ·replace c19 := Bool.eq_false_iff.mpr c19
        subst c19
        rw [if_neg (show ¬ (false = true) by decide)] at H
        have HC22 := aM H
        clear H
        go_upto_region 8 with (fail)
        go_cut [48] (fun v48 wc => ∃ (kq : Nat) (x48_21 : Bool), v48 = .bool x48_21 ∧ Aside0 (toponymref05_Loose.j2 kq a0 (wrap64 (a0)) x48_21 = some r) ∧ Aside0 (kq ≤ kj15) ∧ Aside0 (Below w.heap.size w wc))
        case first =>
         have H := HC22.out
         clear HC22
         by_cases c23 : (wrap64 (a0)) ≥ 8320
         ·rw [if_pos c23] at H
          have c23b0 : decide (8320 ≤ (wrap64 (a0))) = true := decide_eq_true c23
          clear c23
          (first | rw [c23b0] | (simp only [i64_w, i32_w]; rw [c23b0]) | skip)
          have H' := aM H
          clear H
          go_wp2
          go_meet
          case rel => exact ⟨_, (decide ((wrap64 (a0)) ≤ 8329)), zP, H', ⟨by have := HJ1.out; have := HJ15.out; first | omega | exact Nat.le_refl _⟩, ⟨zB⟩⟩
         ·rw [if_neg c23] at H
          have c23b0 : decide (8320 ≤ (wrap64 (a0))) = false := decide_eq_false c23
          clear c23
          (first | rw [c23b0] | (simp only [i64_w, i32_w]; rw [c23b0]) | skip)
          have H' := aM H
          clear H
          go_wp2
          go_meet
          case rel => exact ⟨_, (false), zP, H', ⟨by have := HJ1.out; have := HJ15.out; first | omega | exact Nat.le_refl _⟩, ⟨zB⟩⟩
        case rest =>
         clear HC22
         try clear c1
         try clear c2
         try clear p2
         try clear c3
         try clear c3b0
         try clear c3b1
         try clear p3
         try clear c4
         try clear c4b0
         try clear c5
         try clear c5b0
         try clear c6
         try clear c6b0
         try clear c6b1
         try clear p6
         try clear c7
         try clear c7b0
         try clear c7b1
         try clear c8
         try clear c8b0
         try clear c8b1
         try clear c9
         try clear c9b0
         try clear c9b1
         try clear c10
         try clear c13
         try clear c13b0
         try clear c13b1
         try clear c17
         try clear c17b0
         try clear c17b1
         try clear c18
         try clear c18b0
         try clear c19
         try clear c23
         try clear c23b0
         try clear p2
         try clear p6
         obtain ⟨kq, x48_21, rfl, HA, HJ21, HB⟩ := hcut
         cases kq with
         | zero => exact absurd HA.out (by simp [toponymref05_Loose.j2])
         | succ kj21 =>
          have H := HA.out
          clear HA
          simp only [toponymref05_Loose.j2] at H
          by_cases c24 : x48_21 = true
          ·subst c24
           rw [if_pos rfl] at H
           obtain ⟨y574, hy574⟩ : ∃ y_ : List Int, y_ = (([wrap32 (a0 - 8272)] : List Int)) := ⟨_, rfl⟩
           replace H : (some y574) = some r := zY hy574 H
           have Ny574 := aM hy574
           clear hy574
           obtain rfl := sI H
           go_wp2_with (first | ((with_reducible refine gate_dst (N := 57) rfl ?_); refine Kd.R_lit (Kd.int .i32) _ 21 ?hg (N := 57) ?hd (xs := ([wrap32 (a0 - 8272)] : List Int)) (inner := [.int .i32 (wrap32 (a0 - 8272))]) (ok := fun _ => True) (okp := fun _ => True) ?hr ?hp (fun _ hk => hk) trivial (Below.refl _ _) (Nat.le_refl _) (by simp) ?_; (case hd => rfl); (case hg => rfl); (case hr => first | (go_simp; done) | (go_simp; rfl)); (case hp => exact (Reps.one (show Kd.M (Kd.int .i32) _ _ _ (wrap32 (a0 - 8272)) [.int .i32 (wrap32 (a0 - 8272))] from rfl) (Reps.none _ _))); intro v575 w25 ho26 hb hg_ hnew_; clear hg_ hnew_; (first | rw [← Ny574.out] at ho26 | (simp only [Int.reduceToNat] at ho26; rw [← Ny574.out] at ho26)); have n_ := zI (aM (Kd.R_lower ho26 (below_size zB))) (aM (below_step zB hb)); clear HB; obtain ⟨HO576, HB⟩ := n_; clear hb ho26))
           go_ret
           exact ⟨_, zE, zR HO576, zB⟩
          ·replace c24 := Bool.eq_false_iff.mpr c24
           subst c24
           rw [if_neg (show ¬ (false = true) by decide)] at H
           have HC27 := aM H
           clear H
           go_upto_region 10 with (fail)
           go_cut [58] (fun v58 wc => ∃ (kq : Nat) (x58_26 : Bool), v58 = .bool x58_26 ∧ Aside0 (toponymref05_Loose.j3 kq a0 (wrap64 (a0)) x58_26 = some r) ∧ Aside0 (kq ≤ kj21) ∧ Aside0 (Below w.heap.size w wc))
           case first =>
            have H := HC27.out
            clear HC27
            by_cases c28 : (wrap64 (a0)) ≥ 8544
            ·rw [if_pos c28] at H
             have c28b0 : decide (8544 ≤ (wrap64 (a0))) = true := decide_eq_true c28
             clear c28
             (first | rw [c28b0] | (simp only [i64_w, i32_w]; rw [c28b0]) | skip)
             have H' := aM H
             clear H
             go_wp2
             go_meet
             case rel => exact ⟨_, (decide ((wrap64 (a0)) ≤ 8555)), zP, H', ⟨by have := HJ1.out; have := HJ15.out; have := HJ21.out; first | omega | exact Nat.le_refl _⟩, ⟨zB⟩⟩
            ·rw [if_neg c28] at H
             have c28b0 : decide (8544 ≤ (wrap64 (a0))) = false := decide_eq_false c28
             clear c28
             (first | rw [c28b0] | (simp only [i64_w, i32_w]; rw [c28b0]) | skip)
             have H' := aM H
             clear H
             go_wp2
             go_meet
             case rel => exact ⟨_, (false), zP, H', ⟨by have := HJ1.out; have := HJ15.out; have := HJ21.out; first | omega | exact Nat.le_refl _⟩, ⟨zB⟩⟩
           case rest =>
            clear HC27
            try clear c1
            try clear c2
            try clear p2
            try clear c3
            try clear c3b0
            try clear c3b1
            try clear p3
            try clear c4
            try clear c4b0
            try clear c5
            try clear c5b0
            try clear c6
            try clear c6b0
            try clear c6b1
            try clear p6
            try clear c7
            try clear c7b0
            try clear c7b1
            try clear c8
            try clear c8b0
            try clear c8b1
            try clear c9
            try clear c9b0
            try clear c9b1
            try clear c10
            try clear c13
            try clear c13b0
            try clear c13b1
            try clear c17
            try clear c17b0
            try clear c17b1
            try clear c18
            try clear c18b0
            try clear c19
            try clear c23
            try clear c23b0
            try clear c24
            try clear c28
            try clear c28b0
            try clear p2
            try clear p3
            try clear p6
            obtain ⟨kq, x58_26, rfl, HA, HJ26, HB⟩ := hcut
            cases kq with
            | zero => exact absurd HA.out (by simp [toponymref05_Loose.j3])
            | succ kj26 =>
             have H := HA.out
             clear HA
             simp only [toponymref05_Loose.j3] at H
             by_cases c29 : x58_26 = true
             ·subst c29
              rw [if_pos rfl] at H
              obtain ⟨t577, A30, H⟩ := zO H
              obtain rfl := sI H
              go_wp2_with (first | ((with_reducible refine gate_callee (f := 76) rfl ?_); refine goesL_ (some 67) rfl rfl Try.func76 zK rfl #[.int .i64 (wrap64 ((wrap64 (a0)) - 8543)), .int .i32 73, .int .i32 86, .int .i32 88] rfl zM ?_; (with_reducible refine (toponymref05_roman.calls kj26 (wrap64 ((wrap64 (a0)) - 8543)) 73 86 88 t577 _ A30.out).mono ?_); rintro e w31 ⟨v578, rfl, ho0, hb⟩; (try clear A30); refine ⟨_, rfl, ?_⟩; have n_ := zI (aM (Kd.R_lower ho0 (below_size zB))) (aM (below_step zB hb)); clear HB; obtain ⟨HO579, HB⟩ := n_; (try clear hb); (try clear ho0)))
              go_ret
              exact ⟨_, zE, zR HO579, zB⟩
             ·replace c29 := Bool.eq_false_iff.mpr c29
              subst c29
              rw [if_neg (show ¬ (false = true) by decide)] at H
              have HC32 := aM H
              clear H
              go_upto_region 12 with (fail)
              go_cut [68] (fun v68 wc => ∃ (kq : Nat) (x68_31 : Bool), v68 = .bool x68_31 ∧ Aside0 (toponymref05_Loose.j4 kq a0 (wrap64 (a0)) x68_31 = some r) ∧ Aside0 (kq ≤ kj26) ∧ Aside0 (Below w.heap.size w wc))
              case first =>
               have H := HC32.out
               clear HC32
               by_cases c33 : (wrap64 (a0)) ≥ 8560
               ·rw [if_pos c33] at H
                have c33b0 : decide (8560 ≤ (wrap64 (a0))) = true := decide_eq_true c33
                clear c33
                (first | rw [c33b0] | (simp only [i64_w, i32_w]; rw [c33b0]) | skip)
                have H' := aM H
                clear H
                go_wp2
                go_meet
                case rel => exact ⟨_, (decide ((wrap64 (a0)) ≤ 8571)), zP, H', ⟨by have := HJ1.out; have := HJ15.out; have := HJ21.out; have := HJ26.out; first | omega | exact Nat.le_refl _⟩, ⟨zB⟩⟩
               ·rw [if_neg c33] at H
                have c33b0 : decide (8560 ≤ (wrap64 (a0))) = false := decide_eq_false c33
                clear c33
                (first | rw [c33b0] | (simp only [i64_w, i32_w]; rw [c33b0]) | skip)
                have H' := aM H
                clear H
                go_wp2
                go_meet
                case rel => exact ⟨_, (false), zP, H', ⟨by have := HJ1.out; have := HJ15.out; have := HJ21.out; have := HJ26.out; first | omega | exact Nat.le_refl _⟩, ⟨zB⟩⟩
              case rest =>
               clear HC32
               try clear c1
               try clear c2
               try clear p2
               try clear c3
               try clear c3b0
               try clear c3b1
               try clear p3
               try clear c4
               try clear c4b0
               try clear c5
               try clear c5b0
               try clear c6
               try clear c6b0
               try clear c6b1
               try clear p6
               try clear c7
               try clear c7b0
               try clear c7b1
               try clear c8
               try clear c8b0
               try clear c8b1
               try clear c9
               try clear c9b0
               try clear c9b1
               try clear c10
               try clear c13
               try clear c13b0
               try clear c13b1
               try clear c17
               try clear c17b0
               try clear c17b1
               try clear c18
               try clear c18b0
               try clear c19
               try clear c23
               try clear c23b0
               try clear c24
               try clear c28
               try clear c28b0
               try clear c29
               try clear p32
               try clear c33
               try clear c33b0
               try clear p2
               try clear p3
               try clear p6
               obtain ⟨kq, x68_31, rfl, HA, HJ31, HB⟩ := hcut
               cases kq with
               | zero => exact absurd HA.out (by simp [toponymref05_Loose.j4])
               | succ kj31 =>
                have H := HA.out
                clear HA
                simp only [toponymref05_Loose.j4] at H
                by_cases c34 : x68_31 = true
                ·subst c34
                 rw [if_pos rfl] at H
                 obtain ⟨t580, A35, H⟩ := zO H
                 obtain rfl := sI H
                 go_wp2_with (first | ((with_reducible refine gate_callee (f := 76) rfl ?_); refine goesL_ (some 77) rfl rfl Try.func76 zK rfl #[.int .i64 (wrap64 ((wrap64 (a0)) - 8559)), .int .i32 105, .int .i32 118, .int .i32 120] rfl zM ?_; (with_reducible refine (toponymref05_roman.calls kj31 (wrap64 ((wrap64 (a0)) - 8559)) 105 118 120 t580 _ A35.out).mono ?_); rintro e w36 ⟨v581, rfl, ho0, hb⟩; (try clear A35); refine ⟨_, rfl, ?_⟩; have n_ := zI (aM (Kd.R_lower ho0 (below_size zB))) (aM (below_step zB hb)); clear HB; obtain ⟨HO582, HB⟩ := n_; (try clear hb); (try clear ho0)))
                 go_ret
                 exact ⟨_, zE, zR HO582, zB⟩
                ·replace c34 := Bool.eq_false_iff.mpr c34
                 subst c34
                 rw [if_neg (show ¬ (false = true) by decide)] at H
                 by_cases c37 : (wrap64 (a0)) ≥ 65281
                 ·rw [if_pos c37] at H
                  have c37b0 : decide (65281 ≤ (wrap64 (a0))) = true := decide_eq_true c37
                  clear c37
                  by_cases c38 : (wrap64 (a0)) ≤ 65374
                  ·rw [if_pos c38] at H
                   have c38b0 : decide ((wrap64 (a0)) ≤ 65374) = true := decide_eq_true c38
                   clear c38
                   obtain ⟨y583, hy583⟩ : ∃ y_ : List Int, y_ = (([wrap32 (a0 - 65248)] : List Int)) := ⟨_, rfl⟩
                   replace H : (some y583) = some r := zY hy583 H
                   have Ny583 := aM hy583
                   clear hy583
                   obtain rfl := sI H
                   go_wp2_with (first | ((with_reducible refine gate_dst (N := 87) rfl ?_); refine Kd.R_lit (Kd.int .i32) _ 21 ?hg (N := 87) ?hd (xs := ([wrap32 (a0 - 65248)] : List Int)) (inner := [.int .i32 (wrap32 (a0 - 65248))]) (ok := fun _ => True) (okp := fun _ => True) ?hr ?hp (fun _ hk => hk) trivial (Below.refl _ _) (Nat.le_refl _) (by simp) ?_; (case hd => rfl); (case hg => rfl); (case hr => first | (go_simp; done) | (go_simp; rfl)); (case hp => exact (Reps.one (show Kd.M (Kd.int .i32) _ _ _ (wrap32 (a0 - 65248)) [.int .i32 (wrap32 (a0 - 65248))] from rfl) (Reps.none _ _))); intro v584 w39 ho40 hb hg_ hnew_; clear hg_ hnew_; (first | rw [← Ny583.out] at ho40 | (simp only [Int.reduceToNat] at ho40; rw [← Ny583.out] at ho40)); have n_ := zI (aM (Kd.R_lower ho40 (below_size zB))) (aM (below_step zB hb)); clear HB; obtain ⟨HO585, HB⟩ := n_; clear hb ho40))
                   go_ret
                   exact ⟨_, zE, zR HO585, zB⟩
                  ·rw [if_neg c38] at H
                   have c38b0 : decide ((wrap64 (a0)) ≤ 65374) = false := decide_eq_false c38
                   clear c38
                   obtain ⟨t586, A41, H⟩ := zO H
                   obtain rfl := sI H
                   go_wp2_with (first | ((with_reducible refine gate_callee (f := 77) rfl ?_); refine goesL_ (some 89) rfl rfl Try.func77 zK rfl #[.int .i64 (wrap64 (a0))] rfl zM ?_; (with_reducible refine (toponymref05_few.calls (wrap64 (a0)) t586 _ A41.out).mono ?_); rintro e w42 ⟨v587, rfl, ho0, hb⟩; (try clear A41); refine ⟨_, rfl, ?_⟩; have n_ := zI (aM (Kd.R_lower ho0 (below_size zB))) (aM (below_step zB hb)); clear HB; obtain ⟨HO588, HB⟩ := n_; (try clear hb); (try clear ho0)))
                   go_ret
                   exact ⟨_, zE, zR HO588, zB⟩
                 ·rw [if_neg c37] at H
                  have c37b0 : decide (65281 ≤ (wrap64 (a0))) = false := decide_eq_false c37
                  clear c37
                  obtain ⟨t589, A43, H⟩ := zO H
                  obtain rfl := sI H
                  go_wp2_with (first | ((with_reducible refine gate_callee (f := 77) rfl ?_); refine goesL_ (some 89) rfl rfl Try.func77 zK rfl #[.int .i64 (wrap64 (a0))] rfl zM ?_; (with_reducible refine (toponymref05_few.calls (wrap64 (a0)) t589 _ A43.out).mono ?_); rintro e w44 ⟨v590, rfl, ho0, hb⟩; (try clear A43); refine ⟨_, rfl, ?_⟩; have n_ := zI (aM (Kd.R_lower ho0 (below_size zB))) (aM (below_step zB hb)); clear HB; obtain ⟨HO591, HB⟩ := n_; (try clear hb); (try clear ho0)))
                  go_ret
                  exact ⟨_, zE, zR HO591, zB⟩


end Go.Proofs.Ytpihglokjcbjkaa.P
