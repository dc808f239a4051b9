-- Printed by wip/mk.py (this session's driver over the kit's print) and from wip/manual.
import Derived.Test.YtncppcjobimilaaT0
import Derived.Test.YtncppcjobimilaaT10
namespace Go.Proofs.Ytncppcjobimilaa.P
open Go.RowKit Go.Proofs.YtncppcjobimilaaW.PrintWords Go.Proofs.YtncppcjobimilaaW.PrintLast Go.Proofs.YtncppcjobimilaaW.PrintMore
attribute [local go_sem] max2_int min2_int max_two min_two max_three min_three max_four min_four   -- for this text's walks alone
set_option linter.unusedVariables false
set_option linter.unusedSimpArgs false

/-! ### fold_up: function 72 -/
mutual
def fold_up.j2 : Nat → Int → Bool → Option (Int)
 | 0, _, _ => none
 | k + 1, x0, x3 => if x3 = true then (some 32) else ((fold_within.f x0 904 906).bind fun t292 => (if t292 = true then (some 37) else ((fold_within.f x0 8544 8555).bind fun t293 => (if t293 = true then (some 16) else ((fold_within.f x0 256 311).bind fun t294 => (if t294 = true then (fold_up.j3 k x0 true) else ((fold_within.f x0 330 375).bind fun t295 => (fold_up.j3 k x0 t295))))))))
def fold_up.j3 : Nat → Int → Bool → Option (Int)
 | 0, _, _ => none
 | k + 1, x0, x28 => if x28 = true then (if x0 = 312 then (some 0) else (some (wrap32 (1 - (Go.bits .and .i32 x0 1))))) else ((fold_within.f x0 313 328).bind fun t296 => (if t296 = true then (some (Go.bits .and .i32 x0 1)) else ((fold_within.f x0 377 382).bind fun t297 => (if t297 = true then (some (Go.bits .and .i32 x0 1)) else (some 0)))))
def fold_up.j0 : Nat → Int → Bool → Option (Int)
 | 0, _, _ => none
 | k + 1, x0, x3 => if x3 = true then (fold_up.j2 k x0 x3) else ((fold_within.f x0 913 939).bind fun t289 => (if t289 = true then (fold_up.j1 k x0 (x0 != 930)) else (fold_up.j1 k x0 false)))
def fold_up.j1 : Nat → Int → Bool → Option (Int)
 | 0, _, _ => none
 | k + 1, x0, x3 => if x3 = true then (fold_up.j2 k x0 x3) else ((fold_within.f x0 1040 1071).bind fun t290 => (if t290 = true then (fold_up.j2 k x0 t290) else ((fold_within.f x0 65313 65338).bind fun t291 => (fold_up.j2 k x0 t291))))
end
def fold_up.f (k : Nat) (a0 : Int) : Option (Int) := (fold_within.f a0 65 90).bind fun t287 => (if t287 = true then (fold_up.j2 k a0 t287) else ((fold_within.f a0 192 222).bind fun t288 => (if t288 = true then (fold_up.j0 k a0 (a0 != 215)) else (fold_up.j0 k a0 false))))
theorem fold_up.mono_l : ∀ k, (∀ y0 y1, LeO (fold_up.j2 k y0 y1) (fold_up.j2 (k + 1) y0 y1)) ∧ (∀ y0 y1, LeO (fold_up.j3 k y0 y1) (fold_up.j3 (k + 1) y0 y1)) ∧ (∀ y0 y1, LeO (fold_up.j0 k y0 y1) (fold_up.j0 (k + 1) y0 y1)) ∧ (∀ y0 y1, LeO (fold_up.j1 k y0 y1) (fold_up.j1 (k + 1) y0 y1))
 | 0 => ⟨fun _ _ r h => by simp [fold_up.j2] at h, fun _ _ r h => by simp [fold_up.j3] at h, fun _ _ r h => by simp [fold_up.j0] at h, fun _ _ r h => by simp [fold_up.j1] at h⟩
 | k + 1 => by
  obtain ⟨ih0, ih1, ih2, ih3⟩ := fold_up.mono_l k
  refine ⟨?_, ?_, ?_, ?_⟩
  ·intro y0 y1
   unfold fold_up.j2
   repeat' first
   | (with_reducible exact ih0 _ _)
   | (with_reducible exact ih1 _ _)
   | (with_reducible exact ih2 _ _)
   | (with_reducible exact ih3 _ _)
   | (with_reducible exact LeO.refl _)
   | exact ih0 _ _
   | exact ih1 _ _
   | exact ih2 _ _
   | exact ih3 _ _
   | exact LeO.none _
   | refine LeO.ite ?_ ?_
   | refine LeO.bind ?_ (fun _ => ?_)
  ·intro y0 y1
   unfold fold_up.j3
   repeat' first
   | (with_reducible exact ih0 _ _)
   | (with_reducible exact ih1 _ _)
   | (with_reducible exact ih2 _ _)
   | (with_reducible exact ih3 _ _)
   | (with_reducible exact LeO.refl _)
   | exact ih0 _ _
   | exact ih1 _ _
   | exact ih2 _ _
   | exact ih3 _ _
   | exact LeO.none _
   | refine LeO.ite ?_ ?_
   | refine LeO.bind ?_ (fun _ => ?_)
  ·intro y0 y1
   unfold fold_up.j0
   repeat' first
   | (with_reducible exact ih0 _ _)
   | (with_reducible exact ih1 _ _)
   | (with_reducible exact ih2 _ _)
   | (with_reducible exact ih3 _ _)
   | (with_reducible exact LeO.refl _)
   | exact ih0 _ _
   | exact ih1 _ _
   | exact ih2 _ _
   | exact ih3 _ _
   | exact LeO.none _
   | refine LeO.ite ?_ ?_
   | refine LeO.bind ?_ (fun _ => ?_)
  ·intro y0 y1
   unfold fold_up.j1
   repeat' first
   | (with_reducible exact ih0 _ _)
   | (with_reducible exact ih1 _ _)
   | (with_reducible exact ih2 _ _)
   | (with_reducible exact ih3 _ _)
   | (with_reducible exact LeO.refl _)
   | exact ih0 _ _
   | exact ih1 _ _
   | exact ih2 _ _
   | exact ih3 _ _
   | exact LeO.none _
   | refine LeO.ite ?_ ?_
   | refine LeO.bind ?_ (fun _ => ?_)
theorem fold_up.mono : ∀ a0 k, LeO (fold_up.f k a0) (fold_up.f (k + 1) a0) := by
 intro a0 k
 obtain ⟨ih0, ih1, ih2, ih3⟩ := fold_up.mono_l k
 unfold fold_up.f
 repeat' first
   | (with_reducible exact ih0 _ _)
   | (with_reducible exact ih1 _ _)
   | (with_reducible exact ih2 _ _)
   | (with_reducible exact ih3 _ _)
   | (with_reducible exact LeO.refl _)
   | exact ih0 _ _
   | exact ih1 _ _
   | exact ih2 _ _
   | exact ih3 _ _
   | exact LeO.none _
   | refine LeO.ite ?_ ?_
   | refine LeO.bind ?_ (fun _ => ?_)
set_option maxHeartbeats 8000000 in
set_option maxRecDepth 100000 in
theorem fold_up.calls (k : Nat) (a0 : Int) (r : Int) (w : World) (h : fold_up.f k a0 = some r) :
  Calls Try.prog 72 #[.int .i32 a0] w fun e w' => e = .returned (.int .i32 r) ∧ Drawn0 w w' := by
 have H := h
 clear h
 unfold fold_up.f at H
 obtain ⟨t287, A2, H⟩ := zO H
 have HC3 := aM H
 clear H
 go_enter Try.func72, Try.ntmps72
 go_upto_if 3 with (first | ((with_reducible refine gate_callee (f := 92) rfl ?_); refine goesL_ (some 5) rfl rfl Try.func92 zK rfl #[.int .i32 a0, .int .i32 65, .int .i32 90] rfl zM ?_; (with_reducible refine (fold_within.calls a0 65 90 t287 _ A2.out).mono ?_); rintro e w' ⟨rfl, ⟨nd, rfl⟩⟩; (try clear A2); refine ⟨_, rfl, ?_⟩))
 (try simp only [Act.put, List.setIfInBounds_toArray, List.set_cons_zero, List.set_cons_succ])
 go_cut [3] (fun v3 wc => ∃ (kq : Nat) (x3_2 : Bool), v3 = .bool x3_2 ∧ Aside0 (fold_up.j2 kq a0 x3_2 = some r) ∧ Aside0 (kq ≤ k) ∧ Drawn0 w wc)
 case first =>
  have H := HC3.out
  clear HC3
  by_cases c4 : t287 = true
  ·subst c4
   rw [if_pos rfl] at H
   have H' := aM H
   clear H
   go_wp2
   go_meet
   case rel => exact ⟨_, (true), zP, H', ⟨by first | omega | exact Nat.le_refl _⟩, zD⟩
  ·replace c4 := Bool.eq_false_iff.mpr c4
   subst c4
   rw [if_neg (show ¬ (false = true) by decide)] at H
   have HC5 := aM H
   clear H
   go_upto_region 2 with (fail)
   go_cut [3] (fun v3 wc => ∃ (kq : Nat) (x3_4 : Bool), v3 = .bool x3_4 ∧ Aside0 (fold_up.j0 kq a0 x3_4 = some r) ∧ Aside0 (kq ≤ k) ∧ Drawn0 w wc)
   case first =>
    have H := HC5.out
    clear HC5
    obtain ⟨t288, A6, H⟩ := zO H
    by_cases c7 : t288 = true
    ·subst c7
     rw [if_pos rfl] at H
     have H' := aM H
     clear H
     go_wp2_with (first | ((with_reducible refine gate_callee (f := 92) rfl ?_); refine goesL_ (some 7) rfl rfl Try.func92 zK rfl #[.int .i32 a0, .int .i32 192, .int .i32 222] rfl zM ?_; (with_reducible refine (fold_within.calls a0 192 222 true _ A6.out).mono ?_); rintro e w' ⟨rfl, ⟨nd, rfl⟩⟩; (try clear A6); refine ⟨_, rfl, ?_⟩))
     go_meet
     case rel => exact ⟨_, ((a0 != 215)), zP, H', ⟨by first | omega | exact Nat.le_refl _⟩, zD⟩
    ·replace c7 := Bool.eq_false_iff.mpr c7
     subst c7
     rw [if_neg (show ¬ (false = true) by decide)] at H
     have H' := aM H
     clear H
     go_wp2_with (first | ((with_reducible refine gate_callee (f := 92) rfl ?_); refine goesL_ (some 7) rfl rfl Try.func92 zK rfl #[.int .i32 a0, .int .i32 192, .int .i32 222] rfl zM ?_; (with_reducible refine (fold_within.calls a0 192 222 false _ A6.out).mono ?_); rintro e w' ⟨rfl, ⟨nd, rfl⟩⟩; (try clear A6); refine ⟨_, rfl, ?_⟩))
     go_meet
     case rel => exact ⟨_, (false), zP, H', ⟨by first | omega | exact Nat.le_refl _⟩, zD⟩
   case rest =>
    clear HC5
    try clear p2
    try clear c4
    try clear c7
    obtain ⟨kq, x3_4, rfl, HA, HJ4, ⟨mc4, rfl⟩⟩ := hcut
    cases kq with
    | zero => exact absurd HA.out (by simp [fold_up.j0])
    | succ kj4 =>
     have H := HA.out
     clear HA
     simp only [fold_up.j0] at H
     by_cases c8 : x3_4 = true
     ·subst c8
      rw [if_pos rfl] at H
      have H' := aM H
      clear H
      go_wp2
      go_meet
      case rel => exact ⟨_, (true), zP, H', ⟨by have := HJ4.out; first | omega | exact Nat.le_refl _⟩, zD⟩
     ·replace c8 := Bool.eq_false_iff.mpr c8
      subst c8
      rw [if_neg (show ¬ (false = true) by decide)] at H
      have HC9 := aM H
      clear H
      go_upto_region 3 with (fail)
      go_cut [3] (fun v3 wc => ∃ (kq : Nat) (x3_8 : Bool), v3 = .bool x3_8 ∧ Aside0 (fold_up.j1 kq a0 x3_8 = some r) ∧ Aside0 (kq ≤ kj4) ∧ Drawn0 w wc)
      case first =>
       have H := HC9.out
       clear HC9
       obtain ⟨t289, A10, H⟩ := zO H
       by_cases c11 : t289 = true
       ·subst c11
        rw [if_pos rfl] at H
        have H' := aM H
        clear H
        go_wp2_with (first | ((with_reducible refine gate_callee (f := 92) rfl ?_); refine goesL_ (some 13) rfl rfl Try.func92 zK rfl #[.int .i32 a0, .int .i32 913, .int .i32 939] rfl zM ?_; (with_reducible refine (fold_within.calls a0 913 939 true _ A10.out).mono ?_); rintro e w' ⟨rfl, ⟨nd, rfl⟩⟩; (try clear A10); refine ⟨_, rfl, ?_⟩))
        go_meet
        case rel => exact ⟨_, ((a0 != 930)), zP, H', ⟨by have := HJ4.out; first | omega | exact Nat.le_refl _⟩, zD⟩
       ·replace c11 := Bool.eq_false_iff.mpr c11
        subst c11
        rw [if_neg (show ¬ (false = true) by decide)] at H
        have H' := aM H
        clear H
        go_wp2_with (first | ((with_reducible refine gate_callee (f := 92) rfl ?_); refine goesL_ (some 13) rfl rfl Try.func92 zK rfl #[.int .i32 a0, .int .i32 913, .int .i32 939] rfl zM ?_; (with_reducible refine (fold_within.calls a0 913 939 false _ A10.out).mono ?_); rintro e w' ⟨rfl, ⟨nd, rfl⟩⟩; (try clear A10); refine ⟨_, rfl, ?_⟩))
        go_meet
        case rel => exact ⟨_, (false), zP, H', ⟨by have := HJ4.out; first | omega | exact Nat.le_refl _⟩, zD⟩
      case rest =>
       clear HC9
       try clear c1
       try clear p2
       try clear c4
       try clear c7
       try clear c8
       try clear c9
       try clear c11
       try clear p2
       obtain ⟨kq, x3_8, rfl, HA, HJ8, ⟨mc8, rfl⟩⟩ := hcut
       cases kq with
       | zero => exact absurd HA.out (by simp [fold_up.j1])
       | succ kj8 =>
        have H := HA.out
        clear HA
        simp only [fold_up.j1] at H
        by_cases c12 : x3_8 = true
        ·subst c12
         rw [if_pos rfl] at H
         have H' := aM H
         clear H
         go_wp2
         go_meet
         case rel => exact ⟨_, (true), zP, H', ⟨by have := HJ4.out; have := HJ8.out; first | omega | exact Nat.le_refl _⟩, zD⟩
        ·replace c12 := Bool.eq_false_iff.mpr c12
         subst c12
         rw [if_neg (show ¬ (false = true) by decide)] at H
         obtain ⟨t290, A13, H⟩ := zO H
         by_cases c14 : t290 = true
         ·subst c14
          rw [if_pos rfl] at H
          have H' := aM H
          clear H
          go_wp2_with (first | ((with_reducible refine gate_callee (f := 92) rfl ?_); refine goesL_ (some 19) rfl rfl Try.func92 zK rfl #[.int .i32 a0, .int .i32 1040, .int .i32 1071] rfl zM ?_; (with_reducible refine (fold_within.calls a0 1040 1071 true _ A13.out).mono ?_); rintro e w' ⟨rfl, ⟨nd, rfl⟩⟩; (try clear A13); refine ⟨_, rfl, ?_⟩))
          go_meet
          case rel => exact ⟨_, (true), zP, H', ⟨by have := HJ4.out; have := HJ8.out; first | omega | exact Nat.le_refl _⟩, zD⟩
         ·replace c14 := Bool.eq_false_iff.mpr c14
          subst c14
          rw [if_neg (show ¬ (false = true) by decide)] at H
          obtain ⟨t291, A15, H⟩ := zO H
          have H' := aM H
          clear H
          go_wp2_with (first | ((with_reducible refine gate_callee (f := 92) rfl ?_); refine goesL_ (some 19) rfl rfl Try.func92 zK rfl #[.int .i32 a0, .int .i32 1040, .int .i32 1071] rfl zM ?_; (with_reducible refine (fold_within.calls a0 1040 1071 false _ A13.out).mono ?_); rintro e w' ⟨rfl, ⟨nd, rfl⟩⟩; (try clear A13); refine ⟨_, rfl, ?_⟩) | ((with_reducible refine gate_callee (f := 92) rfl ?_); refine goesL_ (some 21) rfl rfl Try.func92 zK rfl #[.int .i32 a0, .int .i32 65313, .int .i32 65338] rfl zM ?_; (with_reducible refine (fold_within.calls a0 65313 65338 t291 _ A15.out).mono ?_); rintro e w' ⟨rfl, ⟨nd, rfl⟩⟩; (try clear A15); refine ⟨_, rfl, ?_⟩))
          go_meet
          case rel => exact ⟨_, (t291), zP, H', ⟨by have := HJ4.out; have := HJ8.out; first | omega | exact Nat.le_refl _⟩, zD⟩
 case rest =>
  clear HC3
  try clear c1
  try clear p2
  try clear c4
  try clear c7
  try clear c8
  try clear c9
  try clear c11
  try clear c12
  try clear c14
  try clear p2
  obtain ⟨kq, x3_2, rfl, HA, HJ2, ⟨mc2, rfl⟩⟩ := hcut
  cases kq with
  | zero => exact absurd HA.out (by simp [fold_up.j2])
  | succ kj2 =>
   have H := HA.out
   clear HA
   simp only [fold_up.j2] at H
   by_cases c16 : x3_2 = true
   ·subst c16
    rw [if_pos rfl] at H
    obtain rfl := sI H
    go_wp2
    go_ret
    exact ⟨zP, zD⟩
   ·replace c16 := Bool.eq_false_iff.mpr c16
    subst c16
    rw [if_neg (show ¬ (false = true) by decide)] at H
    obtain ⟨t292, A17, H⟩ := zO H
    by_cases c18 : t292 = true
    ·subst c18
     rw [if_pos rfl] at H
     obtain rfl := sI H
     go_wp2_with (first | ((with_reducible refine gate_callee (f := 92) rfl ?_); refine goesL_ (some 24) rfl rfl Try.func92 zK rfl #[.int .i32 a0, .int .i32 904, .int .i32 906] rfl zM ?_; (with_reducible refine (fold_within.calls a0 904 906 true _ A17.out).mono ?_); rintro e w' ⟨rfl, ⟨nd, rfl⟩⟩; (try clear A17); refine ⟨_, rfl, ?_⟩))
     go_ret
     exact ⟨zP, zD⟩
    ·replace c18 := Bool.eq_false_iff.mpr c18
     subst c18
     rw [if_neg (show ¬ (false = true) by decide)] at H
     obtain ⟨t293, A19, H⟩ := zO H
     by_cases c20 : t293 = true
     ·subst c20
      rw [if_pos rfl] at H
      obtain rfl := sI H
      go_wp2_with (first | ((with_reducible refine gate_callee (f := 92) rfl ?_); refine goesL_ (some 24) rfl rfl Try.func92 zK rfl #[.int .i32 a0, .int .i32 904, .int .i32 906] rfl zM ?_; (with_reducible refine (fold_within.calls a0 904 906 false _ A17.out).mono ?_); rintro e w' ⟨rfl, ⟨nd, rfl⟩⟩; (try clear A17); refine ⟨_, rfl, ?_⟩) | ((with_reducible refine gate_callee (f := 92) rfl ?_); refine goesL_ (some 27) rfl rfl Try.func92 zK rfl #[.int .i32 a0, .int .i32 8544, .int .i32 8555] rfl zM ?_; (with_reducible refine (fold_within.calls a0 8544 8555 true _ A19.out).mono ?_); rintro e w' ⟨rfl, ⟨nd, rfl⟩⟩; (try clear A19); refine ⟨_, rfl, ?_⟩))
      go_ret
      exact ⟨zP, zD⟩
     ·replace c20 := Bool.eq_false_iff.mpr c20
      subst c20
      rw [if_neg (show ¬ (false = true) by decide)] at H
      have HC21 := aM H
      clear H
      go_upto_region 11 with (first | ((with_reducible refine gate_callee (f := 92) rfl ?_); refine goesL_ (some 24) rfl rfl Try.func92 zK rfl #[.int .i32 a0, .int .i32 904, .int .i32 906] rfl zM ?_; (with_reducible refine (fold_within.calls a0 904 906 false _ A17.out).mono ?_); rintro e w' ⟨rfl, ⟨nd, rfl⟩⟩; (try clear A17); refine ⟨_, rfl, ?_⟩) | ((with_reducible refine gate_callee (f := 92) rfl ?_); refine goesL_ (some 27) rfl rfl Try.func92 zK rfl #[.int .i32 a0, .int .i32 8544, .int .i32 8555] rfl zM ?_; (with_reducible refine (fold_within.calls a0 8544 8555 false _ A19.out).mono ?_); rintro e w' ⟨rfl, ⟨nd, rfl⟩⟩; (try clear A19); refine ⟨_, rfl, ?_⟩))
      (try simp only [Act.put, List.setIfInBounds_toArray, List.set_cons_zero, List.set_cons_succ])
      go_cut [28] (fun v28 wc => ∃ (kq : Nat) (x28_20 : Bool), v28 = .bool x28_20 ∧ Aside0 (fold_up.j3 kq a0 x28_20 = some r) ∧ Aside0 (kq ≤ kj2) ∧ Drawn0 w wc)
      case first =>
       have H := HC21.out
       clear HC21
       obtain ⟨t294, A22, H⟩ := zO H
       by_cases c23 : t294 = true
       ·subst c23
        rw [if_pos rfl] at H
        have H' := aM H
        clear H
        go_wp2_with (first | ((with_reducible refine gate_callee (f := 92) rfl ?_); refine goesL_ (some 30) rfl rfl Try.func92 zK rfl #[.int .i32 a0, .int .i32 256, .int .i32 311] rfl zM ?_; (with_reducible refine (fold_within.calls a0 256 311 true _ A22.out).mono ?_); rintro e w' ⟨rfl, ⟨nd, rfl⟩⟩; (try clear A22); refine ⟨_, rfl, ?_⟩))
        go_meet
        case rel => exact ⟨_, (true), zP, H', ⟨by have := HJ2.out; first | omega | exact Nat.le_refl _⟩, zD⟩
       ·replace c23 := Bool.eq_false_iff.mpr c23
        subst c23
        rw [if_neg (show ¬ (false = true) by decide)] at H
        obtain ⟨t295, A24, H⟩ := zO H
        have H' := aM H
        clear H
        go_wp2_with (first | ((with_reducible refine gate_callee (f := 92) rfl ?_); refine goesL_ (some 30) rfl rfl Try.func92 zK rfl #[.int .i32 a0, .int .i32 256, .int .i32 311] rfl zM ?_; (with_reducible refine (fold_within.calls a0 256 311 false _ A22.out).mono ?_); rintro e w' ⟨rfl, ⟨nd, rfl⟩⟩; (try clear A22); refine ⟨_, rfl, ?_⟩) | (go_at_call 92; (with_reducible refine (fold_within.calls a0 330 375 t295 _ A24.out).mono ?_); rintro e w' ⟨rfl, ⟨nd, rfl⟩⟩; (try clear A24)))
        go_meet
        case rel => exact ⟨_, (t295), zP, H', ⟨by have := HJ2.out; first | omega | exact Nat.le_refl _⟩, zD⟩
      case rest =>
       clear HC21
       try clear c1
       try clear c2
       try clear p2
       try clear c4
       try clear c7
       try clear c8
       try clear c9
       try clear c11
       try clear c12
       try clear c14
       try clear c16
       try clear c18
       try clear c20
       try clear c23
       try clear p2
       obtain ⟨kq, x28_20, rfl, HA, HJ20, ⟨mc20, rfl⟩⟩ := hcut
       cases kq with
       | zero => exact absurd HA.out (by simp [fold_up.j3])
       | succ kj20 =>
        have H := HA.out
        clear HA
        simp only [fold_up.j3] at H
        by_cases c25 : x28_20 = true
        ·subst c25
         rw [if_pos rfl] at H
         by_cases c26 : a0 = 312
         ·rw [if_pos c26] at H
          have c26b0 : (a0 == 312) = true := beq_iff_eq.mpr c26
          have c26b1 : (a0 != 312) = false := bne_eq_false_iff_eq.mpr c26
          clear c26
          obtain rfl := sI H
          go_wp2
          go_ret
          exact ⟨zP, zD⟩
         ·rw [if_neg c26] at H
          have c26b0 : (a0 == 312) = false := beq_eq_false_iff_ne.mpr c26
          have c26b1 : (a0 != 312) = true := bne_iff_ne.mpr c26
          obtain rfl := sI H
          go_wp2
          go_ret
          exact ⟨zP, zD⟩
        ·replace c25 := Bool.eq_false_iff.mpr c25
         subst c25
         rw [if_neg (show ¬ (false = true) by decide)] at H
         obtain ⟨t296, A27, H⟩ := zO H
         by_cases c28 : t296 = true
         ·subst c28
          rw [if_pos rfl] at H
          obtain rfl := sI H
          go_wp2_with (first | ((with_reducible refine gate_callee (f := 92) rfl ?_); refine goesL_ (some 42) rfl rfl Try.func92 zK rfl #[.int .i32 a0, .int .i32 313, .int .i32 328] rfl zM ?_; (with_reducible refine (fold_within.calls a0 313 328 true _ A27.out).mono ?_); rintro e w' ⟨rfl, ⟨nd, rfl⟩⟩; (try clear A27); refine ⟨_, rfl, ?_⟩))
          go_ret
          exact ⟨zP, zD⟩
         ·replace c28 := Bool.eq_false_iff.mpr c28
          subst c28
          rw [if_neg (show ¬ (false = true) by decide)] at H
          obtain ⟨t297, A29, H⟩ := zO H
          by_cases c30 : t297 = true
          ·subst c30
           rw [if_pos rfl] at H
           obtain rfl := sI H
           go_wp2_with (first | ((with_reducible refine gate_callee (f := 92) rfl ?_); refine goesL_ (some 42) rfl rfl Try.func92 zK rfl #[.int .i32 a0, .int .i32 313, .int .i32 328] rfl zM ?_; (with_reducible refine (fold_within.calls a0 313 328 false _ A27.out).mono ?_); rintro e w' ⟨rfl, ⟨nd, rfl⟩⟩; (try clear A27); refine ⟨_, rfl, ?_⟩) | (go_at_call 92; (with_reducible refine (fold_within.calls a0 377 382 true _ A29.out).mono ?_); rintro e w' ⟨rfl, ⟨nd, rfl⟩⟩; (try clear A29)))
           go_ret
           exact ⟨zP, zD⟩
          ·replace c30 := Bool.eq_false_iff.mpr c30
           subst c30
           rw [if_neg (show ¬ (false = true) by decide)] at H
           obtain rfl := sI H
           go_wp2_with (first | ((with_reducible refine gate_callee (f := 92) rfl ?_); refine goesL_ (some 42) rfl rfl Try.func92 zK rfl #[.int .i32 a0, .int .i32 313, .int .i32 328] rfl zM ?_; (with_reducible refine (fold_within.calls a0 313 328 false _ A27.out).mono ?_); rintro e w' ⟨rfl, ⟨nd, rfl⟩⟩; (try clear A27); refine ⟨_, rfl, ?_⟩) | (go_at_call 92; (with_reducible refine (fold_within.calls a0 377 382 false _ A29.out).mono ?_); rintro e w' ⟨rfl, ⟨nd, rfl⟩⟩; (try clear A29)))
           go_ret
           exact ⟨zP, zD⟩

/-! ### fold_One: function 47, by hand (fold.One.tpl) -/
theorem info21o : (Try.prog.info? 21).map (fun i => (i.zero, i.size, i.bytes)) = some (some (.int .i32 0), 1, 4) := by kernel_rfl
def fold_One.l0 : Nat → ByteArray → Int → List Int → Nat → Option (List Int)
  | 0, _, _, _, _ => none
  | k + 1, x0, a0, x3, pos => if pos < x0.size then (if x3.length < 35184372088832 then fold_One.l0 k x0 a0 (x3 ++ [((Utf8.decode x0 pos).1 : Int)]) (pos + (Utf8.decode x0 pos).2) else none) else (if x3.length > 0 then some x3 else (fold_up.f k a0).bind fun t => some [wrap32 (a0 + t)])
def fold_One.f (k : Nat) (a0 : Int) : Option (List Int) := (fold_more.f a0).bind fun s => fold_One.l0 k s a0 [] 0
theorem fold_One.mono_l : ∀ k, (∀ y0 y1 y2 y3, LeO (fold_One.l0 k y0 y1 y2 y3) (fold_One.l0 (k + 1) y0 y1 y2 y3))
  | 0 => fun _ _ _ _ r h => by simp [fold_One.l0] at h
  | k + 1 => by
    have ih0 := fold_One.mono_l k
    intro y0 y1 y2 y3
    unfold fold_One.l0
    repeat' first
      | exact ih0 _ _ _ _
      | exact fold_up.mono _ _
      | exact LeO.refl _
      | refine LeO.ite ?_ ?_
      | refine LeO.bind ?_ (fun _ => ?_)
theorem fold_One.mono : ∀ a0 k, LeO (fold_One.f k a0) (fold_One.f (k + 1) a0) := fun a0 k => LeO.bind (LeO.refl _) (fun _ => fold_One.mono_l k _ _ _ _)
set_option maxHeartbeats 8000000 in
set_option maxRecDepth 100000 in
theorem fold_One.calls (k : Nat) (a0 : Int) (r : List Int) (w : World) (h : fold_One.f k a0 = some r) :
    Calls Try.prog 47 #[.int .i32 a0] w fun e w' => ∃ v0_ : Value, e = .returned (v0_) ∧ Kd.R (Kd.int .i32) 21 w' w.heap.size (fun _ => True) (v0_) (r) ∧ Below w.heap.size w w' := by
  unfold fold_One.f at h
  replace h := Option.bind_eq_some_iff.mp h
  obtain ⟨s, A1, H⟩ := h
  have H' := Aside0.mk H
  have A1' := Aside0.mk A1
  clear H A1
  go_enter Try.func47, Try.ntmps47
  go_wp2_with fail
  (with_reducible refine (fold_more.calls a0 s _ A1'.out).mono ?_)
  rintro e w1 ⟨rfl, hd⟩
  have HD := Aside0.mk hd
  clear hd
  go_wp2
  go_loopg [3] k (fun kq v3 W => ∃ (x3 : List Int) (pos : Nat), Aside0 (fold_One.l0 kq s a0 x3 pos = some r) ∧ Aside0 (kq ≤ k) ∧ Aside0 (W.heap[w1.heap.size]? = some (.stringIter s pos)) ∧ Aside0 (Kd.R (Kd.int .i32) 21 W w.heap.size (fun k_ => k_ ≠ w1.heap.size) v3 x3) ∧ Aside0 (Below w.heap.size w W))
  case atStart => exact ⟨[], 0, H', ⟨Nat.le_refl _⟩, ⟨World.iter_heap _ _ _⟩, ⟨Kd.R_nil _ _ _ _ _⟩, ⟨below_alloc HD.out.below _⟩⟩
  case round =>
    clear H'
    obtain ⟨x3, pos, HA, HK, HI, HO, HB⟩ := hrel
    cases gk with
    | zero => exact absurd HA.out (by simp [fold_One.l0])
    | succ k1 =>
      have H := HA.out
      clear HA
      simp only [fold_One.l0] at H
      by_cases d1 : pos < s.size
      · rw [if_pos d1] at H
        by_cases d2 : x3.length < 35184372088832
        · rw [if_pos d2] at H
          have H' := Aside0.mk H
          have LM := Aside0.mk d2
          clear H d2
          have hnx := fun ty => Lib.run_next_any_at (P := Try.prog) wr w1.heap.size s pos ty HI.out d1
          clear d1
          obtain ⟨W2, hW2⟩ : ∃ W2, wr.iterAt w1.heap.size s (pos + (Utf8.decode s pos).2) = W2 := ⟨_, rfl⟩
          rw [hW2] at hnx
          have HI2 := Aside0.mk (show W2.heap[w1.heap.size]? = some (.stringIter s (pos + (Utf8.decode s pos).2)) from by rw [← hW2]; exact Lib.iterAt_heap _ _ _ _ _ HI.out)
          have HO2 := Aside0.mk (show Kd.R (Kd.int .i32) 21 W2 w.heap.size (fun k_ => k_ ≠ w1.heap.size) _ x3 from by rw [← hW2]; exact Kd.R_step HO.out (fun k hk _ => Lib.iterAt_other _ _ _ _ _ hk))
          have HB2 := Aside0.mk (show Below w.heap.size w W2 from by rw [← hW2]; exact Lib.below_iterAt HB.out HD.out.below.size _ _)
          have HZ := Aside0.mk (show w1.heap.size < W2.heap.size from (Array.getElem?_eq_some_iff.1 HI2.out).1)
          clear hW2 HI HO HB
          obtain ⟨Ao, co, eo⟩ := Kd.R_slice HO2.out
          subst eo
          go_wp2_with ((with_reducible refine gate_builtin (b := .append) (xs := #[.tmp 12, .tmp 14]) rfl ?_); at_builtin; refine Kd.R_append (Kd.int .i32) (w0 := w) w.heap.size rfl (.tmp 12) (.tmp 14) 54 21 (.int .i32 0) 4 rfl Try.underlying54 info21o rfl (by decide) (by omega) (.slice Ao x3.length co) x3 (((Utf8.decode s pos).1 : Nat) : Int) [.int .i32 (((Utf8.decode s pos).1 : Nat) : Int)] (fun k_ => k_ ≠ w1.heap.size) (fun _ => False) rfl rfl ?aP (fun _ hk => hk.elim) ?aF ?aO ?aB ?aS ?aL ?_; (case aP => exact rfl); (case aB => exact HB2.out); (case aF => exact (fun k_ hk => by have := HZ.out; omega)); (case aO => exact HO2.out); (case aS => exact HB2.out.size); (case aL => have := LM.out; omega); intro v14 w14 ho hb hg hat; have HI3 := Aside0.mk (show w14.heap[w1.heap.size]? = some (.stringIter s (pos + (Utf8.decode s pos).2)) from by rw [hg.block _ HZ.out (fun e => HO2.out.1 _ e.symm rfl)]; exact HI2.out); have HO3 := Aside0.mk ho; have HB3 := Aside0.mk hb; clear HO2 HB2 HI2 HZ ho hb hg hat)
          go_roundg k1
          case measure => have := HK.out; omega
          case rel => exact ⟨_, _, H', ⟨by have := HK.out; omega⟩, HI3, HO3, HB3⟩
        · rw [if_neg d2] at H
          cases H
      · rw [if_neg d1] at H
        have hnx := fun ty => Lib.run_next_end_at (P := Try.prog) wr w1.heap.size s pos ty HI.out d1
        clear d1
        obtain ⟨Ao, co, eo⟩ := Kd.R_slice HO.out
        subst eo
        by_cases d2 : x3.length > 0
        · rw [if_pos d2] at H
          obtain rfl := Option.some.inj H
          clear H
          have d2b : decide ((0 : Int) < (x3.length : Int)) = true := decide_eq_true (by omega)
          have d2c : decide (0 < x3.length) = true := decide_eq_true d2
          clear d2
          go_wp2
          go_ret
          exact ⟨_, rfl, Kd.R_mono HO.out (fun _ _ => trivial), HB.out⟩
        · rw [if_neg d2] at H
          have d2b : decide ((0 : Int) < (x3.length : Int)) = false := decide_eq_false (by omega)
          have d2c : decide (0 < x3.length) = false := decide_eq_false d2
          clear d2
          replace H := Option.bind_eq_some_iff.mp H
          obtain ⟨t, A2, H⟩ := H
          obtain rfl := Option.some.inj H
          clear H
          have A2' := Aside0.mk A2
          clear A2
          go_wp2_with fail
          (with_reducible refine (fold_up.calls k1 a0 t _ A2'.out).mono ?_)
          rintro e w2 ⟨rfl, hd2⟩
          have HB2 := Aside0.mk (below_then HB.out HB.out.size hd2.below)
          clear hd2 HB HO HI
          go_wp2_with ((with_reducible refine gate_dst (N := 24) rfl ?_); refine Kd.R_lit (Kd.int .i32) w.heap.size 21 ?hg (N := 24) ?hd (xs := ([wrap32 (a0 + t)] : List Int)) (inner := [.int .i32 (wrap32 (a0 + t))]) (w0 := w) (ok := fun _ => True) (okp := fun _ => True) ?hr ?hp (fun _ hk => hk) trivial HB2.out HB2.out.size (by simp) ?_; (case hd => rfl); (case hg => rfl); (case hr => first | (go_simp; done) | (go_simp; rfl)); (case hp => exact ⟨rfl, fun j p hj => by cases j with | zero => (have : p = wrap32 (a0 + t) := by simpa using hj.symm); subst this; rfl | succ j => simp at hj⟩); intro v24 w24 ho hb hg hnew; have HO3 := Aside0.mk ho; have HB3 := Aside0.mk hb; clear ho hb hg hnew)
          go_ret
          exact ⟨_, rfl, HO3.out, HB3.out⟩

/-! ### fold_Map: function 30 -/
def fold_Map.l0 : Nat → Bool → List Int → List Int → Int → Int → Option (List Int)
 | 0, _, _, _, _, _ => none
 | k + 1, x0, x5, x8, x9, x10 => if x10 < x9 then (if 0 ≤ x10 then (if x10 < (x8.length : Int) then ((chars_Is.f k (rd x8 x10) (([6] : List Int))).bind fun t302 => (if t302 = true then (fold_Map.l0 k x0 x5 x8 x9 (wrap64 (x10 + 1))) else ((chars_Is.f k (rd x8 x10) (([5] : List Int))).bind fun t306 => (if t306 = true then (if x5.length < 35184372088832 then (fold_Map.l0 k x0 (x5 ++ [32]) x8 x9 (wrap64 (x10 + 1))) else (none)) else (if x0 = true then ((fold_One.f k (rd x8 x10)).bind fun t310 => (if x5.length + t310.length < 35184372088832 then (fold_Map.l0 k x0 (x5 ++ t310) x8 x9 (wrap64 (x10 + 1))) else (none))) else (if x5.length < 35184372088832 then (fold_Map.l0 k x0 (x5 ++ [rd x8 x10]) x8 x9 (wrap64 (x10 + 1))) else (none))))))) else (none)) else (none)) else (some x5)
def fold_Map.f (k : Nat) (a0 : Bool) (l1 : List Int) : Option (List Int) := fold_Map.l0 k a0 ([] : List Int) l1 (l1.length : Int) 0
theorem fold_Map.mono_l : ∀ k, (∀ y0 y1 y2 y3 y4, LeO (fold_Map.l0 k y0 y1 y2 y3 y4) (fold_Map.l0 (k + 1) y0 y1 y2 y3 y4))
 | 0 => fun _ _ _ _ _ r h => by simp [fold_Map.l0] at h
 | k + 1 => by
  have ih0 := fold_Map.mono_l k
  ·intro y0 y1 y2 y3 y4
   unfold fold_Map.l0
   repeat' first
   | (with_reducible exact ih0 _ _ _ _ _)
   | (with_reducible exact chars_Is.mono _ _ _)
   | (with_reducible exact fold_One.mono _ _)
   | (with_reducible exact LeO.refl _)
   | exact ih0 _ _ _ _ _
   | exact chars_Is.mono _ _ _
   | exact fold_One.mono _ _
   | exact LeO.none _
   | refine LeO.ite ?_ ?_
   | refine LeO.bind ?_ (fun _ => ?_)
theorem fold_Map.mono : ∀ a0 a1 k, LeO (fold_Map.f k a0 a1) (fold_Map.f (k + 1) a0 a1) := by
 intro a0 a1 k
 have ih0 := fold_Map.mono_l k
 unfold fold_Map.f
 repeat' first
   | (with_reducible exact ih0 _ _ _ _ _)
   | (with_reducible exact chars_Is.mono _ _ _)
   | (with_reducible exact fold_One.mono _ _)
   | (with_reducible exact LeO.refl _)
   | exact ih0 _ _ _ _ _
   | exact chars_Is.mono _ _ _
   | exact fold_One.mono _ _
   | exact LeO.none _
   | refine LeO.ite ?_ ?_
   | refine LeO.bind ?_ (fun _ => ?_)
set_option maxHeartbeats 8000000 in
set_option maxRecDepth 100000 in
theorem fold_Map.calls (k : Nat) (a0 : Bool) (A1 : Option Addr) (c1 : Nat) (l1 : List Int) (r : List Int) (w : World) (hr1 : Kd.C (Kd.int .i32) w A1 l1.length l1) (hc1 : l1.length ≤ c1) (h : fold_Map.f k a0 l1 = some r) :
  Calls Try.prog 30 #[.bool a0, .slice A1 l1.length c1] w fun e w' => ∃ v0_ : Value, e = .returned (v0_) ∧ Kd.R (Kd.int .i32) 21 w' w.heap.size (fun _ => True) v0_ r ∧ Below w.heap.size w w' := by
 have HR1 := aM hr1
 have HC1 := aM hc1
 clear hr1 hc1
 have HB := aM (Below.refl w.heap.size w)
 have H := h
 clear h
 unfold fold_Map.f at H
 have H' := aM H
 clear H
 go_enter Try.func30, Try.ntmps30
 go_wp2
 (repeat (go_step3; try (go_wp2)))
 go_loopg [5, 10] k (fun kq v5 v10 w' => ∃ (x5_1 : List Int) (x10_1 : Int), v10 = .int .i64 x10_1 ∧ Aside0 (fold_Map.l0 kq a0 x5_1 l1 (l1.length : Int) x10_1 = some r) ∧ Aside0 (kq ≤ k) ∧ Aside0 (Kd.R (Kd.int .i32) 21 w' w.heap.size (fun _ => True) v5 x5_1) ∧ Aside0 (Below w.heap.size w w'))
 case atStart => exact ⟨(([] : List Int)), (0), zP, H', ⟨Nat.le_refl _⟩, ⟨zL⟩, ⟨zB⟩⟩
 case round =>
  clear H'
  try clear c1
  try clear p2
  obtain ⟨x5_1, x10_1, rfl, HA, HK1, HO_5, HB⟩ := hrel
  cases gk with
  | zero => exact absurd HA.out (by simp [fold_Map.l0])
  | succ k1 =>
   have H := HA.out
   clear HA
   simp only [fold_Map.l0] at H
   by_cases c3 : x10_1 < (l1.length : Int)
   ·rw [if_pos c3] at H
    have c3b0 : decide (x10_1 < (l1.length : Int)) = true := decide_eq_true c3
    clear c3
    by_cases c4 : 0 ≤ x10_1
    ·rw [if_pos c4] at H
     have c4b0 : decide (0 ≤ x10_1) = true := decide_eq_true c4
     clear c4
     by_cases c5 : x10_1 < (l1.length : Int)
     ·rw [if_pos c5] at H
      have c5b0 : decide (x10_1 < (l1.length : Int)) = true := decide_eq_true c5
      clear c5
      obtain ⟨y299, hy299⟩ : ∃ y_ : List Int, y_ = (([6] : List Int)) := ⟨_, rfl⟩
      replace H : ((chars_Is.f k1 (rd l1 x10_1) y299).bind fun t302 => (if t302 = true then (fold_Map.l0 k1 a0 x5_1 l1 (l1.length : Int) (wrap64 (x10_1 + 1))) else ((chars_Is.f k1 (rd l1 x10_1) (([5] : List Int))).bind fun t306 => (if t306 = true then (if x5_1.length < 35184372088832 then (fold_Map.l0 k1 a0 (x5_1 ++ [32]) l1 (l1.length : Int) (wrap64 (x10_1 + 1))) else (none)) else (if a0 = true then ((fold_One.f k1 (rd l1 x10_1)).bind fun t310 => (if x5_1.length + t310.length < 35184372088832 then (fold_Map.l0 k1 a0 (x5_1 ++ t310) l1 (l1.length : Int) (wrap64 (x10_1 + 1))) else (none))) else (if x5_1.length < 35184372088832 then (fold_Map.l0 k1 a0 (x5_1 ++ [rd l1 x10_1]) l1 (l1.length : Int) (wrap64 (x10_1 + 1))) else (none))))))) = some r := zY hy299 H
      have Ny299 := aM hy299
      clear hy299
      obtain ⟨t302, A6, H⟩ := zO H
      by_cases c7 : t302 = true
      ·subst c7
       rw [if_pos rfl] at H
       have H' := aM H
       clear H
       have p298 : 0 ≤ (x10_1 : Int) := zoA
       have q298 : x10_1 < (l1.length : Int) := zoA
       obtain ⟨ad298, e298, hx298_0⟩ := Kd.at_int HR1.out x10_1 p298 q298
       cases e298
       replace hx298_0 := (HB.out.cell (World.block_lt_of_cell? w _ hx298_0)).trans hx298_0
       replace p298 := eq_true p298
       replace q298 := eq_true q298
       go_wp2_with (first | ((with_reducible refine gate_dst (N := 20) rfl ?_); refine Kd.R_lit (Kd.int .i64) _ 3 ?hg (N := 20) ?hd (xs := ([6] : List Int)) (inner := [.int .i64 6]) (ok := fun _ => True) (okp := fun _ => True) ?hr ?hp (fun _ hk => hk) trivial (Below.refl _ _) (Nat.le_refl _) (by simp) ?_; (case hd => rfl); (case hg => rfl); (case hr => first | (go_simp; done) | (go_simp; rfl)); (case hp => exact (Reps.one (show Kd.M (Kd.int .i64) _ _ _ 6 [.int .i64 6] from rfl) (Reps.none _ _))); intro v300 w8 ho9 hb hg_ hnew_; clear hg_ hnew_; (first | rw [← Ny299.out] at ho9 | (simp only [Int.reduceToNat] at ho9; rw [← Ny299.out] at ho9)); have n_ := zI (aM (Kd.R_below (zR HO_5) hb)) (zI (aM (Kd.R_lower ho9 (below_size zB))) (aM (below_step zB hb))); clear HO_5 HB; obtain ⟨HO_5, HO301, HB⟩ := n_; clear hb ho9; obtain ⟨Ao10, co10, rfl⟩ := Kd.R_slice HO301.out) | ((with_reducible refine gate_callee (f := 46) rfl ?_); refine goesL_ (some 21) rfl rfl Try.func46 zK rfl #[.int .i32 (rd l1 x10_1), .slice Ao10 y299.length co10] rfl zM ?_; (with_reducible refine (chars_Is.calls k1 (rd l1 x10_1) _ _ y299 true _ ?side1 ?side2 A6.out).mono ?_); (case side1 => exact zC (Kd.R_reads' HO301.out).2.2); (case side2 => exact (Kd.R_reads' HO301.out).2.1); rintro e w' ⟨rfl, ⟨nd, rfl⟩⟩; (try clear A6); refine ⟨_, rfl, ?_⟩))
       go_roundg k1
       case measure => have := HK1.out; omega
       case rel => exact ⟨(x5_1), (wrap64 (x10_1 + 1)), zP, H', ⟨by have := HK1.out; omega⟩, ⟨zR HO_5⟩, ⟨zB⟩⟩
      ·replace c7 := Bool.eq_false_iff.mpr c7
       subst c7
       rw [if_neg (show ¬ (false = true) by decide)] at H
       obtain ⟨y303, hy303⟩ : ∃ y_ : List Int, y_ = (([5] : List Int)) := ⟨_, rfl⟩
       replace H : ((chars_Is.f k1 (rd l1 x10_1) y303).bind fun t306 => (if t306 = true then (if x5_1.length < 35184372088832 then (fold_Map.l0 k1 a0 (x5_1 ++ [32]) l1 (l1.length : Int) (wrap64 (x10_1 + 1))) else (none)) else (if a0 = true then ((fold_One.f k1 (rd l1 x10_1)).bind fun t310 => (if x5_1.length + t310.length < 35184372088832 then (fold_Map.l0 k1 a0 (x5_1 ++ t310) l1 (l1.length : Int) (wrap64 (x10_1 + 1))) else (none))) else (if x5_1.length < 35184372088832 then (fold_Map.l0 k1 a0 (x5_1 ++ [rd l1 x10_1]) l1 (l1.length : Int) (wrap64 (x10_1 + 1))) else (none))))) = some r := zY hy303 H
       have Ny303 := aM hy303
       clear hy303
       obtain ⟨t306, A11, H⟩ := zO H
       by_cases c12 : t306 = true
       ·subst c12
        rw [if_pos rfl] at H
        by_cases c13 : x5_1.length < 35184372088832
        ·rw [if_pos c13] at H
         have LMc13 := aM c13
         clear c13
         obtain ⟨y307, hy307⟩ : ∃ y_ : List Int, y_ = (x5_1 ++ [32]) := ⟨_, rfl⟩
         replace H : (fold_Map.l0 k1 a0 y307 l1 (l1.length : Int) (wrap64 (x10_1 + 1))) = some r := zY hy307 H
         have Ny307 := aM hy307
         clear hy307
         have H' := aM H
         clear H
         have p298 : 0 ≤ (x10_1 : Int) := zoA
         have q298 : x10_1 < (l1.length : Int) := zoA
         obtain ⟨ad298, e298, hx298_0⟩ := Kd.at_int HR1.out x10_1 p298 q298
         cases e298
         replace hx298_0 := (HB.out.cell (World.block_lt_of_cell? w _ hx298_0)).trans hx298_0
         replace p298 := eq_true p298
         replace q298 := eq_true q298
         go_wp2_with (first | ((with_reducible refine gate_dst (N := 20) rfl ?_); refine Kd.R_lit (Kd.int .i64) _ 3 ?hg (N := 20) ?hd (xs := ([6] : List Int)) (inner := [.int .i64 6]) (ok := fun _ => True) (okp := fun _ => True) ?hr ?hp (fun _ hk => hk) trivial (Below.refl _ _) (Nat.le_refl _) (by simp) ?_; (case hd => rfl); (case hg => rfl); (case hr => first | (go_simp; done) | (go_simp; rfl)); (case hp => exact (Reps.one (show Kd.M (Kd.int .i64) _ _ _ 6 [.int .i64 6] from rfl) (Reps.none _ _))); intro v300 w14 ho15 hb hg_ hnew_; clear hg_ hnew_; (first | rw [← Ny299.out] at ho15 | (simp only [Int.reduceToNat] at ho15; rw [← Ny299.out] at ho15)); have n_ := zI (aM (Kd.R_below (zR HO_5) hb)) (zI (aM (Kd.R_lower ho15 (below_size zB))) (aM (below_step zB hb))); clear HO_5 HB; obtain ⟨HO_5, HO301, HB⟩ := n_; clear hb ho15; obtain ⟨Ao16, co16, rfl⟩ := Kd.R_slice HO301.out) | ((with_reducible refine gate_callee (f := 46) rfl ?_); refine goesL_ (some 21) rfl rfl Try.func46 zK rfl #[.int .i32 (rd l1 x10_1), .slice Ao16 y299.length co16] rfl zM ?_; (with_reducible refine (chars_Is.calls k1 (rd l1 x10_1) _ _ y299 false _ ?side1 ?side2 A6.out).mono ?_); (case side1 => exact zC (Kd.R_reads' HO301.out).2.2); (case side2 => exact (Kd.R_reads' HO301.out).2.1); rintro e w' ⟨rfl, ⟨nd, rfl⟩⟩; (try clear A6); refine ⟨_, rfl, ?_⟩) | ((with_reducible refine gate_dst (N := 24) rfl ?_); refine Kd.R_lit (Kd.int .i64) _ 3 ?hg (N := 24) ?hd (xs := ([5] : List Int)) (inner := [.int .i64 5]) (ok := fun _ => True) (okp := fun _ => True) ?hr ?hp (fun _ hk => hk) trivial (Below.refl _ _) (Nat.le_refl _) (by simp) ?_; (case hd => rfl); (case hg => rfl); (case hr => first | (go_simp; done) | (go_simp; rfl)); (case hp => exact (Reps.one (show Kd.M (Kd.int .i64) _ _ _ 5 [.int .i64 5] from rfl) (Reps.none _ _))); intro v304 w17 ho18 hb hg_ hnew_; clear hg_ hnew_; (first | rw [← Ny303.out] at ho18 | (simp only [Int.reduceToNat] at ho18; rw [← Ny303.out] at ho18)); have n_ := zI (aM (Kd.R_below (zR HO_5) hb)) (zI (aM (Kd.R_elder' (zR HO301) (Kd.R_base ho18) hb)) (zI (aM (Kd.R_lower (Kd.R_new' ho18 (Kd.R_lt (zR HO301))) (below_size zB))) (aM (below_step zB hb)))); clear HO_5 HO301 HB; obtain ⟨HO_5, HO301, HO305, HB⟩ := n_; clear hb ho18; obtain ⟨Ao19, co19, rfl⟩ := Kd.R_slice HO305.out) | ((with_reducible refine gate_callee (f := 46) rfl ?_); refine goesL_ (some 25) rfl rfl Try.func46 zK rfl #[.int .i32 (rd l1 x10_1), .slice Ao19 y303.length co19] rfl zM ?_; (with_reducible refine (chars_Is.calls k1 (rd l1 x10_1) _ _ y303 true _ ?side1 ?side2 A11.out).mono ?_); (case side1 => exact zC (Kd.R_reads' HO305.out).2.2); (case side2 => exact (Kd.R_reads' HO305.out).2.1); rintro e w' ⟨rfl, ⟨nd, rfl⟩⟩; (try clear A11); refine ⟨_, rfl, ?_⟩) | ((with_reducible refine gate_builtin (b := .append) (xs := #[.tmp 26, .tmp 27]) rfl ?_); at_builtin; refine Kd.R_append (Kd.int .i32) (w0 := w) w.heap.size rfl (.tmp 26) (.tmp 27) 54 21 (.int .i32 0) 4 rfl Try.underlying54 info21 rfl (by decide) (by omega) u5 x5_1 32 [.int .i32 32] (fun _ => True) (fun _ => False) rfl rfl ?aP (fun _ hk => hk.elim) ?aF ?aO ?aB ?aS ?aL ?_; (case aP => exact rfl); (case aB => exact zB); (case aF => exact (fun _ _ => trivial)); (case aO => exact (zR HO_5)); (case aS => exact (below_size zB)); (case aL => have := LMc13.out; omega); intro v308 w20 ho hb hg hat; rw [← Ny307.out] at ho; have n_ := zI (aM (Kd.R_over' (zR HO301) (Kd.R_typed (zR HO_5)) (by decide) hg)) (zI (aM (Kd.R_over' (zR HO305) (Kd.R_typed (zR HO_5)) (by decide) hg)) (zI (aM (hb)) (aM (ho)))); clear HO301 HO305 HB HO_5; obtain ⟨HO301, HO305, HB, HO309⟩ := n_; clear ho hb hg hat))
         go_roundg k1
         case measure => have := HK1.out; omega
         case rel => exact ⟨(y307), (wrap64 (x10_1 + 1)), zP, H', ⟨by have := HK1.out; omega⟩, ⟨zR HO309⟩, ⟨zB⟩⟩
        ·rw [if_neg c13] at H
         exact absurd H (by simp)
       ·replace c12 := Bool.eq_false_iff.mpr c12
        subst c12
        rw [if_neg (show ¬ (false = true) by decide)] at H
        by_cases c21 : a0 = true
        ·subst c21
         rw [if_pos rfl] at H
         obtain ⟨t310, A22, H⟩ := zO H
         by_cases c23 : x5_1.length + t310.length < 35184372088832
         ·rw [if_pos c23] at H
          have LMc23 := aM c23
          clear c23
          obtain ⟨y313, hy313⟩ : ∃ y_ : List Int, y_ = (x5_1 ++ t310) := ⟨_, rfl⟩
          replace H : (fold_Map.l0 k1 true y313 l1 (l1.length : Int) (wrap64 (x10_1 + 1))) = some r := zY hy313 H
          have Ny313 := aM hy313
          clear hy313
          have H' := aM H
          clear H
          have p298 : 0 ≤ (x10_1 : Int) := zoA
          have q298 : x10_1 < (l1.length : Int) := zoA
          obtain ⟨ad298, e298, hx298_0⟩ := Kd.at_int HR1.out x10_1 p298 q298
          cases e298
          replace hx298_0 := (HB.out.cell (World.block_lt_of_cell? w _ hx298_0)).trans hx298_0
          replace p298 := eq_true p298
          replace q298 := eq_true q298
          go_wp2_with (first | ((with_reducible refine gate_dst (N := 20) rfl ?_); refine Kd.R_lit (Kd.int .i64) _ 3 ?hg (N := 20) ?hd (xs := ([6] : List Int)) (inner := [.int .i64 6]) (ok := fun _ => True) (okp := fun _ => True) ?hr ?hp (fun _ hk => hk) trivial (Below.refl _ _) (Nat.le_refl _) (by simp) ?_; (case hd => rfl); (case hg => rfl); (case hr => first | (go_simp; done) | (go_simp; rfl)); (case hp => exact (Reps.one (show Kd.M (Kd.int .i64) _ _ _ 6 [.int .i64 6] from rfl) (Reps.none _ _))); intro v300 w24 ho25 hb hg_ hnew_; clear hg_ hnew_; (first | rw [← Ny299.out] at ho25 | (simp only [Int.reduceToNat] at ho25; rw [← Ny299.out] at ho25)); have n_ := zI (aM (Kd.R_below (zR HO_5) hb)) (zI (aM (Kd.R_lower ho25 (below_size zB))) (aM (below_step zB hb))); clear HO_5 HB; obtain ⟨HO_5, HO301, HB⟩ := n_; clear hb ho25; obtain ⟨Ao26, co26, rfl⟩ := Kd.R_slice HO301.out) | ((with_reducible refine gate_callee (f := 46) rfl ?_); refine goesL_ (some 21) rfl rfl Try.func46 zK rfl #[.int .i32 (rd l1 x10_1), .slice Ao26 y299.length co26] rfl zM ?_; (with_reducible refine (chars_Is.calls k1 (rd l1 x10_1) _ _ y299 false _ ?side1 ?side2 A6.out).mono ?_); (case side1 => exact zC (Kd.R_reads' HO301.out).2.2); (case side2 => exact (Kd.R_reads' HO301.out).2.1); rintro e w' ⟨rfl, ⟨nd, rfl⟩⟩; (try clear A6); refine ⟨_, rfl, ?_⟩) | ((with_reducible refine gate_dst (N := 24) rfl ?_); refine Kd.R_lit (Kd.int .i64) _ 3 ?hg (N := 24) ?hd (xs := ([5] : List Int)) (inner := [.int .i64 5]) (ok := fun _ => True) (okp := fun _ => True) ?hr ?hp (fun _ hk => hk) trivial (Below.refl _ _) (Nat.le_refl _) (by simp) ?_; (case hd => rfl); (case hg => rfl); (case hr => first | (go_simp; done) | (go_simp; rfl)); (case hp => exact (Reps.one (show Kd.M (Kd.int .i64) _ _ _ 5 [.int .i64 5] from rfl) (Reps.none _ _))); intro v304 w27 ho28 hb hg_ hnew_; clear hg_ hnew_; (first | rw [← Ny303.out] at ho28 | (simp only [Int.reduceToNat] at ho28; rw [← Ny303.out] at ho28)); have n_ := zI (aM (Kd.R_below (zR HO_5) hb)) (zI (aM (Kd.R_elder' (zR HO301) (Kd.R_base ho28) hb)) (zI (aM (Kd.R_lower (Kd.R_new' ho28 (Kd.R_lt (zR HO301))) (below_size zB))) (aM (below_step zB hb)))); clear HO_5 HO301 HB; obtain ⟨HO_5, HO301, HO305, HB⟩ := n_; clear hb ho28; obtain ⟨Ao29, co29, rfl⟩ := Kd.R_slice HO305.out) | ((with_reducible refine gate_callee (f := 46) rfl ?_); refine goesL_ (some 25) rfl rfl Try.func46 zK rfl #[.int .i32 (rd l1 x10_1), .slice Ao29 y303.length co29] rfl zM ?_; (with_reducible refine (chars_Is.calls k1 (rd l1 x10_1) _ _ y303 false _ ?side1 ?side2 A11.out).mono ?_); (case side1 => exact zC (Kd.R_reads' HO305.out).2.2); (case side2 => exact (Kd.R_reads' HO305.out).2.1); rintro e w' ⟨rfl, ⟨nd, rfl⟩⟩; (try clear A11); refine ⟨_, rfl, ?_⟩) | ((with_reducible refine gate_callee (f := 47) rfl ?_); refine goesL_ (some 33) rfl rfl Try.func47 zK rfl #[.int .i32 (rd l1 x10_1)] rfl zM ?_; (with_reducible refine (fold_One.calls k1 (rd l1 x10_1) t310 _ A22.out).mono ?_); rintro e w30 ⟨v311, rfl, ho0, hb⟩; refine ⟨_, rfl, ?_⟩; have n_ := zI (aM (Kd.R_elder' (zR HO_5) (Kd.R_base ho0) hb)) (zI (aM (Kd.R_below (zR HO301) hb)) (zI (aM (Kd.R_below (zR HO305) hb)) (zI (aM (Kd.R_lower (Kd.R_new' ho0 (Kd.R_lt (zR HO_5))) (below_size zB))) (aM (below_step zB hb))))); clear HO_5 HO301 HO305 HB; obtain ⟨HO_5, HO301, HO305, HO312, HB⟩ := n_; (try clear hb); (try clear hk); (try clear ho0); obtain ⟨Ao32, co32, rfl⟩ := Kd.R_slice HO312.out) | ((with_reducible refine gate_builtin (b := .append) (xs := #[.tmp 31, .tmp 33]) rfl ?_); at_builtin; refine Kd.R_append_rows (Kd.int .i32) (w0 := w) w.heap.size rfl (.tmp 31) (.tmp 33) 54 21 (.int .i32 0) 4 rfl Try.underlying54 info21 rfl (by decide) (by omega) u5 x5_1 t310 _ _ _ (fun k_ => some k_ ≠ (.slice Ao32 t310.length co32 : Value).ownBlock) (fun _ => False) rfl rfl ?aO ?aR (fun _ _ h => h) (fun _ h => h.elim) ?aF ?aB ?aS ?aL ?_; (case aR => repeat (first | exact (Kd.R_reads' HO312.out).2.2 | (with_reducible refine Kd.C_alloc ?_ _) | (with_reducible refine Kd.C_drewN ?_ _) | (with_reducible refine Kd.C_drew ?_))); (case aB => exact zB); (case aF => exact (fun k_ hk => Kd.fresh' (Kd.R_lt (zR HO312)) k_ hk)); (case aO => exact (by (with_reducible repeat (first | apply Kd.R_alloc | apply Kd.R_drewN | apply Kd.R_drew)); exact Kd.R_mono HO_5.out (fun _ hk => hk.2))); (case aS => exact (below_size zB)); (case aL => have := LMc23.out; omega); intro v314 w31 ho hb hg hat; rw [← Ny313.out] at ho; have n_ := zI (aM (Kd.R_over' (zR HO301) (Kd.R_typed (zR HO_5)) (by decide) hg)) (zI (aM (Kd.R_over' (zR HO305) (Kd.R_typed (zR HO_5)) (by decide) hg)) (zI (aM (Kd.R_after (ok := (fun _ => True)) (zR HO312) hg hat)) (zI (aM (hb)) (aM (ho))))); clear HO301 HO305 HO312 HB HO_5; obtain ⟨HO301, HO305, HO312, HB, HO315⟩ := n_; clear ho hb hg hat))
          go_roundg k1
          case measure => have := HK1.out; omega
          case rel => exact ⟨(y313), (wrap64 (x10_1 + 1)), zP, H', ⟨by have := HK1.out; omega⟩, ⟨by (with_reducible repeat (first | apply Kd.R_alloc | apply Kd.R_drewN | apply Kd.R_drew)); exact Kd.R_mono HO315.out (fun _ hk => trivial)⟩, ⟨zB⟩⟩
         ·rw [if_neg c23] at H
          exact absurd H (by simp)
        ·replace c21 := Bool.eq_false_iff.mpr c21
         subst c21
         rw [if_neg (show ¬ (false = true) by decide)] at H
         by_cases c33 : x5_1.length < 35184372088832
         ·rw [if_pos c33] at H
          have LMc33 := aM c33
          clear c33
          obtain ⟨y316, hy316⟩ : ∃ y_ : List Int, y_ = (x5_1 ++ [rd l1 x10_1]) := ⟨_, rfl⟩
          replace H : (fold_Map.l0 k1 false y316 l1 (l1.length : Int) (wrap64 (x10_1 + 1))) = some r := zY hy316 H
          have Ny316 := aM hy316
          clear hy316
          have H' := aM H
          clear H
          have p298 : 0 ≤ (x10_1 : Int) := zoA
          have q298 : x10_1 < (l1.length : Int) := zoA
          obtain ⟨ad298, e298, hx298_0⟩ := Kd.at_int HR1.out x10_1 p298 q298
          cases e298
          replace hx298_0 := (HB.out.cell (World.block_lt_of_cell? w _ hx298_0)).trans hx298_0
          replace p298 := eq_true p298
          replace q298 := eq_true q298
          go_wp2_with (first | ((with_reducible refine gate_dst (N := 20) rfl ?_); refine Kd.R_lit (Kd.int .i64) _ 3 ?hg (N := 20) ?hd (xs := ([6] : List Int)) (inner := [.int .i64 6]) (ok := fun _ => True) (okp := fun _ => True) ?hr ?hp (fun _ hk => hk) trivial (Below.refl _ _) (Nat.le_refl _) (by simp) ?_; (case hd => rfl); (case hg => rfl); (case hr => first | (go_simp; done) | (go_simp; rfl)); (case hp => exact (Reps.one (show Kd.M (Kd.int .i64) _ _ _ 6 [.int .i64 6] from rfl) (Reps.none _ _))); intro v300 w34 ho35 hb hg_ hnew_; clear hg_ hnew_; (first | rw [← Ny299.out] at ho35 | (simp only [Int.reduceToNat] at ho35; rw [← Ny299.out] at ho35)); have n_ := zI (aM (Kd.R_below (zR HO_5) hb)) (zI (aM (Kd.R_lower ho35 (below_size zB))) (aM (below_step zB hb))); clear HO_5 HB; obtain ⟨HO_5, HO301, HB⟩ := n_; clear hb ho35; obtain ⟨Ao36, co36, rfl⟩ := Kd.R_slice HO301.out) | ((with_reducible refine gate_callee (f := 46) rfl ?_); refine goesL_ (some 21) rfl rfl Try.func46 zK rfl #[.int .i32 (rd l1 x10_1), .slice Ao36 y299.length co36] rfl zM ?_; (with_reducible refine (chars_Is.calls k1 (rd l1 x10_1) _ _ y299 false _ ?side1 ?side2 A6.out).mono ?_); (case side1 => exact zC (Kd.R_reads' HO301.out).2.2); (case side2 => exact (Kd.R_reads' HO301.out).2.1); rintro e w' ⟨rfl, ⟨nd, rfl⟩⟩; (try clear A6); refine ⟨_, rfl, ?_⟩) | ((with_reducible refine gate_dst (N := 24) rfl ?_); refine Kd.R_lit (Kd.int .i64) _ 3 ?hg (N := 24) ?hd (xs := ([5] : List Int)) (inner := [.int .i64 5]) (ok := fun _ => True) (okp := fun _ => True) ?hr ?hp (fun _ hk => hk) trivial (Below.refl _ _) (Nat.le_refl _) (by simp) ?_; (case hd => rfl); (case hg => rfl); (case hr => first | (go_simp; done) | (go_simp; rfl)); (case hp => exact (Reps.one (show Kd.M (Kd.int .i64) _ _ _ 5 [.int .i64 5] from rfl) (Reps.none _ _))); intro v304 w37 ho38 hb hg_ hnew_; clear hg_ hnew_; (first | rw [← Ny303.out] at ho38 | (simp only [Int.reduceToNat] at ho38; rw [← Ny303.out] at ho38)); have n_ := zI (aM (Kd.R_below (zR HO_5) hb)) (zI (aM (Kd.R_elder' (zR HO301) (Kd.R_base ho38) hb)) (zI (aM (Kd.R_lower (Kd.R_new' ho38 (Kd.R_lt (zR HO301))) (below_size zB))) (aM (below_step zB hb)))); clear HO_5 HO301 HB; obtain ⟨HO_5, HO301, HO305, HB⟩ := n_; clear hb ho38; obtain ⟨Ao39, co39, rfl⟩ := Kd.R_slice HO305.out) | ((with_reducible refine gate_callee (f := 46) rfl ?_); refine goesL_ (some 25) rfl rfl Try.func46 zK rfl #[.int .i32 (rd l1 x10_1), .slice Ao39 y303.length co39] rfl zM ?_; (with_reducible refine (chars_Is.calls k1 (rd l1 x10_1) _ _ y303 false _ ?side1 ?side2 A11.out).mono ?_); (case side1 => exact zC (Kd.R_reads' HO305.out).2.2); (case side2 => exact (Kd.R_reads' HO305.out).2.1); rintro e w' ⟨rfl, ⟨nd, rfl⟩⟩; (try clear A11); refine ⟨_, rfl, ?_⟩) | ((with_reducible refine gate_builtin (b := .append) (xs := #[.tmp 14, .tmp 16]) rfl ?_); at_builtin; refine Kd.R_append (Kd.int .i32) (w0 := w) w.heap.size rfl (.tmp 14) (.tmp 16) 54 21 (.int .i32 0) 4 rfl Try.underlying54 info21 rfl (by decide) (by omega) u5 x5_1 (rd l1 x10_1) [.int .i32 (rd l1 x10_1)] (fun _ => True) (fun _ => False) rfl rfl ?aP (fun _ hk => hk.elim) ?aF ?aO ?aB ?aS ?aL ?_; (case aP => exact rfl); (case aB => exact zB); (case aF => exact (fun _ _ => trivial)); (case aO => exact (zR HO_5)); (case aS => exact (below_size zB)); (case aL => have := LMc33.out; omega); intro v317 w40 ho hb hg hat; rw [← Ny316.out] at ho; have n_ := zI (aM (Kd.R_over' (zR HO301) (Kd.R_typed (zR HO_5)) (by decide) hg)) (zI (aM (Kd.R_over' (zR HO305) (Kd.R_typed (zR HO_5)) (by decide) hg)) (zI (aM (hb)) (aM (ho)))); clear HO301 HO305 HB HO_5; obtain ⟨HO301, HO305, HB, HO318⟩ := n_; clear ho hb hg hat))
          go_roundg k1
          case measure => have := HK1.out; omega
          case rel => exact ⟨(y316), (wrap64 (x10_1 + 1)), zP, H', ⟨by have := HK1.out; omega⟩, ⟨zR HO318⟩, ⟨zB⟩⟩
         ·rw [if_neg c33] at H
          exact absurd H (by simp)
     ·rw [if_neg c5] at H
      exact absurd H (by simp)
    ·rw [if_neg c4] at H
     exact absurd H (by simp)
   ·rw [if_neg c3] at H
    have c3b0 : decide (x10_1 < (l1.length : Int)) = false := decide_eq_false c3
    clear c3
    obtain rfl := sI H
    go_wp2
    (try rw [Exit.noGoto_ret])
    go_ret
    exact ⟨_, zE, zR HO_5, zB⟩

/-! ### guard_Fit: function 49 -/
def guard_Fit.f (k : Nat) (a0 : Int) : Option (Bool) := (chars_Is.f k a0 (([0, 7] : List Int))).bind fun t322 => (some (!t322))
theorem guard_Fit.mono : ∀ a0 k, LeO (guard_Fit.f k a0) (guard_Fit.f (k + 1) a0) := by
 intro a0 k
 unfold guard_Fit.f
 repeat' first
   | (with_reducible exact chars_Is.mono _ _ _)
   | (with_reducible exact LeO.refl _)
   | exact chars_Is.mono _ _ _
   | exact LeO.none _
   | refine LeO.ite ?_ ?_
   | refine LeO.bind ?_ (fun _ => ?_)
set_option maxHeartbeats 8000000 in
set_option maxRecDepth 100000 in
theorem guard_Fit.calls (k : Nat) (a0 : Int) (r : Bool) (w : World) (h : guard_Fit.f k a0 = some r) :
  Calls Try.prog 49 #[.int .i32 a0] w fun e w' => e = .returned (.bool r) ∧ Below w.heap.size w w' := by
 have HB := aM (Below.refl w.heap.size w)
 have H := h
 clear h
 unfold guard_Fit.f at H
 obtain ⟨y319, hy319⟩ : ∃ y_ : List Int, y_ = (([0, 7] : List Int)) := ⟨_, rfl⟩
 replace H : ((chars_Is.f k a0 y319).bind fun t322 => (some (!t322))) = some r := zY hy319 H
 have Ny319 := aM hy319
 clear hy319
 obtain ⟨t322, A2, H⟩ := zO H
 obtain rfl := sI H
 go_enter Try.func49, Try.ntmps49
 go_wp2_with (first | ((with_reducible refine gate_dst (N := 4) rfl ?_); refine Kd.R_lit (Kd.int .i64) _ 3 ?hg (N := 4) ?hd (xs := ([0, 7] : List Int)) (inner := [.int .i64 0, .int .i64 7]) (ok := fun _ => True) (okp := fun _ => True) ?hr ?hp (fun _ hk => hk) trivial (Below.refl _ _) (Nat.le_refl _) (by simp) ?_; (case hd => rfl); (case hg => rfl); (case hr => first | (go_simp; done) | (go_simp; rfl)); (case hp => exact (Reps.one (show Kd.M (Kd.int .i64) _ _ _ 0 [.int .i64 0] from rfl) (Reps.one (show Kd.M (Kd.int .i64) _ _ _ 7 [.int .i64 7] from rfl) (Reps.none _ _)))); intro v320 w3 ho4 hb hg_ hnew_; clear hg_ hnew_; (first | rw [← Ny319.out] at ho4 | (simp only [Int.reduceToNat] at ho4; rw [← Ny319.out] at ho4)); have n_ := zI (aM (Kd.R_lower ho4 (below_size zB))) (aM (below_step zB hb)); clear HB; obtain ⟨HO321, HB⟩ := n_; clear hb ho4; obtain ⟨Ao5, co5, rfl⟩ := Kd.R_slice HO321.out) | ((with_reducible refine gate_callee (f := 46) rfl ?_); refine goesL_ (some 5) rfl rfl Try.func46 zK rfl #[.int .i32 a0, .slice Ao5 y319.length co5] rfl zM ?_; (with_reducible refine (chars_Is.calls k a0 _ _ y319 t322 _ ?side1 ?side2 A2.out).mono ?_); (case side1 => exact zC (Kd.R_reads' HO321.out).2.2); (case side2 => exact (Kd.R_reads' HO321.out).2.1); rintro e w' ⟨rfl, ⟨nd, rfl⟩⟩; refine ⟨_, rfl, ?_⟩))
 go_ret
 exact ⟨zE, zB⟩

/-! ### guard_first_rune_guard_Fit: function 122 -/
def guard_first_rune_guard_Fit.l0 : Nat → List Int → List Int → Int → Int → Option (Int)
 | 0, _, _, _, _ => none
 | k + 1, x0, x7, x8, x9 => if x9 < x8 then (if 0 ≤ x9 then (if x9 < (x7.length : Int) then ((guard_Fit.f k (rd x7 x9)).bind fun t324 => (if t324 = true then (guard_first_rune_guard_Fit.l0 k x0 x7 x8 (wrap64 (x9 + 1))) else (some x9))) else (none)) else (none)) else (some (x0.length : Int))
def guard_first_rune_guard_Fit.f (k : Nat) (l0 : List Int) (a1 : Int) : Option (Int) := guard_first_rune_guard_Fit.l0 k l0 l0 (l0.length : Int) 0
theorem guard_first_rune_guard_Fit.mono_l : ∀ k, (∀ y0 y1 y2 y3, LeO (guard_first_rune_guard_Fit.l0 k y0 y1 y2 y3) (guard_first_rune_guard_Fit.l0 (k + 1) y0 y1 y2 y3))
 | 0 => fun _ _ _ _ r h => by simp [guard_first_rune_guard_Fit.l0] at h
 | k + 1 => by
  have ih0 := guard_first_rune_guard_Fit.mono_l k
  ·intro y0 y1 y2 y3
   unfold guard_first_rune_guard_Fit.l0
   repeat' first
   | (with_reducible exact ih0 _ _ _ _)
   | (with_reducible exact guard_Fit.mono _ _)
   | (with_reducible exact LeO.refl _)
   | exact ih0 _ _ _ _
   | exact guard_Fit.mono _ _
   | exact LeO.none _
   | refine LeO.ite ?_ ?_
   | refine LeO.bind ?_ (fun _ => ?_)
theorem guard_first_rune_guard_Fit.mono : ∀ a0 a1 k, LeO (guard_first_rune_guard_Fit.f k a0 a1) (guard_first_rune_guard_Fit.f (k + 1) a0 a1) := by
 intro a0 a1 k
 have ih0 := guard_first_rune_guard_Fit.mono_l k
 unfold guard_first_rune_guard_Fit.f
 repeat' first
   | (with_reducible exact ih0 _ _ _ _)
   | (with_reducible exact guard_Fit.mono _ _)
   | (with_reducible exact LeO.refl _)
   | exact ih0 _ _ _ _
   | exact guard_Fit.mono _ _
   | exact LeO.none _
   | refine LeO.ite ?_ ?_
   | refine LeO.bind ?_ (fun _ => ?_)
set_option maxHeartbeats 8000000 in
set_option maxRecDepth 100000 in
theorem guard_first_rune_guard_Fit.calls (k : Nat) (A0 : Option Addr) (c0 : Nat) (l0 : List Int) (a1 : Int) (r : Int) (w : World) (hr0 : Kd.C (Kd.int .i32) w A0 l0.length l0) (hc0 : l0.length ≤ c0) (h : guard_first_rune_guard_Fit.f k l0 a1 = some r) :
  Calls Try.prog 48 #[.slice A0 l0.length c0, .func (.func 49) #[] #[]] w fun e w' => e = .returned (.int .i64 r) ∧ Below w.heap.size w w' := by
 have HR0 := aM hr0
 have HC0 := aM hc0
 clear hr0 hc0
 have HB := aM (Below.refl w.heap.size w)
 have H := h
 clear h
 unfold guard_first_rune_guard_Fit.f at H
 have H' := aM H
 clear H
 go_enter Try.func48, Try.ntmps48
 go_wp2
 go_loopg [9] k (fun kq v9 w' => ∃ (x9_1 : Int), v9 = .int .i64 x9_1 ∧ Aside0 (guard_first_rune_guard_Fit.l0 kq l0 l0 (l0.length : Int) x9_1 = some r) ∧ Aside0 (kq ≤ k) ∧ Aside0 (Below w.heap.size w w'))
 case atStart => exact ⟨(0), zP, H', ⟨Nat.le_refl _⟩, ⟨zB⟩⟩
 case round =>
  clear H'
  try clear c1
  try clear p2
  obtain ⟨x9_1, rfl, HA, HK1, HB⟩ := hrel
  cases gk with
  | zero => exact absurd HA.out (by simp [guard_first_rune_guard_Fit.l0])
  | succ k1 =>
   have H := HA.out
   clear HA
   simp only [guard_first_rune_guard_Fit.l0] at H
   by_cases c3 : x9_1 < (l0.length : Int)
   ·rw [if_pos c3] at H
    have c3b0 : decide (x9_1 < (l0.length : Int)) = true := decide_eq_true c3
    clear c3
    by_cases c4 : 0 ≤ x9_1
    ·rw [if_pos c4] at H
     have c4b0 : decide (0 ≤ x9_1) = true := decide_eq_true c4
     clear c4
     by_cases c5 : x9_1 < (l0.length : Int)
     ·rw [if_pos c5] at H
      have c5b0 : decide (x9_1 < (l0.length : Int)) = true := decide_eq_true c5
      clear c5
      obtain ⟨t324, A6, H⟩ := zO H
      by_cases c7 : t324 = true
      ·subst c7
       rw [if_pos rfl] at H
       have H' := aM H
       clear H
       have p323 : 0 ≤ (x9_1 : Int) := zoA
       have q323 : x9_1 < (l0.length : Int) := zoA
       obtain ⟨ad323, e323, hx323_0⟩ := Kd.at_int HR0.out x9_1 p323 q323
       cases e323
       replace hx323_0 := (HB.out.cell (World.block_lt_of_cell? w _ hx323_0)).trans hx323_0
       replace p323 := eq_true p323
       replace q323 := eq_true q323
       go_wp2_with (first | ((with_reducible refine gate_tmp (x := 14) rfl ?_); refine goesLT_ (some 16) (x := 14) rfl rfl rfl Try.func49 zK rfl #[.int .i32 (rd l0 x9_1)] rfl zM ?_; (with_reducible refine (guard_Fit.calls k1 (rd l0 x9_1) true _ A6.out).mono ?_); rintro e w8 ⟨rfl, hb⟩; refine ⟨_, rfl, ?_⟩; replace HB := aM (below_step zB hb); (try clear hb)))
       go_roundg k1
       case measure => have := HK1.out; omega
       case rel => exact ⟨(wrap64 (x9_1 + 1)), zP, H', ⟨by have := HK1.out; omega⟩, ⟨zB⟩⟩
      ·replace c7 := Bool.eq_false_iff.mpr c7
       subst c7
       rw [if_neg (show ¬ (false = true) by decide)] at H
       obtain rfl := sI H
       have p323 : 0 ≤ (x9_1 : Int) := zoA
       have q323 : x9_1 < (l0.length : Int) := zoA
       obtain ⟨ad323, e323, hx323_0⟩ := Kd.at_int HR0.out x9_1 p323 q323
       cases e323
       replace hx323_0 := (HB.out.cell (World.block_lt_of_cell? w _ hx323_0)).trans hx323_0
       replace p323 := eq_true p323
       replace q323 := eq_true q323
       go_wp2_with (first | ((with_reducible refine gate_tmp (x := 14) rfl ?_); refine goesLT_ (some 16) (x := 14) rfl rfl rfl Try.func49 zK rfl #[.int .i32 (rd l0 x9_1)] rfl zM ?_; (with_reducible refine (guard_Fit.calls k1 (rd l0 x9_1) false _ A6.out).mono ?_); rintro e w9 ⟨rfl, hb⟩; refine ⟨_, rfl, ?_⟩; replace HB := aM (below_step zB hb); (try clear hb)))
       go_ret
       exact ⟨zE, zB⟩
     ·rw [if_neg c5] at H
      exact absurd H (by simp)
    ·rw [if_neg c4] at H
     exact absurd H (by simp)
   ·rw [if_neg c3] at H
    have c3b0 : decide (x9_1 < (l0.length : Int)) = false := decide_eq_false c3
    clear c3
    obtain rfl := sI H
    go_wp2
    go_ret
    exact ⟨zE, zB⟩

/-! ### guard_Check: function 31 -/
def guard_Check.f (k : Nat) (l0 : List Int) : Option (Int × Int) := (guard_first_rune_guard_Fit.f k l0 7770049).bind fun t325 => (if t325 < (l0.length : Int) then (some (t325, 30)) else (some (t325, 0)))
theorem guard_Check.mono : ∀ a0 k, LeO (guard_Check.f k a0) (guard_Check.f (k + 1) a0) := by
 intro a0 k
 unfold guard_Check.f
 repeat' first
   | (with_reducible exact guard_first_rune_guard_Fit.mono _ _ _)
   | (with_reducible exact LeO.refl _)
   | exact guard_first_rune_guard_Fit.mono _ _ _
   | exact LeO.none _
   | refine LeO.ite ?_ ?_
   | refine LeO.bind ?_ (fun _ => ?_)
set_option maxHeartbeats 8000000 in
set_option maxRecDepth 100000 in
theorem guard_Check.calls (k : Nat) (A0 : Option Addr) (c0 : Nat) (l0 : List Int) (r1 : Int) (r2 : Int) (w : World) (hr0 : Kd.C (Kd.int .i32) w A0 l0.length l0) (hc0 : l0.length ≤ c0) (h : guard_Check.f k l0 = some (r1, r2)) :
  Calls Try.prog 31 #[.slice A0 l0.length c0] w fun e w' => e = .returned (.tuple #[.int .i64 r1, .int .i64 r2]) ∧ Below w.heap.size w w' := by
 have HR0 := aM hr0
 have HC0 := aM hc0
 clear hr0 hc0
 have HB := aM (Below.refl w.heap.size w)
 have H := h
 clear h
 unfold guard_Check.f at H
 obtain ⟨t325, A2, H⟩ := zO H
 by_cases c3 : t325 < (l0.length : Int)
 ·rw [if_pos c3] at H
  have c3b0 : decide (t325 < (l0.length : Int)) = true := decide_eq_true c3
  clear c3
  simp only [Option.some.injEq, Prod.mk.injEq] at H
  obtain ⟨rfl, rfl⟩ := H
  go_enter Try.func31, Try.ntmps31
  go_wp2_with (first | ((with_reducible refine gate_callee (f := 48) rfl ?_); refine goesL_ (some 6) rfl rfl Try.func48 zK rfl #[.slice A0 l0.length c0, .func (.func 49) #[] #[]] rfl zM ?_; (with_reducible refine (guard_first_rune_guard_Fit.calls k _ _ l0 7770049 t325 _ ?side1 ?side2 A2.out).mono ?_); (case side1 => exact zC HR0.out); (case side2 => exact HC0.out); rintro e w4 ⟨rfl, hb⟩; refine ⟨_, rfl, ?_⟩; replace HB := aM (below_step zB hb); (try clear hb)))
  go_ret2
  exact ⟨zE, zB⟩
 ·rw [if_neg c3] at H
  have c3b0 : decide (t325 < (l0.length : Int)) = false := decide_eq_false c3
  clear c3
  simp only [Option.some.injEq, Prod.mk.injEq] at H
  obtain ⟨rfl, rfl⟩ := H
  go_enter Try.func31, Try.ntmps31
  go_wp2_with (first | ((with_reducible refine gate_callee (f := 48) rfl ?_); refine goesL_ (some 6) rfl rfl Try.func48 zK rfl #[.slice A0 l0.length c0, .func (.func 49) #[] #[]] rfl zM ?_; (with_reducible refine (guard_first_rune_guard_Fit.calls k _ _ l0 7770049 t325 _ ?side1 ?side2 A2.out).mono ?_); (case side1 => exact zC HR0.out); (case side2 => exact HC0.out); rintro e w5 ⟨rfl, hb⟩; refine ⟨_, rfl, ?_⟩; replace HB := aM (below_step zB hb); (try clear hb)))
  go_ret2
  exact ⟨zE, zB⟩

/-! ### blanks_bare: function 73 -/
def blanks_bare.f (k : Nat) (l0 : List Int) (a1 : Int) : Option (Bool) := if (wrap64 (a1 + 1)) = (l0.length : Int) then (some true) else (if 0 ≤ (wrap64 (a1 + 1)) then (if (wrap64 (a1 + 1)) < (l0.length : Int) then ((chars_Is.f k (rd l0 (wrap64 (a1 + 1))) (([3] : List Int))).bind fun t330 => (some (!t330))) else (none)) else (none))
theorem blanks_bare.mono : ∀ a0 a1 k, LeO (blanks_bare.f k a0 a1) (blanks_bare.f (k + 1) a0 a1) := by
 intro a0 a1 k
 unfold blanks_bare.f
 repeat' first
   | (with_reducible exact chars_Is.mono _ _ _)
   | (with_reducible exact LeO.refl _)
   | exact chars_Is.mono _ _ _
   | exact LeO.none _
   | refine LeO.ite ?_ ?_
   | refine LeO.bind ?_ (fun _ => ?_)
set_option maxHeartbeats 8000000 in
set_option maxRecDepth 100000 in
theorem blanks_bare.calls (k : Nat) (A0 : Option Addr) (c0 : Nat) (l0 : List Int) (a1 : Int) (r : Bool) (w : World) (hr0 : Kd.C (Kd.int .i32) w A0 l0.length l0) (hc0 : l0.length ≤ c0) (h : blanks_bare.f k l0 a1 = some r) :
  Calls Try.prog 73 #[.slice A0 l0.length c0, .int .i64 a1] w fun e w' => e = .returned (.bool r) ∧ Below w.heap.size w w' := by
 have HR0 := aM hr0
 have HC0 := aM hc0
 clear hr0 hc0
 have HB := aM (Below.refl w.heap.size w)
 have H := h
 clear h
 unfold blanks_bare.f at H
 by_cases c3 : (wrap64 (a1 + 1)) = (l0.length : Int)
 ·rw [if_pos c3] at H
  have c3b0 : ((wrap64 (a1 + 1)) == (l0.length : Int)) = true := beq_iff_eq.mpr c3
  have c3b1 : ((wrap64 (a1 + 1)) != (l0.length : Int)) = false := bne_eq_false_iff_eq.mpr c3
  clear c3
  obtain rfl := sI H
  go_enter Try.func73, Try.ntmps73
  go_wp2
  go_ret
  exact ⟨zE, zB⟩
 ·rw [if_neg c3] at H
  have c3b0 : ((wrap64 (a1 + 1)) == (l0.length : Int)) = false := beq_eq_false_iff_ne.mpr c3
  have c3b1 : ((wrap64 (a1 + 1)) != (l0.length : Int)) = true := bne_iff_ne.mpr c3
  obtain ⟨ji4, hji4⟩ : ∃ j_ : Int, (wrap64 (a1 + 1)) = j_ := ⟨_, rfl⟩
  replace H : (if 0 ≤ (ji4) then (if (ji4) < (l0.length : Int) then ((chars_Is.f k (rd l0 (ji4)) (([3] : List Int))).bind fun t330 => (some (!t330))) else (none)) else (none)) = some r := by first | (rw [hji4] at H; exact H) | (simp only [hji4] at H ⊢; exact H)
  (try rw [hji4] at c3b0)
  (try rw [hji4] at c3b1)
  have hji4w : (IntKind.i64.wrap (a1 + 1)) = ji4 := (i64_w _).trans hji4
  by_cases c5 : 0 ≤ (ji4)
  ·rw [if_pos c5] at H
   have c5b0 : decide (0 ≤ (ji4)) = true := decide_eq_true c5
   clear c5
   by_cases c6 : (ji4) < (l0.length : Int)
   ·rw [if_pos c6] at H
    have c6b0 : decide ((ji4) < (l0.length : Int)) = true := decide_eq_true c6
    clear c6
    obtain ⟨y327, hy327⟩ : ∃ y_ : List Int, y_ = (([3] : List Int)) := ⟨_, rfl⟩
    replace H : ((chars_Is.f k (rd l0 (ji4)) y327).bind fun t330 => (some (!t330))) = some r := zY hy327 H
    have Ny327 := aM hy327
    clear hy327
    obtain ⟨t330, A7, H⟩ := zO H
    obtain rfl := sI H
    have p326 : 0 ≤ ((ji4) : Int) := zoA
    have q326 : (ji4) < (l0.length : Int) := zoA
    obtain ⟨ad326, e326, hx326_0⟩ := Kd.at_int HR0.out (ji4) p326 q326
    cases e326
    replace p326 := eq_true p326
    replace q326 := eq_true q326
    go_enter Try.func73, Try.ntmps73
    go_wp2_with (first | ((with_reducible refine gate_dst (N := 16) rfl ?_); (try (refine gate_guard (by rfl) ?_; dsimp only)); refine Kd.R_lit (Kd.int .i64) _ 3 ?hg (N := 16) ?hd (xs := ([3] : List Int)) (inner := [.int .i64 3]) (ok := fun _ => True) (okp := fun _ => True) ?hr ?hp (fun _ hk => hk) trivial (Below.refl _ _) (Nat.le_refl _) (by simp) ?_; (case hd => rfl); (case hg => rfl); (case hr => first | (go_simp; done) | (go_simp; rfl)); (case hp => exact (Reps.one (show Kd.M (Kd.int .i64) _ _ _ 3 [.int .i64 3] from rfl) (Reps.none _ _))); intro v328 w8 ho9 hb hg_ hnew_; clear hg_ hnew_; (first | rw [← Ny327.out] at ho9 | (simp only [Int.reduceToNat] at ho9; rw [← Ny327.out] at ho9)); have n_ := zI (aM (Kd.R_lower ho9 (below_size zB))) (aM (below_step zB hb)); clear HB; obtain ⟨HO329, HB⟩ := n_; clear hb ho9; obtain ⟨Ao10, co10, rfl⟩ := Kd.R_slice HO329.out) | (go_at_call 46; (with_reducible refine (chars_Is.calls k (rd l0 (ji4)) _ _ y327 t330 _ ?side1 ?side2 A7.out).mono ?_); (case side1 => exact zC (Kd.R_reads' HO329.out).2.2); (case side2 => exact (Kd.R_reads' HO329.out).2.1); rintro e w' ⟨rfl, ⟨nd, rfl⟩⟩))
    go_ret
    exact ⟨by first | rfl | (simp [errW_none, errW_some] <;> rfl) | (simp only [← hji4]; first | rfl | (simp [errW_none, errW_some] <;> rfl)) | (simp [*, errW_none, errW_some] <;> rfl), zB⟩
   ·rw [if_neg c6] at H
    exact absurd H (by simp)
  ·rw [if_neg c5] at H
   exact absurd H (by simp)

/-! ### blanks_Space: function 51 -/
def blanks_Space.f (k : Nat) (l0 : List Int) (a1 : Int) : Option (Bool) := if a1 ≥ 0 then (if a1 < (l0.length : Int) then (if 0 ≤ a1 then (if (rd l0 a1) = 32 then ((blanks_bare.f k l0 a1).bind fun t332 => (some t332)) else (some false)) else (none)) else (some false)) else (some false)
theorem blanks_Space.mono : ∀ a0 a1 k, LeO (blanks_Space.f k a0 a1) (blanks_Space.f (k + 1) a0 a1) := by
 intro a0 a1 k
 unfold blanks_Space.f
 repeat' first
   | (with_reducible exact blanks_bare.mono _ _ _)
   | (with_reducible exact LeO.refl _)
   | exact blanks_bare.mono _ _ _
   | exact LeO.none _
   | refine LeO.ite ?_ ?_
   | refine LeO.bind ?_ (fun _ => ?_)
set_option maxHeartbeats 8000000 in
set_option maxRecDepth 100000 in
theorem blanks_Space.calls (k : Nat) (A0 : Option Addr) (c0 : Nat) (l0 : List Int) (a1 : Int) (r : Bool) (w : World) (hr0 : Kd.C (Kd.int .i32) w A0 l0.length l0) (hc0 : l0.length ≤ c0) (h : blanks_Space.f k l0 a1 = some r) :
  Calls Try.prog 51 #[.slice A0 l0.length c0, .int .i64 a1] w fun e w' => e = .returned (.bool r) ∧ Below w.heap.size w w' := by
 have HR0 := aM hr0
 have HC0 := aM hc0
 clear hr0 hc0
 have HB := aM (Below.refl w.heap.size w)
 have H := h
 clear h
 unfold blanks_Space.f at H
 by_cases c3 : a1 ≥ 0
 ·rw [if_pos c3] at H
  have c3b0 : decide (0 ≤ a1) = true := decide_eq_true c3
  clear c3
  by_cases c4 : a1 < (l0.length : Int)
  ·rw [if_pos c4] at H
   have c4b0 : decide (a1 < (l0.length : Int)) = true := decide_eq_true c4
   clear c4
   by_cases c5 : 0 ≤ a1
   ·rw [if_pos c5] at H
    have c5b0 : decide (0 ≤ a1) = true := decide_eq_true c5
    clear c5
    by_cases c6 : (rd l0 a1) = 32
    ·rw [if_pos c6] at H
     have c6b0 : ((rd l0 a1) == 32) = true := beq_iff_eq.mpr c6
     have c6b1 : ((rd l0 a1) != 32) = false := bne_eq_false_iff_eq.mpr c6
     clear c6
     obtain ⟨t332, A7, H⟩ := zO H
     obtain rfl := sI H
     have p331 : 0 ≤ (a1 : Int) := zoA
     have q331 : a1 < (l0.length : Int) := zoA
     obtain ⟨ad331, e331, hx331_0⟩ := Kd.at_int HR0.out a1 p331 q331
     cases e331
     replace p331 := eq_true p331
     replace q331 := eq_true q331
     go_enter Try.func51, Try.ntmps51
     go_wp2_with (first | (go_at_call 73; (with_reducible refine (blanks_bare.calls k _ _ l0 a1 t332 _ ?side1 ?side2 A7.out).mono ?_); (case side1 => exact zC HR0.out); (case side2 => exact HC0.out); rintro e w8 ⟨rfl, hb⟩; replace HB := aM (below_step zB hb); (try clear hb)))
     go_ret
     exact ⟨zE, zB⟩
    ·rw [if_neg c6] at H
     have c6b0 : ((rd l0 a1) == 32) = false := beq_eq_false_iff_ne.mpr c6
     have c6b1 : ((rd l0 a1) != 32) = true := bne_iff_ne.mpr c6
     obtain rfl := sI H
     have p331 : 0 ≤ (a1 : Int) := zoA
     have q331 : a1 < (l0.length : Int) := zoA
     obtain ⟨ad331, e331, hx331_0⟩ := Kd.at_int HR0.out a1 p331 q331
     cases e331
     replace p331 := eq_true p331
     replace q331 := eq_true q331
     go_enter Try.func51, Try.ntmps51
     go_wp2
     go_ret
     exact ⟨zE, zB⟩
   ·rw [if_neg c5] at H
    exact absurd H (by simp)
  ·rw [if_neg c4] at H
   have c4b0 : decide (a1 < (l0.length : Int)) = false := decide_eq_false c4
   clear c4
   obtain rfl := sI H
   go_enter Try.func51, Try.ntmps51
   go_wp2
   go_ret
   exact ⟨zE, zB⟩
 ·rw [if_neg c3] at H
  have c3b0 : decide (0 ≤ a1) = false := decide_eq_false c3
  clear c3
  obtain rfl := sI H
  go_enter Try.func51, Try.ntmps51
  go_wp2
  go_ret
  exact ⟨zE, zB⟩

/-! ### blanks_without_blanks_Space: function 123 -/
def blanks_without_blanks_Space.l0 : Nat → List Int → List Int → List Int → Int → Int → Option (List Int)
 | 0, _, _, _, _, _ => none
 | k + 1, x0, x5, x8, x9, x10 => if x10 < x9 then (if 0 ≤ x10 then (if x10 < (x8.length : Int) then ((blanks_Space.f k x0 x10).bind fun t334 => (if t334 = true then (blanks_without_blanks_Space.l0 k x0 x5 x8 x9 (wrap64 (x10 + 1))) else (if x5.length < 35184372088832 then (blanks_without_blanks_Space.l0 k x0 (x5 ++ [rd x8 x10]) x8 x9 (wrap64 (x10 + 1))) else (none)))) else (none)) else (none)) else (some x5)
def blanks_without_blanks_Space.f (k : Nat) (l0 : List Int) (a1 : Int) : Option (List Int) := blanks_without_blanks_Space.l0 k l0 ([] : List Int) l0 (l0.length : Int) 0
theorem blanks_without_blanks_Space.mono_l : ∀ k, (∀ y0 y1 y2 y3 y4, LeO (blanks_without_blanks_Space.l0 k y0 y1 y2 y3 y4) (blanks_without_blanks_Space.l0 (k + 1) y0 y1 y2 y3 y4))
 | 0 => fun _ _ _ _ _ r h => by simp [blanks_without_blanks_Space.l0] at h
 | k + 1 => by
  have ih0 := blanks_without_blanks_Space.mono_l k
  ·intro y0 y1 y2 y3 y4
   unfold blanks_without_blanks_Space.l0
   repeat' first
   | (with_reducible exact ih0 _ _ _ _ _)
   | (with_reducible exact blanks_Space.mono _ _ _)
   | (with_reducible exact LeO.refl _)
   | exact ih0 _ _ _ _ _
   | exact blanks_Space.mono _ _ _
   | exact LeO.none _
   | refine LeO.ite ?_ ?_
   | refine LeO.bind ?_ (fun _ => ?_)
theorem blanks_without_blanks_Space.mono : ∀ a0 a1 k, LeO (blanks_without_blanks_Space.f k a0 a1) (blanks_without_blanks_Space.f (k + 1) a0 a1) := by
 intro a0 a1 k
 have ih0 := blanks_without_blanks_Space.mono_l k
 unfold blanks_without_blanks_Space.f
 repeat' first
   | (with_reducible exact ih0 _ _ _ _ _)
   | (with_reducible exact blanks_Space.mono _ _ _)
   | (with_reducible exact LeO.refl _)
   | exact ih0 _ _ _ _ _
   | exact blanks_Space.mono _ _ _
   | exact LeO.none _
   | refine LeO.ite ?_ ?_
   | refine LeO.bind ?_ (fun _ => ?_)
set_option maxHeartbeats 8000000 in
set_option maxRecDepth 100000 in
theorem blanks_without_blanks_Space.calls (k : Nat) (A0 : Option Addr) (c0 : Nat) (l0 : List Int) (a1 : Int) (r : List Int) (w : World) (hr0 : Kd.C (Kd.int .i32) w A0 l0.length l0) (hc0 : l0.length ≤ c0) (h : blanks_without_blanks_Space.f k l0 a1 = some r) :
  Calls Try.prog 50 #[.slice A0 l0.length c0, .func (.func 51) #[] #[]] w fun e w' => ∃ v0_ : Value, e = .returned (v0_) ∧ Kd.R (Kd.int .i32) 21 w' w.heap.size (fun _ => True) v0_ r ∧ Below w.heap.size w w' := by
 have HR0 := aM hr0
 have HC0 := aM hc0
 clear hr0 hc0
 have HB := aM (Below.refl w.heap.size w)
 have H := h
 clear h
 unfold blanks_without_blanks_Space.f at H
 have H' := aM H
 clear H
 go_enter Try.func50, Try.ntmps50
 go_wp2
 go_loopg [5, 10] k (fun kq v5 v10 w' => ∃ (x5_1 : List Int) (x10_1 : Int), v10 = .int .i64 x10_1 ∧ Aside0 (blanks_without_blanks_Space.l0 kq l0 x5_1 l0 (l0.length : Int) x10_1 = some r) ∧ Aside0 (kq ≤ k) ∧ Aside0 (Kd.R (Kd.int .i32) 21 w' w.heap.size (fun _ => True) v5 x5_1) ∧ Aside0 (Below w.heap.size w w'))
 case atStart => exact ⟨(([] : List Int)), (0), zP, H', ⟨Nat.le_refl _⟩, ⟨zL⟩, ⟨zB⟩⟩
 case round =>
  clear H'
  try clear c1
  try clear p2
  obtain ⟨x5_1, x10_1, rfl, HA, HK1, HO_5, HB⟩ := hrel
  cases gk with
  | zero => exact absurd HA.out (by simp [blanks_without_blanks_Space.l0])
  | succ k1 =>
   have H := HA.out
   clear HA
   simp only [blanks_without_blanks_Space.l0] at H
   by_cases c3 : x10_1 < (l0.length : Int)
   ·rw [if_pos c3] at H
    have c3b0 : decide (x10_1 < (l0.length : Int)) = true := decide_eq_true c3
    clear c3
    by_cases c4 : 0 ≤ x10_1
    ·rw [if_pos c4] at H
     have c4b0 : decide (0 ≤ x10_1) = true := decide_eq_true c4
     clear c4
     by_cases c5 : x10_1 < (l0.length : Int)
     ·rw [if_pos c5] at H
      have c5b0 : decide (x10_1 < (l0.length : Int)) = true := decide_eq_true c5
      clear c5
      obtain ⟨t334, A6, H⟩ := zO H
      by_cases c7 : t334 = true
      ·subst c7
       rw [if_pos rfl] at H
       have H' := aM H
       clear H
       have p333 : 0 ≤ (x10_1 : Int) := zoA
       have q333 : x10_1 < (l0.length : Int) := zoA
       obtain ⟨ad333, e333, hx333_0⟩ := Kd.at_int HR0.out x10_1 p333 q333
       cases e333
       replace hx333_0 := (HB.out.cell (World.block_lt_of_cell? w _ hx333_0)).trans hx333_0
       replace p333 := eq_true p333
       replace q333 := eq_true q333
       go_wp2_with (first | ((with_reducible refine gate_tmp (x := 15) rfl ?_); refine goesLT_ (some 18) (x := 15) rfl rfl rfl Try.func51 zK rfl #[.slice (some ad333) l0.length c0, .int .i64 x10_1] rfl zM ?_; (with_reducible refine (blanks_Space.calls k1 _ _ l0 x10_1 true _ ?side1 ?side2 A6.out).mono ?_); (case side1 => exact zCB HR0); (case side2 => exact HC0.out); rintro e w8 ⟨rfl, hb⟩; refine ⟨_, rfl, ?_⟩; have n_ := zI (aM (Kd.R_below (zR HO_5) hb)) (aM (below_step zB hb)); clear HO_5 HB; obtain ⟨HO_5, HB⟩ := n_; (try clear hb)))
       go_roundg k1
       case measure => have := HK1.out; omega
       case rel => exact ⟨(x5_1), (wrap64 (x10_1 + 1)), zP, H', ⟨by have := HK1.out; omega⟩, ⟨zR HO_5⟩, ⟨zB⟩⟩
      ·replace c7 := Bool.eq_false_iff.mpr c7
       subst c7
       rw [if_neg (show ¬ (false = true) by decide)] at H
       by_cases c9 : x5_1.length < 35184372088832
       ·rw [if_pos c9] at H
        have LMc9 := aM c9
        clear c9
        obtain ⟨y335, hy335⟩ : ∃ y_ : List Int, y_ = (x5_1 ++ [rd l0 x10_1]) := ⟨_, rfl⟩
        replace H : (blanks_without_blanks_Space.l0 k1 l0 y335 l0 (l0.length : Int) (wrap64 (x10_1 + 1))) = some r := zY hy335 H
        have Ny335 := aM hy335
        clear hy335
        have H' := aM H
        clear H
        have p333 : 0 ≤ (x10_1 : Int) := zoA
        have q333 : x10_1 < (l0.length : Int) := zoA
        obtain ⟨ad333, e333, hx333_0⟩ := Kd.at_int HR0.out x10_1 p333 q333
        cases e333
        replace hx333_0 := (HB.out.cell (World.block_lt_of_cell? w _ hx333_0)).trans hx333_0
        replace p333 := eq_true p333
        replace q333 := eq_true q333
        go_wp2_with (first | ((with_reducible refine gate_tmp (x := 15) rfl ?_); refine goesLT_ (some 18) (x := 15) rfl rfl rfl Try.func51 zK rfl #[.slice (some ad333) l0.length c0, .int .i64 x10_1] rfl zM ?_; (with_reducible refine (blanks_Space.calls k1 _ _ l0 x10_1 false _ ?side1 ?side2 A6.out).mono ?_); (case side1 => exact zCB HR0); (case side2 => exact HC0.out); rintro e w10 ⟨rfl, hb⟩; refine ⟨_, rfl, ?_⟩; have n_ := zI (aM (Kd.R_below (zR HO_5) hb)) (aM (below_step zB hb)); clear HO_5 HB; obtain ⟨HO_5, HB⟩ := n_; (try clear hb); (try clear hk)) | ((with_reducible refine gate_builtin (b := .append) (xs := #[.tmp 20, .tmp 22]) rfl ?_); at_builtin; refine Kd.R_append (Kd.int .i32) (w0 := w) w.heap.size rfl (.tmp 20) (.tmp 22) 54 21 (.int .i32 0) 4 rfl Try.underlying54 info21 rfl (by decide) (by omega) u5 x5_1 (rd l0 x10_1) [.int .i32 (rd l0 x10_1)] (fun _ => True) (fun _ => False) rfl rfl ?aP (fun _ hk => hk.elim) ?aF ?aO ?aB ?aS ?aL ?_; (case aP => exact rfl); (case aB => exact zB); (case aF => exact (fun _ _ => trivial)); (case aO => exact (zR HO_5)); (case aS => exact (below_size zB)); (case aL => have := LMc9.out; omega); intro v336 w11 ho hb hg hat; rw [← Ny335.out] at ho; have n_ := zI (aM (hb)) (aM (ho)); clear HB HO_5; obtain ⟨HB, HO337⟩ := n_; clear ho hb hg hat))
        go_roundg k1
        case measure => have := HK1.out; omega
        case rel => exact ⟨(y335), (wrap64 (x10_1 + 1)), zP, H', ⟨by have := HK1.out; omega⟩, ⟨zR HO337⟩, ⟨zB⟩⟩
       ·rw [if_neg c9] at H
        exact absurd H (by simp)
     ·rw [if_neg c5] at H
      exact absurd H (by simp)
    ·rw [if_neg c4] at H
     exact absurd H (by simp)
   ·rw [if_neg c3] at H
    have c3b0 : decide (x10_1 < (l0.length : Int)) = false := decide_eq_false c3
    clear c3
    obtain rfl := sI H
    go_wp2
    go_ret
    exact ⟨_, zE, zR HO_5, zB⟩

/-! ### blanks_Numeric: function 32 -/
def blanks_Numeric.f (k : Nat) (l0 : List Int) : Option (List Int) := (blanks_without_blanks_Space.f k l0 7770051).bind fun t338 => (some t338)
theorem blanks_Numeric.mono : ∀ a0 k, LeO (blanks_Numeric.f k a0) (blanks_Numeric.f (k + 1) a0) := by
 intro a0 k
 unfold blanks_Numeric.f
 repeat' first
   | (with_reducible exact blanks_without_blanks_Space.mono _ _ _)
   | (with_reducible exact LeO.refl _)
   | exact blanks_without_blanks_Space.mono _ _ _
   | exact LeO.none _
   | refine LeO.ite ?_ ?_
   | refine LeO.bind ?_ (fun _ => ?_)
set_option maxHeartbeats 8000000 in
set_option maxRecDepth 100000 in
theorem blanks_Numeric.calls (k : Nat) (A0 : Option Addr) (c0 : Nat) (l0 : List Int) (r : List Int) (w : World) (hr0 : Kd.C (Kd.int .i32) w A0 l0.length l0) (hc0 : l0.length ≤ c0) (h : blanks_Numeric.f k l0 = some r) :
  Calls Try.prog 32 #[.slice A0 l0.length c0] w fun e w' => ∃ v0_ : Value, e = .returned (v0_) ∧ Kd.R (Kd.int .i32) 21 w' w.heap.size (fun _ => True) v0_ r ∧ Below w.heap.size w w' := by
 have HR0 := aM hr0
 have HC0 := aM hc0
 clear hr0 hc0
 have HB := aM (Below.refl w.heap.size w)
 have H := h
 clear h
 unfold blanks_Numeric.f at H
 obtain ⟨t338, A2, H⟩ := zO H
 obtain rfl := sI H
 go_enter Try.func32, Try.ntmps32
 go_wp2_with (first | ((with_reducible refine gate_callee (f := 50) rfl ?_); refine goesL_ (some 4) rfl rfl Try.func50 zK rfl #[.slice A0 l0.length c0, .func (.func 51) #[] #[]] rfl zM ?_; (with_reducible refine (blanks_without_blanks_Space.calls k _ _ l0 7770051 t338 _ ?side1 ?side2 A2.out).mono ?_); (case side1 => exact zC HR0.out); (case side2 => exact HC0.out); rintro e w3 ⟨v339, rfl, ho0, hb⟩; refine ⟨_, rfl, ?_⟩; have n_ := zI (aM (Kd.R_lower ho0 (below_size zB))) (aM (below_step zB hb)); clear HB; obtain ⟨HO340, HB⟩ := n_; (try clear hb); (try clear ho0)))
 go_ret
 exact ⟨_, zE, zR HO340, zB⟩

end Go.Proofs.Ytncppcjobimilaa.P
