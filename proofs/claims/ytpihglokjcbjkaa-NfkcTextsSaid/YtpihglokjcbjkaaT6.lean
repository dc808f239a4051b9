-- Printed by wip/mk.py (this session's driver over the kit's print) and from wip/manual.
import Derived.Test.YtpihglokjcbjkaaT0
namespace Go.Proofs.Ytpihglokjcbjkaa.P
open Go.RowKit Go.Proofs.YtpihglokjcbjkaaW.PrintWords Go.Proofs.YtpihglokjcbjkaaW.PrintLast Go.Proofs.YtpihglokjcbjkaaW.PrintMore
attribute [local go_sem] max2_int min2_int max_two min_two max_three min_three max_four min_four   -- for this text's walks alone
set_option linter.unusedVariables false
set_option linter.unusedSimpArgs false

/-! ### toponymref03_ascii: function 72 -/
mutual
def toponymref03_ascii.j0 : Nat → Int → Bool → Option (Int)
 | 0, _, _ => none
 | k + 1, x0, x3 => if x3 = true then (some 1) else (if x0 ≥ 48 then (toponymref03_ascii.j1 k x0 (decide (x0 ≤ 57))) else (toponymref03_ascii.j1 k x0 false))
def toponymref03_ascii.j1 : Nat → Int → Bool → Option (Int)
 | 0, _, _ => none
 | k + 1, x0, x18 => if x18 = true then (some 2) else (if x0 = 32 then (toponymref03_ascii.j2 k x0 true) else (if x0 ≥ 9 then (toponymref03_ascii.j2 k x0 (decide (x0 ≤ 13))) else (toponymref03_ascii.j2 k x0 false)))
def toponymref03_ascii.j2 : Nat → Int → Bool → Option (Int)
 | 0, _, _ => none
 | k + 1, x0, x25 => if x25 = true then (some 5) else (if x0 < 32 then (some 6) else (if x0 = 127 then (some 6) else (some 4)))
end
def toponymref03_ascii.f (k : Nat) (a0 : Int) : Option (Int) := if a0 ≥ 97 then (if a0 ≤ 122 then (toponymref03_ascii.j0 k a0 true) else (if a0 ≥ 65 then (toponymref03_ascii.j0 k a0 (decide (a0 ≤ 90))) else (toponymref03_ascii.j0 k a0 false))) else (if a0 ≥ 65 then (toponymref03_ascii.j0 k a0 (decide (a0 ≤ 90))) else (toponymref03_ascii.j0 k a0 false))
theorem toponymref03_ascii.mono_l : ∀ k, (∀ y0 y1, LeO (toponymref03_ascii.j0 k y0 y1) (toponymref03_ascii.j0 (k + 1) y0 y1)) ∧ (∀ y0 y1, LeO (toponymref03_ascii.j1 k y0 y1) (toponymref03_ascii.j1 (k + 1) y0 y1)) ∧ (∀ y0 y1, LeO (toponymref03_ascii.j2 k y0 y1) (toponymref03_ascii.j2 (k + 1) y0 y1))
 | 0 => ⟨fun _ _ r h => by simp [toponymref03_ascii.j0] at h, fun _ _ r h => by simp [toponymref03_ascii.j1] at h, fun _ _ r h => by simp [toponymref03_ascii.j2] at h⟩
 | k + 1 => by
  obtain ⟨ih0, ih1, ih2⟩ := toponymref03_ascii.mono_l k
  refine ⟨?_, ?_, ?_⟩
  ·intro y0 y1
   unfold toponymref03_ascii.j0
   repeat' first
   | (with_reducible exact ih0 _ _)
   | (with_reducible exact ih1 _ _)
   | (with_reducible exact ih2 _ _)
   | (with_reducible exact LeO.refl _)
   | exact ih0 _ _
   | exact ih1 _ _
   | exact ih2 _ _
   | exact LeO.none _
   | refine LeO.ite ?_ ?_
   | refine LeO.bind ?_ (fun _ => ?_)
  ·intro y0 y1
   unfold toponymref03_ascii.j1
   repeat' first
   | (with_reducible exact ih0 _ _)
   | (with_reducible exact ih1 _ _)
   | (with_reducible exact ih2 _ _)
   | (with_reducible exact LeO.refl _)
   | exact ih0 _ _
   | exact ih1 _ _
   | exact ih2 _ _
   | exact LeO.none _
   | refine LeO.ite ?_ ?_
   | refine LeO.bind ?_ (fun _ => ?_)
  ·intro y0 y1
   unfold toponymref03_ascii.j2
   repeat' first
   | (with_reducible exact ih0 _ _)
   | (with_reducible exact ih1 _ _)
   | (with_reducible exact ih2 _ _)
   | (with_reducible exact LeO.refl _)
   | exact ih0 _ _
   | exact ih1 _ _
   | exact ih2 _ _
   | exact LeO.none _
   | refine LeO.ite ?_ ?_
   | refine LeO.bind ?_ (fun _ => ?_)
theorem toponymref03_ascii.mono : ∀ a0 k, LeO (toponymref03_ascii.f k a0) (toponymref03_ascii.f (k + 1) a0) := by
 intro a0 k
 obtain ⟨ih0, ih1, ih2⟩ := toponymref03_ascii.mono_l k
 unfold toponymref03_ascii.f
 repeat' first
   | (with_reducible exact ih0 _ _)
   | (with_reducible exact ih1 _ _)
   | (with_reducible exact ih2 _ _)
   | (with_reducible exact LeO.refl _)
   | exact ih0 _ _
   | exact ih1 _ _
   | exact ih2 _ _
   | exact LeO.none _
   | refine LeO.ite ?_ ?_
   | refine LeO.bind ?_ (fun _ => ?_)
set_option maxHeartbeats 8000000 in
set_option maxRecDepth 100000 in
theorem toponymref03_ascii.calls (k : Nat) (a0 : Int) (r : Int) (w : World) (h : toponymref03_ascii.f k a0 = some r) :
  Calls Try.prog 72 #[.int .i32 a0] w fun e w' => e = .returned (.int .i64 r) ∧ Drawn0 w w' := by
 have H : (if a0 ≥ 97 then (if a0 ≤ 122 then (toponymref03_ascii.j0 k a0 true) else (if a0 ≥ 65 then (toponymref03_ascii.j0 k a0 (decide (a0 ≤ 90))) else (toponymref03_ascii.j0 k a0 false))) else (if a0 ≥ 65 then (toponymref03_ascii.j0 k a0 (decide (a0 ≤ 90))) else (toponymref03_ascii.j0 k a0 false))) = some r := h
 clear h
 have HC2 := aM H
 clear H
 go_enter Try.func72, Try.ntmps72
 go_upto_region 1 with (fail)
 go_cut [3] (fun v3 wc => ∃ (kq : Nat) (x3_1 : Bool), v3 = .bool x3_1 ∧ Aside0 (toponymref03_ascii.j0 kq a0 x3_1 = some r) ∧ Aside0 (kq ≤ k) ∧ Drawn0 w wc)
 case first =>
  have H := HC2.out
  clear HC2
  by_cases c3 : a0 ≥ 97
  ·rw [if_pos c3] at H
   have c3b0 : decide (97 ≤ a0) = true := decide_eq_true c3
   clear c3
   (first | rw [c3b0] | (simp only [i64_w, i32_w]; rw [c3b0]) | skip)
   by_cases c4 : a0 ≤ 122
   ·rw [if_pos c4] at H
    have c4b0 : decide (a0 ≤ 122) = true := decide_eq_true c4
    clear c4
    have H' := aM H
    clear H
    go_wp2
    go_meet
    case rel => exact ⟨_, (true), zP, H', ⟨by first | omega | exact Nat.le_refl _⟩, zD⟩
   ·rw [if_neg c4] at H
    have c4b0 : decide (a0 ≤ 122) = false := decide_eq_false c4
    clear c4
    by_cases c5 : a0 ≥ 65
    ·rw [if_pos c5] at H
     have c5b0 : decide (65 ≤ a0) = true := decide_eq_true c5
     clear c5
     have H' := aM H
     clear H
     go_wp2
     go_meet
     case rel => exact ⟨_, (decide (a0 ≤ 90)), zP, H', ⟨by first | omega | exact Nat.le_refl _⟩, zD⟩
    ·rw [if_neg c5] at H
     have c5b0 : decide (65 ≤ a0) = false := decide_eq_false c5
     clear c5
     have H' := aM H
     clear H
     go_wp2
     go_meet
     case rel => exact ⟨_, (false), zP, H', ⟨by first | omega | exact Nat.le_refl _⟩, zD⟩
  ·rw [if_neg c3] at H
   have c3b0 : decide (97 ≤ a0) = false := decide_eq_false c3
   clear c3
   (first | rw [c3b0] | (simp only [i64_w, i32_w]; rw [c3b0]) | skip)
   by_cases c6 : a0 ≥ 65
   ·rw [if_pos c6] at H
    have c6b0 : decide (65 ≤ a0) = true := decide_eq_true c6
    clear c6
    have H' := aM H
    clear H
    go_wp2
    go_meet
    case rel => exact ⟨_, (decide (a0 ≤ 90)), zP, H', ⟨by first | omega | exact Nat.le_refl _⟩, zD⟩
   ·rw [if_neg c6] at H
    have c6b0 : decide (65 ≤ a0) = false := decide_eq_false c6
    clear c6
    have H' := aM H
    clear H
    go_wp2
    go_meet
    case rel => exact ⟨_, (false), zP, H', ⟨by first | omega | exact Nat.le_refl _⟩, zD⟩
 case rest =>
  clear HC2
  try clear p2
  try clear c3
  try clear c3b0
  try clear c4
  try clear c4b0
  try clear c5
  try clear c5b0
  try clear c6
  try clear c6b0
  obtain ⟨kq, x3_1, rfl, HA, HJ1, ⟨mc1, rfl⟩⟩ := hcut
  cases kq with
  | zero => exact absurd HA.out (by simp [toponymref03_ascii.j0])
  | succ kj1 =>
   have H := HA.out
   clear HA
   simp only [toponymref03_ascii.j0] at H
   by_cases c7 : x3_1 = true
   ·subst c7
    rw [if_pos rfl] at H
    obtain rfl := sI H
    go_wp2
    go_ret
    exact ⟨zP, zD⟩
   ·replace c7 := Bool.eq_false_iff.mpr c7
    subst c7
    rw [if_neg (show ¬ (false = true) by decide)] at H
    have HC8 := aM H
    clear H
    go_upto_region 3 with (fail)
    go_cut [18] (fun v18 wc => ∃ (kq : Nat) (x18_7 : Bool), v18 = .bool x18_7 ∧ Aside0 (toponymref03_ascii.j1 kq a0 x18_7 = some r) ∧ Aside0 (kq ≤ kj1) ∧ Drawn0 w wc)
    case first =>
     have H := HC8.out
     clear HC8
     by_cases c9 : a0 ≥ 48
     ·rw [if_pos c9] at H
      have c9b0 : decide (48 ≤ a0) = true := decide_eq_true c9
      clear c9
      (first | rw [c9b0] | (simp only [i64_w, i32_w]; rw [c9b0]) | skip)
      have H' := aM H
      clear H
      go_wp2
      go_meet
      case rel => exact ⟨_, (decide (a0 ≤ 57)), zP, H', ⟨by have := HJ1.out; first | omega | exact Nat.le_refl _⟩, zD⟩
     ·rw [if_neg c9] at H
      have c9b0 : decide (48 ≤ a0) = false := decide_eq_false c9
      clear c9
      (first | rw [c9b0] | (simp only [i64_w, i32_w]; rw [c9b0]) | skip)
      have H' := aM H
      clear H
      go_wp2
      go_meet
      case rel => exact ⟨_, (false), zP, H', ⟨by have := HJ1.out; first | omega | exact Nat.le_refl _⟩, zD⟩
    case rest =>
     clear HC8
     try clear c1
     try clear p2
     try clear c3
     try clear c3b0
     try clear c4
     try clear c4b0
     try clear c5
     try clear c5b0
     try clear c6
     try clear c6b0
     try clear c7
     try clear c9
     try clear c9b0
     try clear p2
     obtain ⟨kq, x18_7, rfl, HA, HJ7, ⟨mc7, rfl⟩⟩ := hcut
     cases kq with
     | zero => exact absurd HA.out (by simp [toponymref03_ascii.j1])
     | succ kj7 =>
      have H := HA.out
      clear HA
      simp only [toponymref03_ascii.j1] at H
      by_cases c10 : x18_7 = true
      ·subst c10
       rw [if_pos rfl] at H
       obtain rfl := sI H
       go_wp2
       go_ret
       exact ⟨zP, zD⟩
      ·replace c10 := Bool.eq_false_iff.mpr c10
       subst c10
       rw [if_neg (show ¬ (false = true) by decide)] at H
       have HC11 := aM H
       clear H
       go_upto_region 5 with (fail)
       go_cut [25] (fun v25 wc => ∃ (kq : Nat) (x25_10 : Bool), v25 = .bool x25_10 ∧ Aside0 (toponymref03_ascii.j2 kq a0 x25_10 = some r) ∧ Aside0 (kq ≤ kj7) ∧ Drawn0 w wc)
       case first =>
        have H := HC11.out
        clear HC11
        by_cases c12 : a0 = 32
        ·rw [if_pos c12] at H
         have c12b0 : (a0 == 32) = true := beq_iff_eq.mpr c12
         have c12b1 : (a0 != 32) = false := bne_eq_false_iff_eq.mpr c12
         clear c12
         (first | rw [c12b0] | (simp only [i64_w, i32_w]; rw [c12b0]) | skip)
         have H' := aM H
         clear H
         go_wp2
         go_meet
         case rel => exact ⟨_, (true), zP, H', ⟨by have := HJ1.out; have := HJ7.out; first | omega | exact Nat.le_refl _⟩, zD⟩
        ·rw [if_neg c12] at H
         have c12b0 : (a0 == 32) = false := beq_eq_false_iff_ne.mpr c12
         have c12b1 : (a0 != 32) = true := bne_iff_ne.mpr c12
         (first | rw [c12b0] | (simp only [i64_w, i32_w]; rw [c12b0]) | skip)
         by_cases c13 : a0 ≥ 9
         ·rw [if_pos c13] at H
          have c13b0 : decide (9 ≤ a0) = true := decide_eq_true c13
          clear c13
          have H' := aM H
          clear H
          go_wp2
          go_meet
          case rel => exact ⟨_, (decide (a0 ≤ 13)), zP, H', ⟨by have := HJ1.out; have := HJ7.out; first | omega | exact Nat.le_refl _⟩, zD⟩
         ·rw [if_neg c13] at H
          have c13b0 : decide (9 ≤ a0) = false := decide_eq_false c13
          clear c13
          have H' := aM H
          clear H
          go_wp2
          go_meet
          case rel => exact ⟨_, (false), zP, H', ⟨by have := HJ1.out; have := HJ7.out; first | omega | exact Nat.le_refl _⟩, zD⟩
       case rest =>
        clear HC11
        try clear c1
        try clear p2
        try clear c3
        try clear c3b0
        try clear c4
        try clear c4b0
        try clear c5
        try clear c5b0
        try clear c6
        try clear c6b0
        try clear c7
        try clear c9
        try clear c9b0
        try clear c10
        try clear c12
        try clear c12b0
        try clear c12b1
        try clear c13
        try clear c13b0
        try clear p2
        obtain ⟨kq, x25_10, rfl, HA, HJ10, ⟨mc10, rfl⟩⟩ := hcut
        cases kq with
        | zero => exact absurd HA.out (by simp [toponymref03_ascii.j2])
        | succ kj10 =>
         have H := HA.out
         clear HA
         simp only [toponymref03_ascii.j2] at H
         by_cases c14 : x25_10 = true
         ·subst c14
          rw [if_pos rfl] at H
          obtain rfl := sI H
          go_wp2
          go_ret
          exact ⟨zP, zD⟩
         ·replace c14 := Bool.eq_false_iff.mpr c14
          subst c14
          rw [if_neg (show ¬ (false = true) by decide)] at H
          by_cases c15 : a0 < 32
          ·rw [if_pos c15] at H
           have c15b0 : decide (a0 < 32) = true := decide_eq_true c15
           clear c15
           obtain rfl := sI H
           go_wp2
           go_ret
           exact ⟨zP, zD⟩
          ·rw [if_neg c15] at H
           have c15b0 : decide (a0 < 32) = false := decide_eq_false c15
           clear c15
           by_cases c16 : a0 = 127
           ·rw [if_pos c16] at H
            have c16b0 : (a0 == 127) = true := beq_iff_eq.mpr c16
            have c16b1 : (a0 != 127) = false := bne_eq_false_iff_eq.mpr c16
            clear c16
            obtain rfl := sI H
            go_wp2
            go_ret
            exact ⟨zP, zD⟩
           ·rw [if_neg c16] at H
            have c16b0 : (a0 == 127) = false := beq_eq_false_iff_ne.mpr c16
            have c16b1 : (a0 != 127) = true := bne_iff_ne.mpr c16
            obtain rfl := sI H
            go_wp2
            go_ret
            exact ⟨zP, zD⟩

/-! ### toponymref03_lower: function 82 -/
def toponymref03_lower.f  : Option ((List (S85))) := some (([(⟨0, 8, 6⟩ : S85), (⟨9, 13, 5⟩ : S85), (⟨14, 31, 6⟩ : S85), (⟨32, 32, 5⟩ : S85), (⟨33, 47, 4⟩ : S85), (⟨48, 57, 2⟩ : S85), (⟨58, 64, 4⟩ : S85), (⟨65, 90, 1⟩ : S85), (⟨91, 96, 4⟩ : S85), (⟨97, 122, 1⟩ : S85), (⟨123, 126, 4⟩ : S85), (⟨127, 132, 6⟩ : S85), (⟨133, 133, 5⟩ : S85), (⟨134, 159, 6⟩ : S85), (⟨160, 160, 5⟩ : S85), (⟨161, 169, 4⟩ : S85), (⟨170, 170, 1⟩ : S85), (⟨171, 172, 4⟩ : S85), (⟨173, 173, 6⟩ : S85), (⟨174, 177, 4⟩ : S85), (⟨178, 179, 2⟩ : S85), (⟨180, 180, 4⟩ : S85), (⟨181, 181, 1⟩ : S85), (⟨182, 184, 4⟩ : S85), (⟨185, 185, 2⟩ : S85), (⟨186, 186, 1⟩ : S85), (⟨187, 191, 4⟩ : S85), (⟨192, 214, 1⟩ : S85), (⟨215, 215, 4⟩ : S85), (⟨216, 246, 1⟩ : S85), (⟨247, 247, 4⟩ : S85), (⟨248, 383, 1⟩ : S85), (⟨700, 700, 1⟩ : S85), (⟨768, 772, 3⟩ : S85), (⟨774, 776, 3⟩ : S85), (⟨778, 780, 3⟩ : S85), (⟨803, 803, 3⟩ : S85), (⟨807, 808, 3⟩ : S85), (⟨832, 833, 7⟩ : S85), (⟨847, 847, 6⟩ : S85), (⟨902, 902, 1⟩ : S85), (⟨904, 906, 1⟩ : S85), (⟨908, 908, 1⟩ : S85), (⟨910, 929, 1⟩ : S85), (⟨931, 974, 1⟩ : S85)] : List (S85)))
set_option maxHeartbeats 8000000 in
set_option maxRecDepth 100000 in
theorem toponymref03_lower.calls  (r : List (S85)) (w : World) (h : toponymref03_lower.f  = some r) :
  Calls Try.prog 82 #[] w fun e w' => ∃ v0_ : Value, e = .returned (v0_) ∧ Kd.R k85 85 w' w.heap.size (fun _ => True) v0_ r ∧ Below w.heap.size w w' := by
 have hu85 := Try.underlying85
 have HB := aM (Below.refl w.heap.size w)
 have H : (some (([(⟨0, 8, 6⟩ : S85), (⟨9, 13, 5⟩ : S85), (⟨14, 31, 6⟩ : S85), (⟨32, 32, 5⟩ : S85), (⟨33, 47, 4⟩ : S85), (⟨48, 57, 2⟩ : S85), (⟨58, 64, 4⟩ : S85), (⟨65, 90, 1⟩ : S85), (⟨91, 96, 4⟩ : S85), (⟨97, 122, 1⟩ : S85), (⟨123, 126, 4⟩ : S85), (⟨127, 132, 6⟩ : S85), (⟨133, 133, 5⟩ : S85), (⟨134, 159, 6⟩ : S85), (⟨160, 160, 5⟩ : S85), (⟨161, 169, 4⟩ : S85), (⟨170, 170, 1⟩ : S85), (⟨171, 172, 4⟩ : S85), (⟨173, 173, 6⟩ : S85), (⟨174, 177, 4⟩ : S85), (⟨178, 179, 2⟩ : S85), (⟨180, 180, 4⟩ : S85), (⟨181, 181, 1⟩ : S85), (⟨182, 184, 4⟩ : S85), (⟨185, 185, 2⟩ : S85), (⟨186, 186, 1⟩ : S85), (⟨187, 191, 4⟩ : S85), (⟨192, 214, 1⟩ : S85), (⟨215, 215, 4⟩ : S85), (⟨216, 246, 1⟩ : S85), (⟨247, 247, 4⟩ : S85), (⟨248, 383, 1⟩ : S85), (⟨700, 700, 1⟩ : S85), (⟨768, 772, 3⟩ : S85), (⟨774, 776, 3⟩ : S85), (⟨778, 780, 3⟩ : S85), (⟨803, 803, 3⟩ : S85), (⟨807, 808, 3⟩ : S85), (⟨832, 833, 7⟩ : S85), (⟨847, 847, 6⟩ : S85), (⟨902, 902, 1⟩ : S85), (⟨904, 906, 1⟩ : S85), (⟨908, 908, 1⟩ : S85), (⟨910, 929, 1⟩ : S85), (⟨931, 974, 1⟩ : S85)] : List (S85)))) = some r := h
 clear h
 obtain ⟨y289, hy289⟩ : ∃ y_ : List (S85), y_ = (([(⟨0, 8, 6⟩ : S85), (⟨9, 13, 5⟩ : S85), (⟨14, 31, 6⟩ : S85), (⟨32, 32, 5⟩ : S85), (⟨33, 47, 4⟩ : S85), (⟨48, 57, 2⟩ : S85), (⟨58, 64, 4⟩ : S85), (⟨65, 90, 1⟩ : S85), (⟨91, 96, 4⟩ : S85), (⟨97, 122, 1⟩ : S85), (⟨123, 126, 4⟩ : S85), (⟨127, 132, 6⟩ : S85), (⟨133, 133, 5⟩ : S85), (⟨134, 159, 6⟩ : S85), (⟨160, 160, 5⟩ : S85), (⟨161, 169, 4⟩ : S85), (⟨170, 170, 1⟩ : S85), (⟨171, 172, 4⟩ : S85), (⟨173, 173, 6⟩ : S85), (⟨174, 177, 4⟩ : S85), (⟨178, 179, 2⟩ : S85), (⟨180, 180, 4⟩ : S85), (⟨181, 181, 1⟩ : S85), (⟨182, 184, 4⟩ : S85), (⟨185, 185, 2⟩ : S85), (⟨186, 186, 1⟩ : S85), (⟨187, 191, 4⟩ : S85), (⟨192, 214, 1⟩ : S85), (⟨215, 215, 4⟩ : S85), (⟨216, 246, 1⟩ : S85), (⟨247, 247, 4⟩ : S85), (⟨248, 383, 1⟩ : S85), (⟨700, 700, 1⟩ : S85), (⟨768, 772, 3⟩ : S85), (⟨774, 776, 3⟩ : S85), (⟨778, 780, 3⟩ : S85), (⟨803, 803, 3⟩ : S85), (⟨807, 808, 3⟩ : S85), (⟨832, 833, 7⟩ : S85), (⟨847, 847, 6⟩ : S85), (⟨902, 902, 1⟩ : S85), (⟨904, 906, 1⟩ : S85), (⟨908, 908, 1⟩ : S85), (⟨910, 929, 1⟩ : S85), (⟨931, 974, 1⟩ : S85)] : List (S85))) := ⟨_, rfl⟩
 replace H : (some y289) = some r := zY hy289 H
 have Ny289 := aM hy289
 clear hy289
 obtain rfl := sI H
 go_enter Try.func82, Try.ntmps82
 go_wp2_with (first | ((with_reducible refine gate_dst (N := 46) rfl ?_); refine Kd.R_lit k85 _ 85 ?hg (N := 46) ?hd (xs := ([(⟨0, 8, 6⟩ : S85), (⟨9, 13, 5⟩ : S85), (⟨14, 31, 6⟩ : S85), (⟨32, 32, 5⟩ : S85), (⟨33, 47, 4⟩ : S85), (⟨48, 57, 2⟩ : S85), (⟨58, 64, 4⟩ : S85), (⟨65, 90, 1⟩ : S85), (⟨91, 96, 4⟩ : S85), (⟨97, 122, 1⟩ : S85), (⟨123, 126, 4⟩ : S85), (⟨127, 132, 6⟩ : S85), (⟨133, 133, 5⟩ : S85), (⟨134, 159, 6⟩ : S85), (⟨160, 160, 5⟩ : S85), (⟨161, 169, 4⟩ : S85), (⟨170, 170, 1⟩ : S85), (⟨171, 172, 4⟩ : S85), (⟨173, 173, 6⟩ : S85), (⟨174, 177, 4⟩ : S85), (⟨178, 179, 2⟩ : S85), (⟨180, 180, 4⟩ : S85), (⟨181, 181, 1⟩ : S85), (⟨182, 184, 4⟩ : S85), (⟨185, 185, 2⟩ : S85), (⟨186, 186, 1⟩ : S85), (⟨187, 191, 4⟩ : S85), (⟨192, 214, 1⟩ : S85), (⟨215, 215, 4⟩ : S85), (⟨216, 246, 1⟩ : S85), (⟨247, 247, 4⟩ : S85), (⟨248, 383, 1⟩ : S85), (⟨700, 700, 1⟩ : S85), (⟨768, 772, 3⟩ : S85), (⟨774, 776, 3⟩ : S85), (⟨778, 780, 3⟩ : S85), (⟨803, 803, 3⟩ : S85), (⟨807, 808, 3⟩ : S85), (⟨832, 833, 7⟩ : S85), (⟨847, 847, 6⟩ : S85), (⟨902, 902, 1⟩ : S85), (⟨904, 906, 1⟩ : S85), (⟨908, 908, 1⟩ : S85), (⟨910, 929, 1⟩ : S85), (⟨931, 974, 1⟩ : S85)] : List (S85))) (inner := [.int .i32 0, .int .i32 8, .int .i64 6, .int .i32 9, .int .i32 13, .int .i64 5, .int .i32 14, .int .i32 31, .int .i64 6, .int .i32 32, .int .i32 32, .int .i64 5, .int .i32 33, .int .i32 47, .int .i64 4, .int .i32 48, .int .i32 57, .int .i64 2, .int .i32 58, .int .i32 64, .int .i64 4, .int .i32 65, .int .i32 90, .int .i64 1, .int .i32 91, .int .i32 96, .int .i64 4, .int .i32 97, .int .i32 122, .int .i64 1, .int .i32 123, .int .i32 126, .int .i64 4, .int .i32 127, .int .i32 132, .int .i64 6, .int .i32 133, .int .i32 133, .int .i64 5, .int .i32 134, .int .i32 159, .int .i64 6, .int .i32 160, .int .i32 160, .int .i64 5, .int .i32 161, .int .i32 169, .int .i64 4, .int .i32 170, .int .i32 170, .int .i64 1, .int .i32 171, .int .i32 172, .int .i64 4, .int .i32 173, .int .i32 173, .int .i64 6, .int .i32 174, .int .i32 177, .int .i64 4, .int .i32 178, .int .i32 179, .int .i64 2, .int .i32 180, .int .i32 180, .int .i64 4, .int .i32 181, .int .i32 181, .int .i64 1, .int .i32 182, .int .i32 184, .int .i64 4, .int .i32 185, .int .i32 185, .int .i64 2, .int .i32 186, .int .i32 186, .int .i64 1, .int .i32 187, .int .i32 191, .int .i64 4, .int .i32 192, .int .i32 214, .int .i64 1, .int .i32 215, .int .i32 215, .int .i64 4, .int .i32 216, .int .i32 246, .int .i64 1, .int .i32 247, .int .i32 247, .int .i64 4, .int .i32 248, .int .i32 383, .int .i64 1, .int .i32 700, .int .i32 700, .int .i64 1, .int .i32 768, .int .i32 772, .int .i64 3, .int .i32 774, .int .i32 776, .int .i64 3, .int .i32 778, .int .i32 780, .int .i64 3, .int .i32 803, .int .i32 803, .int .i64 3, .int .i32 807, .int .i32 808, .int .i64 3, .int .i32 832, .int .i32 833, .int .i64 7, .int .i32 847, .int .i32 847, .int .i64 6, .int .i32 902, .int .i32 902, .int .i64 1, .int .i32 904, .int .i32 906, .int .i64 1, .int .i32 908, .int .i32 908, .int .i64 1, .int .i32 910, .int .i32 929, .int .i64 1, .int .i32 931, .int .i32 974, .int .i64 1]) (ok := fun _ => True) (okp := fun _ => True) ?hr ?hp (fun _ hk => hk) trivial (Below.refl _ _) (Nat.le_refl _) (by simp) ?_; (case hd => rfl); (case hg => rfl); (case hr => kernel_rfl); (case hp => exact (Reps.c3 (show Kd.M k85 _ _ _ (⟨0, 8, 6⟩ : S85) [.int .i32 0, .int .i32 8, .int .i64 6] from (k85_mkM _ _ _ (⟨0, 8, 6⟩ : S85) )) (Reps.c3 (show Kd.M k85 _ _ _ (⟨9, 13, 5⟩ : S85) [.int .i32 9, .int .i32 13, .int .i64 5] from (k85_mkM _ _ _ (⟨9, 13, 5⟩ : S85) )) (Reps.c3 (show Kd.M k85 _ _ _ (⟨14, 31, 6⟩ : S85) [.int .i32 14, .int .i32 31, .int .i64 6] from (k85_mkM _ _ _ (⟨14, 31, 6⟩ : S85) )) (Reps.c3 (show Kd.M k85 _ _ _ (⟨32, 32, 5⟩ : S85) [.int .i32 32, .int .i32 32, .int .i64 5] from (k85_mkM _ _ _ (⟨32, 32, 5⟩ : S85) )) (Reps.c3 (show Kd.M k85 _ _ _ (⟨33, 47, 4⟩ : S85) [.int .i32 33, .int .i32 47, .int .i64 4] from (k85_mkM _ _ _ (⟨33, 47, 4⟩ : S85) )) (Reps.c3 (show Kd.M k85 _ _ _ (⟨48, 57, 2⟩ : S85) [.int .i32 48, .int .i32 57, .int .i64 2] from (k85_mkM _ _ _ (⟨48, 57, 2⟩ : S85) )) (Reps.c3 (show Kd.M k85 _ _ _ (⟨58, 64, 4⟩ : S85) [.int .i32 58, .int .i32 64, .int .i64 4] from (k85_mkM _ _ _ (⟨58, 64, 4⟩ : S85) )) (Reps.c3 (show Kd.M k85 _ _ _ (⟨65, 90, 1⟩ : S85) [.int .i32 65, .int .i32 90, .int .i64 1] from (k85_mkM _ _ _ (⟨65, 90, 1⟩ : S85) )) (Reps.c3 (show Kd.M k85 _ _ _ (⟨91, 96, 4⟩ : S85) [.int .i32 91, .int .i32 96, .int .i64 4] from (k85_mkM _ _ _ (⟨91, 96, 4⟩ : S85) )) (Reps.c3 (show Kd.M k85 _ _ _ (⟨97, 122, 1⟩ : S85) [.int .i32 97, .int .i32 122, .int .i64 1] from (k85_mkM _ _ _ (⟨97, 122, 1⟩ : S85) )) (Reps.c3 (show Kd.M k85 _ _ _ (⟨123, 126, 4⟩ : S85) [.int .i32 123, .int .i32 126, .int .i64 4] from (k85_mkM _ _ _ (⟨123, 126, 4⟩ : S85) )) (Reps.c3 (show Kd.M k85 _ _ _ (⟨127, 132, 6⟩ : S85) [.int .i32 127, .int .i32 132, .int .i64 6] from (k85_mkM _ _ _ (⟨127, 132, 6⟩ : S85) )) (Reps.c3 (show Kd.M k85 _ _ _ (⟨133, 133, 5⟩ : S85) [.int .i32 133, .int .i32 133, .int .i64 5] from (k85_mkM _ _ _ (⟨133, 133, 5⟩ : S85) )) (Reps.c3 (show Kd.M k85 _ _ _ (⟨134, 159, 6⟩ : S85) [.int .i32 134, .int .i32 159, .int .i64 6] from (k85_mkM _ _ _ (⟨134, 159, 6⟩ : S85) )) (Reps.c3 (show Kd.M k85 _ _ _ (⟨160, 160, 5⟩ : S85) [.int .i32 160, .int .i32 160, .int .i64 5] from (k85_mkM _ _ _ (⟨160, 160, 5⟩ : S85) )) (Reps.c3 (show Kd.M k85 _ _ _ (⟨161, 169, 4⟩ : S85) [.int .i32 161, .int .i32 169, .int .i64 4] from (k85_mkM _ _ _ (⟨161, 169, 4⟩ : S85) )) (Reps.c3 (show Kd.M k85 _ _ _ (⟨170, 170, 1⟩ : S85) [.int .i32 170, .int .i32 170, .int .i64 1] from (k85_mkM _ _ _ (⟨170, 170, 1⟩ : S85) )) (Reps.c3 (show Kd.M k85 _ _ _ (⟨171, 172, 4⟩ : S85) [.int .i32 171, .int .i32 172, .int .i64 4] from (k85_mkM _ _ _ (⟨171, 172, 4⟩ : S85) )) (Reps.c3 (show Kd.M k85 _ _ _ (⟨173, 173, 6⟩ : S85) [.int .i32 173, .int .i32 173, .int .i64 6] from (k85_mkM _ _ _ (⟨173, 173, 6⟩ : S85) )) (Reps.c3 (show Kd.M k85 _ _ _ (⟨174, 177, 4⟩ : S85) [.int .i32 174, .int .i32 177, .int .i64 4] from (k85_mkM _ _ _ (⟨174, 177, 4⟩ : S85) )) (Reps.c3 (show Kd.M k85 _ _ _ (⟨178, 179, 2⟩ : S85) [.int .i32 178, .int .i32 179, .int .i64 2] from (k85_mkM _ _ _ (⟨178, 179, 2⟩ : S85) )) (Reps.c3 (show Kd.M k85 _ _ _ (⟨180, 180, 4⟩ : S85) [.int .i32 180, .int .i32 180, .int .i64 4] from (k85_mkM _ _ _ (⟨180, 180, 4⟩ : S85) )) (Reps.c3 (show Kd.M k85 _ _ _ (⟨181, 181, 1⟩ : S85) [.int .i32 181, .int .i32 181, .int .i64 1] from (k85_mkM _ _ _ (⟨181, 181, 1⟩ : S85) )) (Reps.c3 (show Kd.M k85 _ _ _ (⟨182, 184, 4⟩ : S85) [.int .i32 182, .int .i32 184, .int .i64 4] from (k85_mkM _ _ _ (⟨182, 184, 4⟩ : S85) )) (Reps.c3 (show Kd.M k85 _ _ _ (⟨185, 185, 2⟩ : S85) [.int .i32 185, .int .i32 185, .int .i64 2] from (k85_mkM _ _ _ (⟨185, 185, 2⟩ : S85) )) (Reps.c3 (show Kd.M k85 _ _ _ (⟨186, 186, 1⟩ : S85) [.int .i32 186, .int .i32 186, .int .i64 1] from (k85_mkM _ _ _ (⟨186, 186, 1⟩ : S85) )) (Reps.c3 (show Kd.M k85 _ _ _ (⟨187, 191, 4⟩ : S85) [.int .i32 187, .int .i32 191, .int .i64 4] from (k85_mkM _ _ _ (⟨187, 191, 4⟩ : S85) )) (Reps.c3 (show Kd.M k85 _ _ _ (⟨192, 214, 1⟩ : S85) [.int .i32 192, .int .i32 214, .int .i64 1] from (k85_mkM _ _ _ (⟨192, 214, 1⟩ : S85) )) (Reps.c3 (show Kd.M k85 _ _ _ (⟨215, 215, 4⟩ : S85) [.int .i32 215, .int .i32 215, .int .i64 4] from (k85_mkM _ _ _ (⟨215, 215, 4⟩ : S85) )) (Reps.c3 (show Kd.M k85 _ _ _ (⟨216, 246, 1⟩ : S85) [.int .i32 216, .int .i32 246, .int .i64 1] from (k85_mkM _ _ _ (⟨216, 246, 1⟩ : S85) )) (Reps.c3 (show Kd.M k85 _ _ _ (⟨247, 247, 4⟩ : S85) [.int .i32 247, .int .i32 247, .int .i64 4] from (k85_mkM _ _ _ (⟨247, 247, 4⟩ : S85) )) (Reps.c3 (show Kd.M k85 _ _ _ (⟨248, 383, 1⟩ : S85) [.int .i32 248, .int .i32 383, .int .i64 1] from (k85_mkM _ _ _ (⟨248, 383, 1⟩ : S85) )) (Reps.c3 (show Kd.M k85 _ _ _ (⟨700, 700, 1⟩ : S85) [.int .i32 700, .int .i32 700, .int .i64 1] from (k85_mkM _ _ _ (⟨700, 700, 1⟩ : S85) )) (Reps.c3 (show Kd.M k85 _ _ _ (⟨768, 772, 3⟩ : S85) [.int .i32 768, .int .i32 772, .int .i64 3] from (k85_mkM _ _ _ (⟨768, 772, 3⟩ : S85) )) (Reps.c3 (show Kd.M k85 _ _ _ (⟨774, 776, 3⟩ : S85) [.int .i32 774, .int .i32 776, .int .i64 3] from (k85_mkM _ _ _ (⟨774, 776, 3⟩ : S85) )) (Reps.c3 (show Kd.M k85 _ _ _ (⟨778, 780, 3⟩ : S85) [.int .i32 778, .int .i32 780, .int .i64 3] from (k85_mkM _ _ _ (⟨778, 780, 3⟩ : S85) )) (Reps.c3 (show Kd.M k85 _ _ _ (⟨803, 803, 3⟩ : S85) [.int .i32 803, .int .i32 803, .int .i64 3] from (k85_mkM _ _ _ (⟨803, 803, 3⟩ : S85) )) (Reps.c3 (show Kd.M k85 _ _ _ (⟨807, 808, 3⟩ : S85) [.int .i32 807, .int .i32 808, .int .i64 3] from (k85_mkM _ _ _ (⟨807, 808, 3⟩ : S85) )) (Reps.c3 (show Kd.M k85 _ _ _ (⟨832, 833, 7⟩ : S85) [.int .i32 832, .int .i32 833, .int .i64 7] from (k85_mkM _ _ _ (⟨832, 833, 7⟩ : S85) )) (Reps.c3 (show Kd.M k85 _ _ _ (⟨847, 847, 6⟩ : S85) [.int .i32 847, .int .i32 847, .int .i64 6] from (k85_mkM _ _ _ (⟨847, 847, 6⟩ : S85) )) (Reps.c3 (show Kd.M k85 _ _ _ (⟨902, 902, 1⟩ : S85) [.int .i32 902, .int .i32 902, .int .i64 1] from (k85_mkM _ _ _ (⟨902, 902, 1⟩ : S85) )) (Reps.c3 (show Kd.M k85 _ _ _ (⟨904, 906, 1⟩ : S85) [.int .i32 904, .int .i32 906, .int .i64 1] from (k85_mkM _ _ _ (⟨904, 906, 1⟩ : S85) )) (Reps.c3 (show Kd.M k85 _ _ _ (⟨908, 908, 1⟩ : S85) [.int .i32 908, .int .i32 908, .int .i64 1] from (k85_mkM _ _ _ (⟨908, 908, 1⟩ : S85) )) (Reps.c3 (show Kd.M k85 _ _ _ (⟨910, 929, 1⟩ : S85) [.int .i32 910, .int .i32 929, .int .i64 1] from (k85_mkM _ _ _ (⟨910, 929, 1⟩ : S85) )) (Reps.c3 (show Kd.M k85 _ _ _ (⟨931, 974, 1⟩ : S85) [.int .i32 931, .int .i32 974, .int .i64 1] from (k85_mkM _ _ _ (⟨931, 974, 1⟩ : S85) )) (Reps.none _ _))))))))))))))))))))))))))))))))))))))))))))))); intro v290 w1 ho2 hb hg_ hnew_; clear hg_ hnew_; (first | rw [← Ny289.out] at ho2 | (simp only [Int.reduceToNat] at ho2; rw [← Ny289.out] at ho2)); have n_ := zI (aM (Kd.R_lower ho2 (below_size zB))) (aM (below_step zB hb)); clear HB; obtain ⟨HO291, HB⟩ := n_; clear hb ho2))
 go_ret
 exact ⟨_, zE, zR HO291, zB⟩

/-! ### toponymref03_upper: function 83 -/
def toponymref03_upper.f  : Option ((List (S85))) := some (([(⟨1025, 1025, 1⟩ : S85), (⟨1040, 1103, 1⟩ : S85), (⟨1105, 1105, 1⟩ : S85), (⟨1488, 1514, 1⟩ : S85), (⟨1632, 1641, 2⟩ : S85), (⟨4352, 4370, 1⟩ : S85), (⟨4449, 4469, 1⟩ : S85), (⟨4520, 4546, 1⟩ : S85), (⟨8192, 8202, 5⟩ : S85), (⟨8203, 8207, 6⟩ : S85), (⟨8208, 8209, 4⟩ : S85), (⟨8232, 8233, 5⟩ : S85), (⟨8234, 8238, 6⟩ : S85), (⟨8239, 8239, 5⟩ : S85), (⟨8260, 8260, 4⟩ : S85), (⟨8287, 8287, 5⟩ : S85), (⟨8288, 8291, 6⟩ : S85), (⟨8298, 8303, 6⟩ : S85), (⟨8304, 8304, 2⟩ : S85), (⟨8308, 8313, 2⟩ : S85), (⟨8320, 8329, 2⟩ : S85), (⟨8486, 8486, 1⟩ : S85), (⟨8490, 8491, 1⟩ : S85), (⟨8544, 8555, 1⟩ : S85), (⟨8560, 8571, 1⟩ : S85), (⟨8722, 8722, 4⟩ : S85), (⟨12288, 12288, 5⟩ : S85), (⟨12353, 12436, 1⟩ : S85), (⟨12441, 12442, 3⟩ : S85), (⟨19968, 20223, 1⟩ : S85), (⟨44032, 55203, 1⟩ : S85), (⟨57344, 63743, 7⟩ : S85), (⟨64256, 64261, 1⟩ : S85), (⟨64976, 65007, 7⟩ : S85), (⟨65024, 65039, 6⟩ : S85), (⟨65279, 65279, 6⟩ : S85), (⟨65281, 65295, 4⟩ : S85), (⟨65296, 65305, 2⟩ : S85), (⟨65306, 65312, 4⟩ : S85), (⟨65313, 65338, 1⟩ : S85), (⟨65339, 65344, 4⟩ : S85), (⟨65345, 65370, 1⟩ : S85), (⟨65371, 65374, 4⟩ : S85), (⟨65529, 65532, 6⟩ : S85), (⟨65533, 65535, 7⟩ : S85)] : List (S85)))
set_option maxHeartbeats 8000000 in
set_option maxRecDepth 100000 in
theorem toponymref03_upper.calls  (r : List (S85)) (w : World) (h : toponymref03_upper.f  = some r) :
  Calls Try.prog 83 #[] w fun e w' => ∃ v0_ : Value, e = .returned (v0_) ∧ Kd.R k85 85 w' w.heap.size (fun _ => True) v0_ r ∧ Below w.heap.size w w' := by
 have hu85 := Try.underlying85
 have HB := aM (Below.refl w.heap.size w)
 have H : (some (([(⟨1025, 1025, 1⟩ : S85), (⟨1040, 1103, 1⟩ : S85), (⟨1105, 1105, 1⟩ : S85), (⟨1488, 1514, 1⟩ : S85), (⟨1632, 1641, 2⟩ : S85), (⟨4352, 4370, 1⟩ : S85), (⟨4449, 4469, 1⟩ : S85), (⟨4520, 4546, 1⟩ : S85), (⟨8192, 8202, 5⟩ : S85), (⟨8203, 8207, 6⟩ : S85), (⟨8208, 8209, 4⟩ : S85), (⟨8232, 8233, 5⟩ : S85), (⟨8234, 8238, 6⟩ : S85), (⟨8239, 8239, 5⟩ : S85), (⟨8260, 8260, 4⟩ : S85), (⟨8287, 8287, 5⟩ : S85), (⟨8288, 8291, 6⟩ : S85), (⟨8298, 8303, 6⟩ : S85), (⟨8304, 8304, 2⟩ : S85), (⟨8308, 8313, 2⟩ : S85), (⟨8320, 8329, 2⟩ : S85), (⟨8486, 8486, 1⟩ : S85), (⟨8490, 8491, 1⟩ : S85), (⟨8544, 8555, 1⟩ : S85), (⟨8560, 8571, 1⟩ : S85), (⟨8722, 8722, 4⟩ : S85), (⟨12288, 12288, 5⟩ : S85), (⟨12353, 12436, 1⟩ : S85), (⟨12441, 12442, 3⟩ : S85), (⟨19968, 20223, 1⟩ : S85), (⟨44032, 55203, 1⟩ : S85), (⟨57344, 63743, 7⟩ : S85), (⟨64256, 64261, 1⟩ : S85), (⟨64976, 65007, 7⟩ : S85), (⟨65024, 65039, 6⟩ : S85), (⟨65279, 65279, 6⟩ : S85), (⟨65281, 65295, 4⟩ : S85), (⟨65296, 65305, 2⟩ : S85), (⟨65306, 65312, 4⟩ : S85), (⟨65313, 65338, 1⟩ : S85), (⟨65339, 65344, 4⟩ : S85), (⟨65345, 65370, 1⟩ : S85), (⟨65371, 65374, 4⟩ : S85), (⟨65529, 65532, 6⟩ : S85), (⟨65533, 65535, 7⟩ : S85)] : List (S85)))) = some r := h
 clear h
 obtain ⟨y292, hy292⟩ : ∃ y_ : List (S85), y_ = (([(⟨1025, 1025, 1⟩ : S85), (⟨1040, 1103, 1⟩ : S85), (⟨1105, 1105, 1⟩ : S85), (⟨1488, 1514, 1⟩ : S85), (⟨1632, 1641, 2⟩ : S85), (⟨4352, 4370, 1⟩ : S85), (⟨4449, 4469, 1⟩ : S85), (⟨4520, 4546, 1⟩ : S85), (⟨8192, 8202, 5⟩ : S85), (⟨8203, 8207, 6⟩ : S85), (⟨8208, 8209, 4⟩ : S85), (⟨8232, 8233, 5⟩ : S85), (⟨8234, 8238, 6⟩ : S85), (⟨8239, 8239, 5⟩ : S85), (⟨8260, 8260, 4⟩ : S85), (⟨8287, 8287, 5⟩ : S85), (⟨8288, 8291, 6⟩ : S85), (⟨8298, 8303, 6⟩ : S85), (⟨8304, 8304, 2⟩ : S85), (⟨8308, 8313, 2⟩ : S85), (⟨8320, 8329, 2⟩ : S85), (⟨8486, 8486, 1⟩ : S85), (⟨8490, 8491, 1⟩ : S85), (⟨8544, 8555, 1⟩ : S85), (⟨8560, 8571, 1⟩ : S85), (⟨8722, 8722, 4⟩ : S85), (⟨12288, 12288, 5⟩ : S85), (⟨12353, 12436, 1⟩ : S85), (⟨12441, 12442, 3⟩ : S85), (⟨19968, 20223, 1⟩ : S85), (⟨44032, 55203, 1⟩ : S85), (⟨57344, 63743, 7⟩ : S85), (⟨64256, 64261, 1⟩ : S85), (⟨64976, 65007, 7⟩ : S85), (⟨65024, 65039, 6⟩ : S85), (⟨65279, 65279, 6⟩ : S85), (⟨65281, 65295, 4⟩ : S85), (⟨65296, 65305, 2⟩ : S85), (⟨65306, 65312, 4⟩ : S85), (⟨65313, 65338, 1⟩ : S85), (⟨65339, 65344, 4⟩ : S85), (⟨65345, 65370, 1⟩ : S85), (⟨65371, 65374, 4⟩ : S85), (⟨65529, 65532, 6⟩ : S85), (⟨65533, 65535, 7⟩ : S85)] : List (S85))) := ⟨_, rfl⟩
 replace H : (some y292) = some r := zY hy292 H
 have Ny292 := aM hy292
 clear hy292
 obtain rfl := sI H
 go_enter Try.func83, Try.ntmps83
 go_wp2_with (first | ((with_reducible refine gate_dst (N := 46) rfl ?_); refine Kd.R_lit k85 _ 85 ?hg (N := 46) ?hd (xs := ([(⟨1025, 1025, 1⟩ : S85), (⟨1040, 1103, 1⟩ : S85), (⟨1105, 1105, 1⟩ : S85), (⟨1488, 1514, 1⟩ : S85), (⟨1632, 1641, 2⟩ : S85), (⟨4352, 4370, 1⟩ : S85), (⟨4449, 4469, 1⟩ : S85), (⟨4520, 4546, 1⟩ : S85), (⟨8192, 8202, 5⟩ : S85), (⟨8203, 8207, 6⟩ : S85), (⟨8208, 8209, 4⟩ : S85), (⟨8232, 8233, 5⟩ : S85), (⟨8234, 8238, 6⟩ : S85), (⟨8239, 8239, 5⟩ : S85), (⟨8260, 8260, 4⟩ : S85), (⟨8287, 8287, 5⟩ : S85), (⟨8288, 8291, 6⟩ : S85), (⟨8298, 8303, 6⟩ : S85), (⟨8304, 8304, 2⟩ : S85), (⟨8308, 8313, 2⟩ : S85), (⟨8320, 8329, 2⟩ : S85), (⟨8486, 8486, 1⟩ : S85), (⟨8490, 8491, 1⟩ : S85), (⟨8544, 8555, 1⟩ : S85), (⟨8560, 8571, 1⟩ : S85), (⟨8722, 8722, 4⟩ : S85), (⟨12288, 12288, 5⟩ : S85), (⟨12353, 12436, 1⟩ : S85), (⟨12441, 12442, 3⟩ : S85), (⟨19968, 20223, 1⟩ : S85), (⟨44032, 55203, 1⟩ : S85), (⟨57344, 63743, 7⟩ : S85), (⟨64256, 64261, 1⟩ : S85), (⟨64976, 65007, 7⟩ : S85), (⟨65024, 65039, 6⟩ : S85), (⟨65279, 65279, 6⟩ : S85), (⟨65281, 65295, 4⟩ : S85), (⟨65296, 65305, 2⟩ : S85), (⟨65306, 65312, 4⟩ : S85), (⟨65313, 65338, 1⟩ : S85), (⟨65339, 65344, 4⟩ : S85), (⟨65345, 65370, 1⟩ : S85), (⟨65371, 65374, 4⟩ : S85), (⟨65529, 65532, 6⟩ : S85), (⟨65533, 65535, 7⟩ : S85)] : List (S85))) (inner := [.int .i32 1025, .int .i32 1025, .int .i64 1, .int .i32 1040, .int .i32 1103, .int .i64 1, .int .i32 1105, .int .i32 1105, .int .i64 1, .int .i32 1488, .int .i32 1514, .int .i64 1, .int .i32 1632, .int .i32 1641, .int .i64 2, .int .i32 4352, .int .i32 4370, .int .i64 1, .int .i32 4449, .int .i32 4469, .int .i64 1, .int .i32 4520, .int .i32 4546, .int .i64 1, .int .i32 8192, .int .i32 8202, .int .i64 5, .int .i32 8203, .int .i32 8207, .int .i64 6, .int .i32 8208, .int .i32 8209, .int .i64 4, .int .i32 8232, .int .i32 8233, .int .i64 5, .int .i32 8234, .int .i32 8238, .int .i64 6, .int .i32 8239, .int .i32 8239, .int .i64 5, .int .i32 8260, .int .i32 8260, .int .i64 4, .int .i32 8287, .int .i32 8287, .int .i64 5, .int .i32 8288, .int .i32 8291, .int .i64 6, .int .i32 8298, .int .i32 8303, .int .i64 6, .int .i32 8304, .int .i32 8304, .int .i64 2, .int .i32 8308, .int .i32 8313, .int .i64 2, .int .i32 8320, .int .i32 8329, .int .i64 2, .int .i32 8486, .int .i32 8486, .int .i64 1, .int .i32 8490, .int .i32 8491, .int .i64 1, .int .i32 8544, .int .i32 8555, .int .i64 1, .int .i32 8560, .int .i32 8571, .int .i64 1, .int .i32 8722, .int .i32 8722, .int .i64 4, .int .i32 12288, .int .i32 12288, .int .i64 5, .int .i32 12353, .int .i32 12436, .int .i64 1, .int .i32 12441, .int .i32 12442, .int .i64 3, .int .i32 19968, .int .i32 20223, .int .i64 1, .int .i32 44032, .int .i32 55203, .int .i64 1, .int .i32 57344, .int .i32 63743, .int .i64 7, .int .i32 64256, .int .i32 64261, .int .i64 1, .int .i32 64976, .int .i32 65007, .int .i64 7, .int .i32 65024, .int .i32 65039, .int .i64 6, .int .i32 65279, .int .i32 65279, .int .i64 6, .int .i32 65281, .int .i32 65295, .int .i64 4, .int .i32 65296, .int .i32 65305, .int .i64 2, .int .i32 65306, .int .i32 65312, .int .i64 4, .int .i32 65313, .int .i32 65338, .int .i64 1, .int .i32 65339, .int .i32 65344, .int .i64 4, .int .i32 65345, .int .i32 65370, .int .i64 1, .int .i32 65371, .int .i32 65374, .int .i64 4, .int .i32 65529, .int .i32 65532, .int .i64 6, .int .i32 65533, .int .i32 65535, .int .i64 7]) (ok := fun _ => True) (okp := fun _ => True) ?hr ?hp (fun _ hk => hk) trivial (Below.refl _ _) (Nat.le_refl _) (by simp) ?_; (case hd => rfl); (case hg => rfl); (case hr => kernel_rfl); (case hp => exact (Reps.c3 (show Kd.M k85 _ _ _ (⟨1025, 1025, 1⟩ : S85) [.int .i32 1025, .int .i32 1025, .int .i64 1] from (k85_mkM _ _ _ (⟨1025, 1025, 1⟩ : S85) )) (Reps.c3 (show Kd.M k85 _ _ _ (⟨1040, 1103, 1⟩ : S85) [.int .i32 1040, .int .i32 1103, .int .i64 1] from (k85_mkM _ _ _ (⟨1040, 1103, 1⟩ : S85) )) (Reps.c3 (show Kd.M k85 _ _ _ (⟨1105, 1105, 1⟩ : S85) [.int .i32 1105, .int .i32 1105, .int .i64 1] from (k85_mkM _ _ _ (⟨1105, 1105, 1⟩ : S85) )) (Reps.c3 (show Kd.M k85 _ _ _ (⟨1488, 1514, 1⟩ : S85) [.int .i32 1488, .int .i32 1514, .int .i64 1] from (k85_mkM _ _ _ (⟨1488, 1514, 1⟩ : S85) )) (Reps.c3 (show Kd.M k85 _ _ _ (⟨1632, 1641, 2⟩ : S85) [.int .i32 1632, .int .i32 1641, .int .i64 2] from (k85_mkM _ _ _ (⟨1632, 1641, 2⟩ : S85) )) (Reps.c3 (show Kd.M k85 _ _ _ (⟨4352, 4370, 1⟩ : S85) [.int .i32 4352, .int .i32 4370, .int .i64 1] from (k85_mkM _ _ _ (⟨4352, 4370, 1⟩ : S85) )) (Reps.c3 (show Kd.M k85 _ _ _ (⟨4449, 4469, 1⟩ : S85) [.int .i32 4449, .int .i32 4469, .int .i64 1] from (k85_mkM _ _ _ (⟨4449, 4469, 1⟩ : S85) )) (Reps.c3 (show Kd.M k85 _ _ _ (⟨4520, 4546, 1⟩ : S85) [.int .i32 4520, .int .i32 4546, .int .i64 1] from (k85_mkM _ _ _ (⟨4520, 4546, 1⟩ : S85) )) (Reps.c3 (show Kd.M k85 _ _ _ (⟨8192, 8202, 5⟩ : S85) [.int .i32 8192, .int .i32 8202, .int .i64 5] from (k85_mkM _ _ _ (⟨8192, 8202, 5⟩ : S85) )) (Reps.c3 (show Kd.M k85 _ _ _ (⟨8203, 8207, 6⟩ : S85) [.int .i32 8203, .int .i32 8207, .int .i64 6] from (k85_mkM _ _ _ (⟨8203, 8207, 6⟩ : S85) )) (Reps.c3 (show Kd.M k85 _ _ _ (⟨8208, 8209, 4⟩ : S85) [.int .i32 8208, .int .i32 8209, .int .i64 4] from (k85_mkM _ _ _ (⟨8208, 8209, 4⟩ : S85) )) (Reps.c3 (show Kd.M k85 _ _ _ (⟨8232, 8233, 5⟩ : S85) [.int .i32 8232, .int .i32 8233, .int .i64 5] from (k85_mkM _ _ _ (⟨8232, 8233, 5⟩ : S85) )) (Reps.c3 (show Kd.M k85 _ _ _ (⟨8234, 8238, 6⟩ : S85) [.int .i32 8234, .int .i32 8238, .int .i64 6] from (k85_mkM _ _ _ (⟨8234, 8238, 6⟩ : S85) )) (Reps.c3 (show Kd.M k85 _ _ _ (⟨8239, 8239, 5⟩ : S85) [.int .i32 8239, .int .i32 8239, .int .i64 5] from (k85_mkM _ _ _ (⟨8239, 8239, 5⟩ : S85) )) (Reps.c3 (show Kd.M k85 _ _ _ (⟨8260, 8260, 4⟩ : S85) [.int .i32 8260, .int .i32 8260, .int .i64 4] from (k85_mkM _ _ _ (⟨8260, 8260, 4⟩ : S85) )) (Reps.c3 (show Kd.M k85 _ _ _ (⟨8287, 8287, 5⟩ : S85) [.int .i32 8287, .int .i32 8287, .int .i64 5] from (k85_mkM _ _ _ (⟨8287, 8287, 5⟩ : S85) )) (Reps.c3 (show Kd.M k85 _ _ _ (⟨8288, 8291, 6⟩ : S85) [.int .i32 8288, .int .i32 8291, .int .i64 6] from (k85_mkM _ _ _ (⟨8288, 8291, 6⟩ : S85) )) (Reps.c3 (show Kd.M k85 _ _ _ (⟨8298, 8303, 6⟩ : S85) [.int .i32 8298, .int .i32 8303, .int .i64 6] from (k85_mkM _ _ _ (⟨8298, 8303, 6⟩ : S85) )) (Reps.c3 (show Kd.M k85 _ _ _ (⟨8304, 8304, 2⟩ : S85) [.int .i32 8304, .int .i32 8304, .int .i64 2] from (k85_mkM _ _ _ (⟨8304, 8304, 2⟩ : S85) )) (Reps.c3 (show Kd.M k85 _ _ _ (⟨8308, 8313, 2⟩ : S85) [.int .i32 8308, .int .i32 8313, .int .i64 2] from (k85_mkM _ _ _ (⟨8308, 8313, 2⟩ : S85) )) (Reps.c3 (show Kd.M k85 _ _ _ (⟨8320, 8329, 2⟩ : S85) [.int .i32 8320, .int .i32 8329, .int .i64 2] from (k85_mkM _ _ _ (⟨8320, 8329, 2⟩ : S85) )) (Reps.c3 (show Kd.M k85 _ _ _ (⟨8486, 8486, 1⟩ : S85) [.int .i32 8486, .int .i32 8486, .int .i64 1] from (k85_mkM _ _ _ (⟨8486, 8486, 1⟩ : S85) )) (Reps.c3 (show Kd.M k85 _ _ _ (⟨8490, 8491, 1⟩ : S85) [.int .i32 8490, .int .i32 8491, .int .i64 1] from (k85_mkM _ _ _ (⟨8490, 8491, 1⟩ : S85) )) (Reps.c3 (show Kd.M k85 _ _ _ (⟨8544, 8555, 1⟩ : S85) [.int .i32 8544, .int .i32 8555, .int .i64 1] from (k85_mkM _ _ _ (⟨8544, 8555, 1⟩ : S85) )) (Reps.c3 (show Kd.M k85 _ _ _ (⟨8560, 8571, 1⟩ : S85) [.int .i32 8560, .int .i32 8571, .int .i64 1] from (k85_mkM _ _ _ (⟨8560, 8571, 1⟩ : S85) )) (Reps.c3 (show Kd.M k85 _ _ _ (⟨8722, 8722, 4⟩ : S85) [.int .i32 8722, .int .i32 8722, .int .i64 4] from (k85_mkM _ _ _ (⟨8722, 8722, 4⟩ : S85) )) (Reps.c3 (show Kd.M k85 _ _ _ (⟨12288, 12288, 5⟩ : S85) [.int .i32 12288, .int .i32 12288, .int .i64 5] from (k85_mkM _ _ _ (⟨12288, 12288, 5⟩ : S85) )) (Reps.c3 (show Kd.M k85 _ _ _ (⟨12353, 12436, 1⟩ : S85) [.int .i32 12353, .int .i32 12436, .int .i64 1] from (k85_mkM _ _ _ (⟨12353, 12436, 1⟩ : S85) )) (Reps.c3 (show Kd.M k85 _ _ _ (⟨12441, 12442, 3⟩ : S85) [.int .i32 12441, .int .i32 12442, .int .i64 3] from (k85_mkM _ _ _ (⟨12441, 12442, 3⟩ : S85) )) (Reps.c3 (show Kd.M k85 _ _ _ (⟨19968, 20223, 1⟩ : S85) [.int .i32 19968, .int .i32 20223, .int .i64 1] from (k85_mkM _ _ _ (⟨19968, 20223, 1⟩ : S85) )) (Reps.c3 (show Kd.M k85 _ _ _ (⟨44032, 55203, 1⟩ : S85) [.int .i32 44032, .int .i32 55203, .int .i64 1] from (k85_mkM _ _ _ (⟨44032, 55203, 1⟩ : S85) )) (Reps.c3 (show Kd.M k85 _ _ _ (⟨57344, 63743, 7⟩ : S85) [.int .i32 57344, .int .i32 63743, .int .i64 7] from (k85_mkM _ _ _ (⟨57344, 63743, 7⟩ : S85) )) (Reps.c3 (show Kd.M k85 _ _ _ (⟨64256, 64261, 1⟩ : S85) [.int .i32 64256, .int .i32 64261, .int .i64 1] from (k85_mkM _ _ _ (⟨64256, 64261, 1⟩ : S85) )) (Reps.c3 (show Kd.M k85 _ _ _ (⟨64976, 65007, 7⟩ : S85) [.int .i32 64976, .int .i32 65007, .int .i64 7] from (k85_mkM _ _ _ (⟨64976, 65007, 7⟩ : S85) )) (Reps.c3 (show Kd.M k85 _ _ _ (⟨65024, 65039, 6⟩ : S85) [.int .i32 65024, .int .i32 65039, .int .i64 6] from (k85_mkM _ _ _ (⟨65024, 65039, 6⟩ : S85) )) (Reps.c3 (show Kd.M k85 _ _ _ (⟨65279, 65279, 6⟩ : S85) [.int .i32 65279, .int .i32 65279, .int .i64 6] from (k85_mkM _ _ _ (⟨65279, 65279, 6⟩ : S85) )) (Reps.c3 (show Kd.M k85 _ _ _ (⟨65281, 65295, 4⟩ : S85) [.int .i32 65281, .int .i32 65295, .int .i64 4] from (k85_mkM _ _ _ (⟨65281, 65295, 4⟩ : S85) )) (Reps.c3 (show Kd.M k85 _ _ _ (⟨65296, 65305, 2⟩ : S85) [.int .i32 65296, .int .i32 65305, .int .i64 2] from (k85_mkM _ _ _ (⟨65296, 65305, 2⟩ : S85) )) (Reps.c3 (show Kd.M k85 _ _ _ (⟨65306, 65312, 4⟩ : S85) [.int .i32 65306, .int .i32 65312, .int .i64 4] from (k85_mkM _ _ _ (⟨65306, 65312, 4⟩ : S85) )) (Reps.c3 (show Kd.M k85 _ _ _ (⟨65313, 65338, 1⟩ : S85) [.int .i32 65313, .int .i32 65338, .int .i64 1] from (k85_mkM _ _ _ (⟨65313, 65338, 1⟩ : S85) )) (Reps.c3 (show Kd.M k85 _ _ _ (⟨65339, 65344, 4⟩ : S85) [.int .i32 65339, .int .i32 65344, .int .i64 4] from (k85_mkM _ _ _ (⟨65339, 65344, 4⟩ : S85) )) (Reps.c3 (show Kd.M k85 _ _ _ (⟨65345, 65370, 1⟩ : S85) [.int .i32 65345, .int .i32 65370, .int .i64 1] from (k85_mkM _ _ _ (⟨65345, 65370, 1⟩ : S85) )) (Reps.c3 (show Kd.M k85 _ _ _ (⟨65371, 65374, 4⟩ : S85) [.int .i32 65371, .int .i32 65374, .int .i64 4] from (k85_mkM _ _ _ (⟨65371, 65374, 4⟩ : S85) )) (Reps.c3 (show Kd.M k85 _ _ _ (⟨65529, 65532, 6⟩ : S85) [.int .i32 65529, .int .i32 65532, .int .i64 6] from (k85_mkM _ _ _ (⟨65529, 65532, 6⟩ : S85) )) (Reps.c3 (show Kd.M k85 _ _ _ (⟨65533, 65535, 7⟩ : S85) [.int .i32 65533, .int .i32 65535, .int .i64 7] from (k85_mkM _ _ _ (⟨65533, 65535, 7⟩ : S85) )) (Reps.none _ _))))))))))))))))))))))))))))))))))))))))))))))); intro v293 w1 ho2 hb hg_ hnew_; clear hg_ hnew_; (first | rw [← Ny292.out] at ho2 | (simp only [Int.reduceToNat] at ho2; rw [← Ny292.out] at ho2)); have n_ := zI (aM (Kd.R_lower ho2 (below_size zB))) (aM (below_step zB hb)); clear HB; obtain ⟨HO294, HB⟩ := n_; clear hb ho2))
 go_ret
 exact ⟨_, zE, zR HO294, zB⟩

/-! ### toponymref03_planes: function 84 -/
def toponymref03_planes.l0 : Nat → List (S85) → Int → Option ((List (S85)))
 | 0, _, _ => none
 | k + 1, x1, x2 => if x2 ≤ 16 then (if x1.length < 8796093022208 then (toponymref03_planes.l0 k (x1 ++ [(⟨wrap32 (wrap64 ((wrap64 (65536 * x2)) + 65534)), wrap32 ((wrap32 (wrap64 ((wrap64 (65536 * x2)) + 65534))) + 1), 7⟩ : S85)]) (wrap64 (x2 + 1))) else (none)) else (some x1)
def toponymref03_planes.f (k : Nat)  : Option ((List (S85))) := toponymref03_planes.l0 k ([] : List (S85)) 1
theorem toponymref03_planes.mono_l : ∀ k, (∀ y0 y1, LeO (toponymref03_planes.l0 k y0 y1) (toponymref03_planes.l0 (k + 1) y0 y1))
 | 0 => fun _ _ r h => by simp [toponymref03_planes.l0] at h
 | k + 1 => by
  have ih0 := toponymref03_planes.mono_l k
  ·intro y0 y1
   unfold toponymref03_planes.l0
   repeat' first
   | (with_reducible exact ih0 _ _)
   | (with_reducible exact LeO.refl _)
   | exact ih0 _ _
   | exact LeO.none _
   | refine LeO.ite ?_ ?_
   | refine LeO.bind ?_ (fun _ => ?_)
theorem toponymref03_planes.mono : ∀ k, LeO (toponymref03_planes.f k ) (toponymref03_planes.f (k + 1) ) := by
 intro  k
 have ih0 := toponymref03_planes.mono_l k
 unfold toponymref03_planes.f
 repeat' first
   | (with_reducible exact ih0 _ _)
   | (with_reducible exact LeO.refl _)
   | exact ih0 _ _
   | exact LeO.none _
   | refine LeO.ite ?_ ?_
   | refine LeO.bind ?_ (fun _ => ?_)
set_option maxHeartbeats 8000000 in
set_option maxRecDepth 100000 in
theorem toponymref03_planes.calls (k : Nat)  (r : List (S85)) (w : World) (h : toponymref03_planes.f k  = some r) :
  Calls Try.prog 84 #[] w fun e w' => ∃ v0_ : Value, e = .returned (v0_) ∧ Kd.R k85 85 w' w.heap.size (fun _ => True) v0_ r ∧ Below w.heap.size w w' := by
 have hu85 := Try.underlying85
 have HB := aM (Below.refl w.heap.size w)
 have H : (toponymref03_planes.l0 k ([] : List (S85)) 1) = some r := h
 clear h
 have H' := aM H
 clear H
 go_enter Try.func84, Try.ntmps84
 go_wp2
 go_loopg [1, 2] k (fun kq v1 v2 w' => ∃ (x1_1 : List (S85)) (x2_1 : Int), v2 = .int .i64 x2_1 ∧ Aside0 (toponymref03_planes.l0 kq x1_1 x2_1 = some r) ∧ Aside0 (kq ≤ k) ∧ Aside0 (Kd.R k85 85 w' w.heap.size (fun _ => True) v1 x1_1) ∧ Aside0 (Below w.heap.size w w'))
 case atStart => exact ⟨(([] : List (S85))), (1), zP, H', ⟨Nat.le_refl _⟩, ⟨zL⟩, ⟨zB⟩⟩
 case round =>
  clear H'
  obtain ⟨x1_1, x2_1, rfl, HA, HK1, HO_1, HB⟩ := hrel
  cases gk with
  | zero => exact absurd HA.out (by simp [toponymref03_planes.l0])
  | succ k1 =>
   have H := HA.out
   clear HA
   simp only [toponymref03_planes.l0] at H
   by_cases c1 : x2_1 ≤ 16
   ·rw [if_pos c1] at H
    have c1b0 : decide (x2_1 ≤ 16) = true := decide_eq_true c1
    clear c1
    by_cases c2 : x1_1.length < 8796093022208
    ·rw [if_pos c2] at H
     have LMc2 := aM c2
     clear c2
     obtain ⟨y295, hy295⟩ : ∃ y_ : List (S85), y_ = (x1_1 ++ [(⟨wrap32 (wrap64 ((wrap64 (65536 * x2_1)) + 65534)), wrap32 ((wrap32 (wrap64 ((wrap64 (65536 * x2_1)) + 65534))) + 1), 7⟩ : S85)]) := ⟨_, rfl⟩
     replace H : (toponymref03_planes.l0 k1 y295 (wrap64 (x2_1 + 1))) = some r := zY hy295 H
     have Ny295 := aM hy295
     clear hy295
     have H' := aM H
     clear H
     go_wp2_with (first | ((with_reducible refine gate_builtin (b := .append) (xs := #[.tmp 12, .tmp 17]) rfl ?_); at_builtin; refine Kd.R_append k85 (w0 := w) w.heap.size rfl (.tmp 12) (.tmp 17) 82 85 (.agg #[(.int .i32 0), (.int .i32 0), (.int .i64 0)]) 16 rfl Try.underlying82 info85 rfl (by decide) (by omega) u1 x1_1 (⟨wrap32 (wrap64 ((wrap64 (65536 * x2_1)) + 65534)), wrap32 ((wrap32 (wrap64 ((wrap64 (65536 * x2_1)) + 65534))) + 1), 7⟩ : S85) [.int .i32 (wrap32 (wrap64 ((wrap64 (65536 * x2_1)) + 65534))), .int .i32 (wrap32 ((wrap32 (wrap64 ((wrap64 (65536 * x2_1)) + 65534))) + 1)), .int .i64 7] (fun _ => True) (fun _ => False) rfl rfl ?aP (fun _ hk => hk.elim) ?aF ?aO ?aB ?aS ?aL ?_; (case aP => exact k85_mkM _ _ _ (⟨wrap32 (wrap64 ((wrap64 (65536 * x2_1)) + 65534)), wrap32 ((wrap32 (wrap64 ((wrap64 (65536 * x2_1)) + 65534))) + 1), 7⟩ : S85)); (case aB => exact zB); (case aF => exact (fun _ _ => trivial)); (case aO => exact (zR HO_1)); (case aS => exact (below_size zB)); (case aL => have := LMc2.out; omega); intro v296 w3 ho hb hg hat; rw [← Ny295.out] at ho; have n_ := zI (aM (hb)) (aM (ho)); clear HB HO_1; obtain ⟨HB, HO297⟩ := n_; clear ho hb hg hat))
     go_roundg k1
     case measure => have := HK1.out; omega
     case rel => exact ⟨(y295), (wrap64 (x2_1 + 1)), zP, H', ⟨by have := HK1.out; omega⟩, ⟨zR HO297⟩, ⟨zB⟩⟩
    ·rw [if_neg c2] at H
     exact absurd H (by simp)
   ·rw [if_neg c1] at H
    have c1b0 : decide (x2_1 ≤ 16) = false := decide_eq_false c1
    clear c1
    obtain rfl := sI H
    go_wp2
    go_ret
    exact ⟨_, zE, zR HO_1, zB⟩

/-! ### toponymref03_Rows: function 73 -/
def toponymref03_Rows.f (k : Nat)  : Option ((List (S85))) := (toponymref03_lower.f).bind fun t298 => ((toponymref03_upper.f).bind fun t301 => (if t298.length + t301.length < 8796093022208 then ((some (t298 ++ t301 : List (S85))).bind fun y304 => ((toponymref03_planes.f k).bind fun t307 => (if y304.length + t307.length < 8796093022208 then (some (y304 ++ t307)) else (none)))) else (none)))
theorem toponymref03_Rows.mono : ∀ k, LeO (toponymref03_Rows.f k ) (toponymref03_Rows.f (k + 1) ) := by
 intro  k
 unfold toponymref03_Rows.f
 repeat' first
   | (with_reducible exact toponymref03_planes.mono _)
   | (with_reducible exact LeO.refl _)
   | exact toponymref03_planes.mono _
   | exact LeO.none _
   | refine LeO.ite ?_ ?_
   | refine LeO.bind ?_ (fun _ => ?_)
set_option maxHeartbeats 8000000 in
set_option maxRecDepth 100000 in
theorem toponymref03_Rows.calls (k : Nat)  (r : List (S85)) (w : World) (h : toponymref03_Rows.f k  = some r) :
  Calls Try.prog 73 #[] w fun e w' => ∃ v0_ : Value, e = .returned (v0_) ∧ Kd.R k85 85 w' w.heap.size (fun _ => True) v0_ r ∧ Below w.heap.size w w' := by
 have HB := aM (Below.refl w.heap.size w)
 have H : ((toponymref03_lower.f).bind fun t298 => ((toponymref03_upper.f).bind fun t301 => (if t298.length + t301.length < 8796093022208 then ((some (t298 ++ t301 : List (S85))).bind fun y304 => ((toponymref03_planes.f k).bind fun t307 => (if y304.length + t307.length < 8796093022208 then (some (y304 ++ t307)) else (none)))) else (none)))) = some r := h
 clear h
 obtain ⟨t298, A1, H⟩ := zO H
 obtain ⟨t301, A2, H⟩ := zO H
 by_cases c3 : t298.length + t301.length < 8796093022208
 ·rw [if_pos c3] at H
  have LMc3 := aM c3
  clear c3
  obtain ⟨y304, hy304⟩ : ∃ y_ : List (S85), y_ = (t298 ++ t301) := ⟨_, rfl⟩
  replace H : ((toponymref03_planes.f k).bind fun t307 => (if y304.length + t307.length < 8796093022208 then (some (y304 ++ t307)) else (none))) = some r := zY hy304 H
  have Ny304 := aM hy304
  clear hy304
  obtain ⟨t307, A4, H⟩ := zO H
  by_cases c5 : y304.length + t307.length < 8796093022208
  ·rw [if_pos c5] at H
   have LMc5 := aM c5
   clear c5
   obtain ⟨y310, hy310⟩ : ∃ y_ : List (S85), y_ = (y304 ++ t307) := ⟨_, rfl⟩
   replace H : (some y310) = some r := zY hy310 H
   have Ny310 := aM hy310
   clear hy310
   obtain rfl := sI H
   go_enter Try.func73, Try.ntmps73
   go_wp2_with (first | ((with_reducible refine gate_callee (f := 82) rfl ?_); refine goesL_ (some 1) rfl rfl Try.func82 zK rfl #[] rfl zM ?_; (with_reducible refine (toponymref03_lower.calls  t298 _ A1.out).mono ?_); rintro e w6 ⟨v299, rfl, ho0, hb⟩; refine ⟨_, rfl, ?_⟩; have n_ := zI (aM (Kd.R_lower ho0 (below_size zB))) (aM (below_step zB hb)); clear HB; obtain ⟨HO300, HB⟩ := n_; (try clear hb); (try clear hk); (try clear ho0)) | ((with_reducible refine gate_callee (f := 83) rfl ?_); refine goesL_ (some 2) rfl rfl Try.func83 zK rfl #[] rfl zM ?_; (with_reducible refine (toponymref03_upper.calls  t301 _ A2.out).mono ?_); rintro e w7 ⟨v302, rfl, ho0, hb⟩; refine ⟨_, rfl, ?_⟩; have n_ := zI (aM (Kd.R_elder' (zR HO300) (Kd.R_base ho0) hb)) (zI (aM (Kd.R_lower (Kd.R_new' ho0 (Kd.R_lt (zR HO300))) (below_size zB))) (aM (below_step zB hb))); clear HO300 HB; obtain ⟨HO300, HO303, HB⟩ := n_; (try clear hb); (try clear hk); (try clear ho0); obtain ⟨Ao9, co9, rfl⟩ := Kd.R_slice HO303.out) | ((with_reducible refine gate_builtin (b := .append) (xs := #[.tmp 1, .tmp 2]) rfl ?_); at_builtin; refine Kd.R_append_rows k85 (w0 := w) w.heap.size rfl (.tmp 1) (.tmp 2) 82 85 (.agg #[(.int .i32 0), (.int .i32 0), (.int .i64 0)]) 16 rfl Try.underlying82 info85 rfl (by decide) (by omega) v299 t298 t301 _ _ _ (fun k_ => some k_ ≠ (.slice Ao9 t301.length co9 : Value).ownBlock) (fun _ => False) rfl rfl ?aO ?aR (fun _ _ h => h) (fun _ h => h.elim) ?aF ?aB ?aS ?aL ?_; (case aR => repeat (first | exact (Kd.R_reads' HO303.out).2.2 | (with_reducible refine Kd.C_alloc ?_ _) | (with_reducible refine Kd.C_drewN ?_ _) | (with_reducible refine Kd.C_drew ?_))); (case aB => exact zB); (case aF => exact (fun k_ hk => Kd.fresh' (Kd.R_lt (zR HO303)) k_ hk)); (case aO => exact (by (with_reducible repeat (first | apply Kd.R_alloc | apply Kd.R_drewN | apply Kd.R_drew)); exact Kd.R_mono HO300.out (fun _ hk => hk.2))); (case aS => exact (below_size zB)); (case aL => have := LMc3.out; omega); intro v305 w8 ho hb hg hat; rw [← Ny304.out] at ho; have n_ := zI (aM (Kd.R_after (ok := (fun _ => True)) (zR HO303) hg hat)) (zI (aM (hb)) (aM (ho))); clear HO303 HB HO300; obtain ⟨HO303, HB, HO306⟩ := n_; clear ho hb hg hat) | ((with_reducible refine gate_callee (f := 84) rfl ?_); refine goesL_ (some 4) rfl rfl Try.func84 zK rfl #[] rfl zM ?_; (with_reducible refine (toponymref03_planes.calls k  t307 _ A4.out).mono ?_); rintro e w10 ⟨v308, rfl, ho0, hb⟩; refine ⟨_, rfl, ?_⟩; have n_ := zI (aM (Kd.R_elder' (zR HO303) (Kd.R_base ho0) hb)) (zI (aM (Kd.R_elder' (zR HO306) (Kd.R_base ho0) hb)) (zI (aM (Kd.R_lower (Kd.R_new' (Kd.R_new' ho0 (Kd.R_lt (zR HO303))) (Kd.R_lt (zR HO306))) (below_size zB))) (aM (below_step zB hb)))); clear HO303 HO306 HB; obtain ⟨HO303, HO306, HO309, HB⟩ := n_; (try clear hb); (try clear hk); (try clear ho0); obtain ⟨Ao12, co12, rfl⟩ := Kd.R_slice HO309.out) | ((with_reducible refine gate_builtin (b := .append) (xs := #[.tmp 3, .tmp 4]) rfl ?_); at_builtin; refine Kd.R_append_rows k85 (w0 := w) w.heap.size rfl (.tmp 3) (.tmp 4) 82 85 (.agg #[(.int .i32 0), (.int .i32 0), (.int .i64 0)]) 16 rfl Try.underlying82 info85 rfl (by decide) (by omega) v305 y304 t307 _ _ _ (fun k_ => some k_ ≠ (.slice Ao9 t301.length co9 : Value).ownBlock ∧ some k_ ≠ (.slice Ao12 t307.length co12 : Value).ownBlock) (fun _ => False) rfl rfl ?aO ?aR (fun _ _ h => h) (fun _ h => h.elim) ?aF ?aB ?aS ?aL ?_; (case aR => repeat (first | exact (Kd.R_reads' HO309.out).2.2 | (with_reducible refine Kd.C_alloc ?_ _) | (with_reducible refine Kd.C_drewN ?_ _) | (with_reducible refine Kd.C_drew ?_))); (case aB => exact zB); (case aF => exact (fun k_ hk => ⟨Kd.fresh' (Kd.R_lt (zR HO303)) k_ hk, Kd.fresh' (Kd.R_lt (zR HO309)) k_ hk⟩)); (case aO => exact (zR HO306)); (case aS => exact (below_size zB)); (case aL => have := LMc5.out; omega); intro v311 w11 ho hb hg hat; rw [← Ny310.out] at ho; have n_ := zI (aM (Kd.R_after (ok := (fun k_ => some k_ ≠ (.slice Ao12 t307.length co12 : Value).ownBlock)) (by (with_reducible repeat (first | apply Kd.R_alloc | apply Kd.R_drewN | apply Kd.R_drew)); exact Kd.R_mono HO303.out (fun _ hk => ⟨hk.2, hk.1.2⟩)) hg hat)) (zI (aM (Kd.R_after (ok := (fun k_ => some k_ ≠ (.slice Ao9 t301.length co9 : Value).ownBlock)) (by (with_reducible repeat (first | apply Kd.R_alloc | apply Kd.R_drewN | apply Kd.R_drew)); exact Kd.R_mono HO309.out (fun _ hk => ⟨hk.1.2, hk.2⟩)) hg hat)) (zI (aM (hb)) (aM (ho)))); clear HO303 HO309 HB HO306; obtain ⟨HO303, HO309, HB, HO312⟩ := n_; clear ho hb hg hat))
   go_ret
   exact ⟨_, zE, by (with_reducible repeat (first | apply Kd.R_alloc | apply Kd.R_drewN | apply Kd.R_drew)); exact Kd.R_mono HO312.out (fun _ hk => trivial), zB⟩
  ·rw [if_neg c5] at H
   exact absurd H (by simp)
 ·rw [if_neg c3] at H
  exact absurd H (by simp)

/-! ### toponymref03_Kind: function 54 -/
mutual
def toponymref03_Kind.j0 : Nat → Int → Bool → Option (Int)
 | 0, _, _ => none
 | k + 1, x0, x10 => if x10 = true then ((toponymref03_ascii.f k x0).bind fun t313 => (some t313)) else ((toponymref03_Rows.f k).bind fun t314 => (toponymref03_Kind.l0 k x0 t314 0))
def toponymref03_Kind.l0 : Nat → Int → List (S85) → Int → Option (Int)
 | 0, _, _, _ => none
 | k + 1, x0, x3, x4 => if x4 < (x3.length : Int) then (if 0 ≤ x4 then (if x0 ≥ ((rd_T85 x3 x4).f0) then (if x0 ≤ ((rd_T85 x3 x4).f1) then (some ((rd_T85 x3 x4).f2)) else (toponymref03_Kind.l0 k x0 x3 (wrap64 (x4 + 1)))) else (toponymref03_Kind.l0 k x0 x3 (wrap64 (x4 + 1)))) else (none)) else (some 0)
end
def toponymref03_Kind.f (k : Nat) (a0 : Int) : Option (Int) := if a0 ≥ 0 then (toponymref03_Kind.j0 k a0 (decide (a0 < 128))) else (toponymref03_Kind.j0 k a0 false)
theorem toponymref03_Kind.mono_l : ∀ k, (∀ y0 y1, LeO (toponymref03_Kind.j0 k y0 y1) (toponymref03_Kind.j0 (k + 1) y0 y1)) ∧ (∀ y0 y1 y2, LeO (toponymref03_Kind.l0 k y0 y1 y2) (toponymref03_Kind.l0 (k + 1) y0 y1 y2))
 | 0 => ⟨fun _ _ r h => by simp [toponymref03_Kind.j0] at h, fun _ _ _ r h => by simp [toponymref03_Kind.l0] at h⟩
 | k + 1 => by
  obtain ⟨ih0, ih1⟩ := toponymref03_Kind.mono_l k
  refine ⟨?_, ?_⟩
  ·intro y0 y1
   unfold toponymref03_Kind.j0
   repeat' first
   | (with_reducible exact ih0 _ _)
   | (with_reducible exact ih1 _ _ _)
   | (with_reducible exact toponymref03_Rows.mono _)
   | (with_reducible exact toponymref03_ascii.mono _ _)
   | (with_reducible exact LeO.refl _)
   | exact ih0 _ _
   | exact ih1 _ _ _
   | exact toponymref03_Rows.mono _
   | exact toponymref03_ascii.mono _ _
   | exact LeO.none _
   | refine LeO.ite ?_ ?_
   | refine LeO.bind ?_ (fun _ => ?_)
  ·intro y0 y1 y2
   unfold toponymref03_Kind.l0
   repeat' first
   | (with_reducible exact ih0 _ _)
   | (with_reducible exact ih1 _ _ _)
   | (with_reducible exact toponymref03_Rows.mono _)
   | (with_reducible exact toponymref03_ascii.mono _ _)
   | (with_reducible exact LeO.refl _)
   | exact ih0 _ _
   | exact ih1 _ _ _
   | exact toponymref03_Rows.mono _
   | exact toponymref03_ascii.mono _ _
   | exact LeO.none _
   | refine LeO.ite ?_ ?_
   | refine LeO.bind ?_ (fun _ => ?_)
theorem toponymref03_Kind.mono : ∀ a0 k, LeO (toponymref03_Kind.f k a0) (toponymref03_Kind.f (k + 1) a0) := by
 intro a0 k
 obtain ⟨ih0, ih1⟩ := toponymref03_Kind.mono_l k
 unfold toponymref03_Kind.f
 repeat' first
   | (with_reducible exact ih0 _ _)
   | (with_reducible exact ih1 _ _ _)
   | (with_reducible exact toponymref03_Rows.mono _)
   | (with_reducible exact toponymref03_ascii.mono _ _)
   | (with_reducible exact LeO.refl _)
   | exact ih0 _ _
   | exact ih1 _ _ _
   | exact toponymref03_Rows.mono _
   | exact toponymref03_ascii.mono _ _
   | exact LeO.none _
   | refine LeO.ite ?_ ?_
   | refine LeO.bind ?_ (fun _ => ?_)
set_option maxHeartbeats 8000000 in
set_option maxRecDepth 100000 in
theorem toponymref03_Kind.calls (k : Nat) (a0 : Int) (r : Int) (w : World) (h : toponymref03_Kind.f k a0 = some r) :
  Calls Try.prog 54 #[.int .i32 a0] w fun e w' => e = .returned (.int .i64 r) ∧ Below w.heap.size w w' := by
 have HB := aM (Below.refl w.heap.size w)
 have H : (if a0 ≥ 0 then (toponymref03_Kind.j0 k a0 (decide (a0 < 128))) else (toponymref03_Kind.j0 k a0 false)) = some r := h
 clear h
 have HC2 := aM H
 clear H
 go_enter Try.func54, Try.ntmps54
 go_upto_region 1 with (fail)
 go_cut [10] (fun v10 wc => ∃ (kq : Nat) (x10_1 : Bool), v10 = .bool x10_1 ∧ Aside0 (toponymref03_Kind.j0 kq a0 x10_1 = some r) ∧ Aside0 (kq ≤ k) ∧ Aside0 (Below w.heap.size w wc))
 case first =>
  have H := HC2.out
  clear HC2
  by_cases c3 : a0 ≥ 0
  ·rw [if_pos c3] at H
   have c3b0 : decide (0 ≤ a0) = true := decide_eq_true c3
   clear c3
   (first | rw [c3b0] | (simp only [i64_w, i32_w]; rw [c3b0]) | skip)
   have H' := aM H
   clear H
   go_wp2
   go_meet
   case rel => exact ⟨_, (decide (a0 < 128)), zP, H', ⟨by first | omega | exact Nat.le_refl _⟩, ⟨zB⟩⟩
  ·rw [if_neg c3] at H
   have c3b0 : decide (0 ≤ a0) = false := decide_eq_false c3
   clear c3
   (first | rw [c3b0] | (simp only [i64_w, i32_w]; rw [c3b0]) | skip)
   have H' := aM H
   clear H
   go_wp2
   go_meet
   case rel => exact ⟨_, (false), zP, H', ⟨by first | omega | exact Nat.le_refl _⟩, ⟨zB⟩⟩
 case rest =>
  clear HC2
  try clear p2
  try clear c3
  try clear c3b0
  obtain ⟨kq, x10_1, rfl, HA, HJ1, HB⟩ := hcut
  cases kq with
  | zero => exact absurd HA.out (by simp [toponymref03_Kind.j0])
  | succ kj1 =>
   have H := HA.out
   clear HA
   simp only [toponymref03_Kind.j0] at H
   by_cases c4 : x10_1 = true
   ·subst c4
    rw [if_pos rfl] at H
    obtain ⟨t313, A5, H⟩ := zO H
    obtain rfl := sI H
    go_wp2_with (first | ((with_reducible refine gate_callee (f := 72) rfl ?_); refine goesL_ (some 12) rfl rfl Try.func72 zK rfl #[.int .i32 a0] rfl zM ?_; (with_reducible refine (toponymref03_ascii.calls kj1 a0 t313 _ A5.out).mono ?_); rintro e w' ⟨rfl, ⟨nd, rfl⟩⟩; refine ⟨_, rfl, ?_⟩))
    go_ret
    exact ⟨zE, zB⟩
   ·replace c4 := Bool.eq_false_iff.mpr c4
    subst c4
    rw [if_neg (show ¬ (false = true) by decide)] at H
    obtain ⟨t314, A6, H⟩ := zO H
    have H' := aM H
    clear H
    go_wp2_with (first | ((with_reducible refine gate_callee (f := 73) rfl ?_); refine goesL_ (some 13) rfl rfl Try.func73 zK rfl #[] rfl zM ?_; (with_reducible refine (toponymref03_Rows.calls kj1  t314 _ A6.out).mono ?_); rintro e w7 ⟨v315, rfl, ho0, hb⟩; refine ⟨_, rfl, ?_⟩; have n_ := zI (aM (Kd.R_lower ho0 (below_size zB))) (aM (below_step zB hb)); clear HB; obtain ⟨HO316, HB⟩ := n_; (try clear hb); (try clear ho0)))
    go_loopg [4] kj1 (fun kq v4 w' => ∃ (x4_2 : Int), v4 = .int .i64 x4_2 ∧ Aside0 (toponymref03_Kind.l0 kq a0 t314 x4_2 = some r) ∧ Aside0 (kq ≤ kj1) ∧ Aside0 (Kd.R k85 85 w' w.heap.size (fun _ => True) v315 t314) ∧ Aside0 (Below w.heap.size w w'))
    case atStart => exact ⟨(0), zP, H', ⟨Nat.le_refl _⟩, ⟨zR HO316⟩, ⟨zB⟩⟩
    case round =>
     clear H'
     try clear p2
     try clear c3
     try clear c3b0
     try clear c4
     try clear c5
     try clear c7
     try clear p2
     obtain ⟨x4_2, rfl, HA, HK2, HO_3, HB⟩ := hrel
     cases gk with
     | zero => exact absurd HA.out (by simp [toponymref03_Kind.l0])
     | succ k2 =>
      have H := HA.out
      clear HA
      simp only [toponymref03_Kind.l0] at H
      by_cases c8 : x4_2 < (t314.length : Int)
      ·rw [if_pos c8] at H
       have c8b0 : decide (x4_2 < (t314.length : Int)) = true := decide_eq_true c8
       clear c8
       by_cases c9 : 0 ≤ x4_2
       ·rw [if_pos c9] at H
        have c9b0 : decide (0 ≤ x4_2) = true := decide_eq_true c9
        clear c9
        by_cases c10 : a0 ≥ ((rd_T85 t314 x4_2).f0)
        ·rw [if_pos c10] at H
         have c10b0 : decide (((rd_T85 t314 x4_2).f0) ≤ a0) = true := decide_eq_true c10
         clear c10
         by_cases c11 : a0 ≤ ((rd_T85 t314 x4_2).f1)
         ·rw [if_pos c11] at H
          have c11b0 : decide (a0 ≤ ((rd_T85 t314 x4_2).f1)) = true := decide_eq_true c11
          clear c11
          obtain rfl := sI H
          obtain ⟨Ao12, co12, eo12⟩ := Kd.R_slice HO_3.out
          subst eo12
          have p317 : 0 ≤ (x4_2 : Int) := zoA
          have q317 : x4_2 < (t314.length : Int) := zoA
          obtain ⟨ad317, e317, hx317_0, hx317_1, hx317_2⟩ := at_T85 (Kd.R_reads' HO_3.out).2.2 x4_2 p317 q317
          cases e317
          replace p317 := eq_true p317
          replace q317 := eq_true q317
          have p318 : 0 ≤ (x4_2 : Int) := zoA
          have q318 : x4_2 < (t314.length : Int) := zoA
          obtain ⟨ad318, e318, hx318_0, hx318_1, hx318_2⟩ := at_T85 (Kd.R_reads' HO_3.out).2.2 x4_2 p318 q318
          obtain rfl : ad317 = ad318 := (by injection e318)
          replace p318 := eq_true p318
          replace q318 := eq_true q318
          have p319 : 0 ≤ (x4_2 : Int) := zoA
          have q319 : x4_2 < (t314.length : Int) := zoA
          obtain ⟨ad319, e319, hx319_0, hx319_1, hx319_2⟩ := at_T85 (Kd.R_reads' HO_3.out).2.2 x4_2 p319 q319
          obtain rfl : ad317 = ad319 := (by injection e319)
          replace p319 := eq_true p319
          replace q319 := eq_true q319
          go_wp2
          go_ret
          exact ⟨zE, zB⟩
         ·rw [if_neg c11] at H
          have c11b0 : decide (a0 ≤ ((rd_T85 t314 x4_2).f1)) = false := decide_eq_false c11
          clear c11
          have H' := aM H
          clear H
          obtain ⟨Ao13, co13, eo13⟩ := Kd.R_slice HO_3.out
          subst eo13
          have p317 : 0 ≤ (x4_2 : Int) := zoA
          have q317 : x4_2 < (t314.length : Int) := zoA
          obtain ⟨ad317, e317, hx317_0, hx317_1, hx317_2⟩ := at_T85 (Kd.R_reads' HO_3.out).2.2 x4_2 p317 q317
          cases e317
          replace p317 := eq_true p317
          replace q317 := eq_true q317
          have p318 : 0 ≤ (x4_2 : Int) := zoA
          have q318 : x4_2 < (t314.length : Int) := zoA
          obtain ⟨ad318, e318, hx318_0, hx318_1, hx318_2⟩ := at_T85 (Kd.R_reads' HO_3.out).2.2 x4_2 p318 q318
          obtain rfl : ad317 = ad318 := (by injection e318)
          replace p318 := eq_true p318
          replace q318 := eq_true q318
          go_wp2
          go_roundg k2
          case measure => have := HJ1.out; have := HK2.out; omega
          case rel => exact ⟨(wrap64 (x4_2 + 1)), zP, H', ⟨by have := HJ1.out; have := HK2.out; omega⟩, ⟨zR HO_3⟩, ⟨zB⟩⟩
        ·rw [if_neg c10] at H
         have c10b0 : decide (((rd_T85 t314 x4_2).f0) ≤ a0) = false := decide_eq_false c10
         clear c10
         have H' := aM H
         clear H
         obtain ⟨Ao14, co14, eo14⟩ := Kd.R_slice HO_3.out
         subst eo14
         have p317 : 0 ≤ (x4_2 : Int) := zoA
         have q317 : x4_2 < (t314.length : Int) := zoA
         obtain ⟨ad317, e317, hx317_0, hx317_1, hx317_2⟩ := at_T85 (Kd.R_reads' HO_3.out).2.2 x4_2 p317 q317
         cases e317
         replace p317 := eq_true p317
         replace q317 := eq_true q317
         go_wp2
         go_roundg k2
         case measure => have := HJ1.out; have := HK2.out; omega
         case rel => exact ⟨(wrap64 (x4_2 + 1)), zP, H', ⟨by have := HJ1.out; have := HK2.out; omega⟩, ⟨zR HO_3⟩, ⟨zB⟩⟩
       ·rw [if_neg c9] at H
        exact absurd H (by simp)
      ·rw [if_neg c8] at H
       have c8b0 : decide (x4_2 < (t314.length : Int)) = false := decide_eq_false c8
       clear c8
       obtain rfl := sI H
       obtain ⟨Ao15, co15, eo15⟩ := Kd.R_slice HO_3.out
       subst eo15
       go_wp2
       go_ret
       exact ⟨zE, zB⟩

/-! ### toponymref03_Class: function 34 -/
def toponymref03_Class.j0 : Nat → Int → Bool → Option (Int)
 | 0, _, _ => none
 | k + 1, x6, x7 => if x7 = true then (some 202) else (if x6 = 803 then (some 220) else (if x6 = 12441 then (some 8) else (if x6 = 12442 then (some 8) else (some 230))))
def toponymref03_Class.f (k : Nat) (a0 : Int) : Option (Int) := (toponymref03_Kind.f k a0).bind fun t320 => (if t320 = 3 then (if a0 = 807 then (toponymref03_Class.j0 k a0 (a0 == 807)) else (toponymref03_Class.j0 k a0 (a0 == 808))) else (some 0))
theorem toponymref03_Class.mono_l : ∀ k, (∀ y0 y1, LeO (toponymref03_Class.j0 k y0 y1) (toponymref03_Class.j0 (k + 1) y0 y1))
 | 0 => fun _ _ r h => by simp [toponymref03_Class.j0] at h
 | k + 1 => by
  have ih0 := toponymref03_Class.mono_l k
  ·intro y0 y1
   unfold toponymref03_Class.j0
   repeat' first
   | (with_reducible exact ih0 _ _)
   | (with_reducible exact toponymref03_Kind.mono _ _)
   | (with_reducible exact LeO.refl _)
   | exact ih0 _ _
   | exact toponymref03_Kind.mono _ _
   | exact LeO.none _
   | refine LeO.ite ?_ ?_
   | refine LeO.bind ?_ (fun _ => ?_)
theorem toponymref03_Class.mono : ∀ a0 k, LeO (toponymref03_Class.f k a0) (toponymref03_Class.f (k + 1) a0) := by
 intro a0 k
 have ih0 := toponymref03_Class.mono_l k
 unfold toponymref03_Class.f
 repeat' first
   | (with_reducible exact ih0 _ _)
   | (with_reducible exact toponymref03_Kind.mono _ _)
   | (with_reducible exact LeO.refl _)
   | exact ih0 _ _
   | exact toponymref03_Kind.mono _ _
   | exact LeO.none _
   | refine LeO.ite ?_ ?_
   | refine LeO.bind ?_ (fun _ => ?_)
set_option maxHeartbeats 8000000 in
set_option maxRecDepth 100000 in
theorem toponymref03_Class.calls (k : Nat) (a0 : Int) (r : Int) (w : World) (h : toponymref03_Class.f k a0 = some r) :
  Calls Try.prog 34 #[.int .i32 a0] w fun e w' => e = .returned (.int .i64 r) ∧ Below w.heap.size w w' := by
 have HB := aM (Below.refl w.heap.size w)
 have H : ((toponymref03_Kind.f k a0).bind fun t320 => (if t320 = 3 then (if a0 = 807 then (toponymref03_Class.j0 k a0 (a0 == 807)) else (toponymref03_Class.j0 k a0 (a0 == 808))) else (some 0))) = some r := h
 clear h
 obtain ⟨t320, A2, H⟩ := zO H
 by_cases c3 : t320 = 3
 ·rw [if_pos c3] at H
  have c3b0 : (t320 == 3) = true := beq_iff_eq.mpr c3
  have c3b1 : (t320 != 3) = false := bne_eq_false_iff_eq.mpr c3
  clear c3
  have HC4 := aM H
  clear H
  go_enter Try.func34, Try.ntmps34
  go_upto_if 7 with (first | ((with_reducible refine gate_callee (f := 54) rfl ?_); refine goesL_ (some 4) rfl rfl Try.func54 zK rfl #[.int .i32 a0] rfl zM ?_; (with_reducible refine (toponymref03_Kind.calls k a0 t320 _ A2.out).mono ?_); rintro e w5 ⟨rfl, hb⟩; refine ⟨_, rfl, ?_⟩; replace HB := aM (below_step zB hb); (try clear hb)))
  (try simp only [Act.put, List.setIfInBounds_toArray, List.set_cons_zero, List.set_cons_succ])
  go_cut [7] (fun v7 wc => ∃ (kq : Nat) (x7_3 : Bool), v7 = .bool x7_3 ∧ Aside0 (toponymref03_Class.j0 kq a0 x7_3 = some r) ∧ Aside0 (kq ≤ k) ∧ Aside0 (Below w.heap.size w wc))
  case first =>
   have H := HC4.out
   clear HC4
   by_cases c6 : a0 = 807
   ·rw [if_pos c6] at H
    have c6b0 : (a0 == 807) = true := beq_iff_eq.mpr c6
    have c6b1 : (a0 != 807) = false := bne_eq_false_iff_eq.mpr c6
    clear c6
    (first | rw [c6b0] | (simp only [i64_w, i32_w]; rw [c6b0]) | skip)
    have H' := aM H
    clear H
    go_wp2
    go_meet
    case rel => exact ⟨_, ((a0 == 807)), zP, H', ⟨by first | omega | exact Nat.le_refl _⟩, ⟨zB⟩⟩
   ·rw [if_neg c6] at H
    have c6b0 : (a0 == 807) = false := beq_eq_false_iff_ne.mpr c6
    have c6b1 : (a0 != 807) = true := bne_iff_ne.mpr c6
    (first | rw [c6b0] | (simp only [i64_w, i32_w]; rw [c6b0]) | skip)
    have H' := aM H
    clear H
    go_wp2
    go_meet
    case rel => exact ⟨_, ((a0 == 808)), zP, H', ⟨by first | omega | exact Nat.le_refl _⟩, ⟨zB⟩⟩
  case rest =>
   clear HC4
   try clear p2
   try clear c3
   try clear c3b0
   try clear c3b1
   try clear c5
   try clear c6
   try clear c6b0
   try clear c6b1
   obtain ⟨kq, x7_3, rfl, HA, HJ3, HB⟩ := hcut
   cases kq with
   | zero => exact absurd HA.out (by simp [toponymref03_Class.j0])
   | succ kj3 =>
    have H := HA.out
    clear HA
    simp only [toponymref03_Class.j0] at H
    by_cases c7 : x7_3 = true
    ·subst c7
     rw [if_pos rfl] at H
     obtain rfl := sI H
     go_wp2
     go_ret
     exact ⟨zE, zB⟩
    ·replace c7 := Bool.eq_false_iff.mpr c7
     subst c7
     rw [if_neg (show ¬ (false = true) by decide)] at H
     by_cases c8 : a0 = 803
     ·rw [if_pos c8] at H
      have c8b0 : (a0 == 803) = true := beq_iff_eq.mpr c8
      have c8b1 : (a0 != 803) = false := bne_eq_false_iff_eq.mpr c8
      clear c8
      obtain rfl := sI H
      go_wp2
      go_ret
      exact ⟨zE, zB⟩
     ·rw [if_neg c8] at H
      have c8b0 : (a0 == 803) = false := beq_eq_false_iff_ne.mpr c8
      have c8b1 : (a0 != 803) = true := bne_iff_ne.mpr c8
      by_cases c9 : a0 = 12441
      ·rw [if_pos c9] at H
       have c9b0 : (a0 == 12441) = true := beq_iff_eq.mpr c9
       have c9b1 : (a0 != 12441) = false := bne_eq_false_iff_eq.mpr c9
       clear c9
       obtain rfl := sI H
       go_wp2
       go_ret
       exact ⟨zE, zB⟩
      ·rw [if_neg c9] at H
       have c9b0 : (a0 == 12441) = false := beq_eq_false_iff_ne.mpr c9
       have c9b1 : (a0 != 12441) = true := bne_iff_ne.mpr c9
       by_cases c10 : a0 = 12442
       ·rw [if_pos c10] at H
        have c10b0 : (a0 == 12442) = true := beq_iff_eq.mpr c10
        have c10b1 : (a0 != 12442) = false := bne_eq_false_iff_eq.mpr c10
        clear c10
        obtain rfl := sI H
        go_wp2
        go_ret
        exact ⟨zE, zB⟩
       ·rw [if_neg c10] at H
        have c10b0 : (a0 == 12442) = false := beq_eq_false_iff_ne.mpr c10
        have c10b1 : (a0 != 12442) = true := bne_iff_ne.mpr c10
        obtain rfl := sI H
        go_wp2
        go_ret
        exact ⟨zE, zB⟩
 ·rw [if_neg c3] at H
  have c3b0 : (t320 == 3) = false := beq_eq_false_iff_ne.mpr c3
  have c3b1 : (t320 != 3) = true := bne_iff_ne.mpr c3
  obtain rfl := sI H
  go_enter Try.func34, Try.ntmps34
  go_wp2_with (first | ((with_reducible refine gate_callee (f := 54) rfl ?_); refine goesL_ (some 4) rfl rfl Try.func54 zK rfl #[.int .i32 a0] rfl zM ?_; (with_reducible refine (toponymref03_Kind.calls k a0 t320 _ A2.out).mono ?_); rintro e w11 ⟨rfl, hb⟩; refine ⟨_, rfl, ?_⟩; replace HB := aM (below_step zB hb); (try clear hb)))
  go_ret
  exact ⟨zE, zB⟩

/-! ### toponymref07_free: function 35 -/
def toponymref07_free.l0 : Nat → List Int → Int → Int → Option (Bool)
 | 0, _, _, _ => none
 | k + 1, x0, x1, x5 => if x5 < (x0.length : Int) then (if 0 ≤ x5 then ((toponymref03_Class.f k (rd x0 x5)).bind fun t322 => ((toponymref03_Class.f k x1).bind fun t323 => (if t322 ≥ t323 then (some false) else (toponymref07_free.l0 k x0 x1 (wrap64 (x5 + 1)))))) else (none)) else (some true)
def toponymref07_free.f (k : Nat) (l0 : List Int) (a1 : Int) : Option (Bool) := toponymref07_free.l0 k l0 a1 0
theorem toponymref07_free.mono_l : ∀ k, (∀ y0 y1 y2, LeO (toponymref07_free.l0 k y0 y1 y2) (toponymref07_free.l0 (k + 1) y0 y1 y2))
 | 0 => fun _ _ _ r h => by simp [toponymref07_free.l0] at h
 | k + 1 => by
  have ih0 := toponymref07_free.mono_l k
  ·intro y0 y1 y2
   unfold toponymref07_free.l0
   repeat' first
   | (with_reducible exact ih0 _ _ _)
   | (with_reducible exact toponymref03_Class.mono _ _)
   | (with_reducible exact LeO.refl _)
   | exact ih0 _ _ _
   | exact toponymref03_Class.mono _ _
   | exact LeO.none _
   | refine LeO.ite ?_ ?_
   | refine LeO.bind ?_ (fun _ => ?_)
theorem toponymref07_free.mono : ∀ a0 a1 k, LeO (toponymref07_free.f k a0 a1) (toponymref07_free.f (k + 1) a0 a1) := by
 intro a0 a1 k
 have ih0 := toponymref07_free.mono_l k
 unfold toponymref07_free.f
 repeat' first
   | (with_reducible exact ih0 _ _ _)
   | (with_reducible exact toponymref03_Class.mono _ _)
   | (with_reducible exact LeO.refl _)
   | exact ih0 _ _ _
   | exact toponymref03_Class.mono _ _
   | exact LeO.none _
   | refine LeO.ite ?_ ?_
   | refine LeO.bind ?_ (fun _ => ?_)
set_option maxHeartbeats 8000000 in
set_option maxRecDepth 100000 in
theorem toponymref07_free.calls (k : Nat) (A0 : Option Addr) (c0 : Nat) (l0 : List Int) (a1 : Int) (r : Bool) (w : World) (hr0 : Kd.C (Kd.int .i32) w A0 l0.length l0) (hc0 : l0.length ≤ c0) (h : toponymref07_free.f k l0 a1 = some r) :
  Calls Try.prog 35 #[.slice A0 l0.length c0, .int .i32 a1] w fun e w' => e = .returned (.bool r) ∧ Below w.heap.size w w' := by
 have HR0 := aM hr0
 have HC0 := aM hc0
 clear hr0 hc0
 have HB := aM (Below.refl w.heap.size w)
 have H : (toponymref07_free.l0 k l0 a1 0) = some r := h
 clear h
 have H' := aM H
 clear H
 go_enter Try.func35, Try.ntmps35
 go_wp2
 go_loopg [5] k (fun kq v5 w' => ∃ (x5_1 : Int), v5 = .int .i64 x5_1 ∧ Aside0 (toponymref07_free.l0 kq l0 a1 x5_1 = some r) ∧ Aside0 (kq ≤ k) ∧ Aside0 (Below w.heap.size w w'))
 case atStart => exact ⟨(0), zP, H', ⟨Nat.le_refl _⟩, ⟨zB⟩⟩
 case round =>
  clear H'
  try clear p2
  obtain ⟨x5_1, rfl, HA, HK1, HB⟩ := hrel
  cases gk with
  | zero => exact absurd HA.out (by simp [toponymref07_free.l0])
  | succ k1 =>
   have H := HA.out
   clear HA
   simp only [toponymref07_free.l0] at H
   by_cases c3 : x5_1 < (l0.length : Int)
   ·rw [if_pos c3] at H
    have c3b0 : decide (x5_1 < (l0.length : Int)) = true := decide_eq_true c3
    clear c3
    by_cases c4 : 0 ≤ x5_1
    ·rw [if_pos c4] at H
     have c4b0 : decide (0 ≤ x5_1) = true := decide_eq_true c4
     clear c4
     obtain ⟨t322, A5, H⟩ := zO H
     obtain ⟨t323, A6, H⟩ := zO H
     by_cases c7 : t322 ≥ t323
     ·rw [if_pos c7] at H
      have c7b0 : decide (t323 ≤ t322) = true := decide_eq_true c7
      clear c7
      obtain rfl := sI H
      have p321 : 0 ≤ (x5_1 : Int) := zoA
      have q321 : x5_1 < (l0.length : Int) := zoA
      obtain ⟨ad321, e321, hx321_0⟩ := Kd.at_int HR0.out x5_1 p321 q321
      cases e321
      replace hx321_0 := (HB.out.cell (World.block_lt_of_cell? w _ hx321_0)).trans hx321_0
      replace p321 := eq_true p321
      replace q321 := eq_true q321
      go_wp2_with (first | ((with_reducible refine gate_callee (f := 34) rfl ?_); refine goesL_ (some 16) rfl rfl Try.func34 zK rfl #[.int .i32 (rd l0 x5_1)] rfl zM ?_; (with_reducible refine (toponymref03_Class.calls k1 (rd l0 x5_1) t322 _ A5.out).mono ?_); rintro e w8 ⟨rfl, hb⟩; (try clear A5); refine ⟨_, rfl, ?_⟩; replace HB := aM (below_step zB hb); (try clear hb)) | ((with_reducible refine gate_callee (f := 34) rfl ?_); refine goesL_ (some 18) rfl rfl Try.func34 zK rfl #[.int .i32 a1] rfl zM ?_; (with_reducible refine (toponymref03_Class.calls k1 a1 t323 _ A6.out).mono ?_); rintro e w9 ⟨rfl, hb⟩; (try clear A6); refine ⟨_, rfl, ?_⟩; replace HB := aM (below_step zB hb); (try clear hb)))
      go_ret
      exact ⟨zE, zB⟩
     ·rw [if_neg c7] at H
      have c7b0 : decide (t323 ≤ t322) = false := decide_eq_false c7
      clear c7
      have H' := aM H
      clear H
      have p321 : 0 ≤ (x5_1 : Int) := zoA
      have q321 : x5_1 < (l0.length : Int) := zoA
      obtain ⟨ad321, e321, hx321_0⟩ := Kd.at_int HR0.out x5_1 p321 q321
      cases e321
      replace hx321_0 := (HB.out.cell (World.block_lt_of_cell? w _ hx321_0)).trans hx321_0
      replace p321 := eq_true p321
      replace q321 := eq_true q321
      go_wp2_with (first | ((with_reducible refine gate_callee (f := 34) rfl ?_); refine goesL_ (some 16) rfl rfl Try.func34 zK rfl #[.int .i32 (rd l0 x5_1)] rfl zM ?_; (with_reducible refine (toponymref03_Class.calls k1 (rd l0 x5_1) t322 _ A5.out).mono ?_); rintro e w10 ⟨rfl, hb⟩; (try clear A5); refine ⟨_, rfl, ?_⟩; replace HB := aM (below_step zB hb); (try clear hb)) | ((with_reducible refine gate_callee (f := 34) rfl ?_); refine goesL_ (some 18) rfl rfl Try.func34 zK rfl #[.int .i32 a1] rfl zM ?_; (with_reducible refine (toponymref03_Class.calls k1 a1 t323 _ A6.out).mono ?_); rintro e w11 ⟨rfl, hb⟩; (try clear A6); refine ⟨_, rfl, ?_⟩; replace HB := aM (below_step zB hb); (try clear hb)))
      go_roundg k1
      case measure => have := HK1.out; omega
      case rel => exact ⟨(wrap64 (x5_1 + 1)), zP, H', ⟨by have := HK1.out; omega⟩, ⟨zB⟩⟩
    ·rw [if_neg c4] at H
     exact absurd H (by simp)
   ·rw [if_neg c3] at H
    have c3b0 : decide (x5_1 < (l0.length : Int)) = false := decide_eq_false c3
    clear c3
    obtain rfl := sI H
    go_wp2
    go_ret
    exact ⟨zE, zB⟩

/-! ### toponymref04_Syllable: function 57 -/
def toponymref04_Syllable.f (a0 : Int) : Option (Bool) := if a0 ≥ 44032 then (some (decide (a0 ≤ 55203))) else (some false)
set_option maxHeartbeats 8000000 in
set_option maxRecDepth 100000 in
theorem toponymref04_Syllable.calls (a0 : Int) (r : Bool) (w : World) (h : toponymref04_Syllable.f a0 = some r) :
  Calls Try.prog 57 #[.int .i32 a0] w fun e w' => e = .returned (.bool r) ∧ Drawn0 w w' := by
 have H : (if a0 ≥ 44032 then (some (decide (a0 ≤ 55203))) else (some false)) = some r := h
 clear h
 by_cases c2 : a0 ≥ 44032
 ·rw [if_pos c2] at H
  have c2b0 : decide (44032 ≤ a0) = true := decide_eq_true c2
  clear c2
  obtain rfl := sI H
  go_enter Try.func57, Try.ntmps57
  go_wp2
  go_ret
  exact ⟨zP, zD⟩
 ·rw [if_neg c2] at H
  have c2b0 : decide (44032 ≤ a0) = false := decide_eq_false c2
  clear c2
  obtain rfl := sI H
  go_enter Try.func57, Try.ntmps57
  go_wp2
  go_ret
  exact ⟨zP, zD⟩

/-! ### toponymref04_Part: function 74 -/
mutual
def toponymref04_Part.j0 : Nat → Int → Bool → Option (Int)
 | 0, _, _ => none
 | k + 1, x0, x8 => if x8 = true then (some 1) else (if x0 ≥ 4449 then (toponymref04_Part.j1 k x0 (decide (x0 ≤ 4469))) else (toponymref04_Part.j1 k x0 false))
def toponymref04_Part.j1 : Nat → Int → Bool → Option (Int)
 | 0, _, _ => none
 | k + 1, x0, x14 => if x14 = true then (some 2) else (if x0 ≥ 4520 then (toponymref04_Part.j2 k x0 (decide (x0 ≤ 4546))) else (toponymref04_Part.j2 k x0 false))
def toponymref04_Part.j2 : Nat → Int → Bool → Option (Int)
 | 0, _, _ => none
 | k + 1, x0, x20 => if x20 = true then (some 3) else ((toponymref04_Syllable.f x0).bind fun t324 => (if t324 = true then (if (Int.tmod (wrap32 (x0 - 44032)) 28) = 0 then (some 4) else (some 5)) else (some 0)))
end
def toponymref04_Part.f (k : Nat) (a0 : Int) : Option (Int) := if a0 ≥ 4352 then (toponymref04_Part.j0 k a0 (decide (a0 ≤ 4370))) else (toponymref04_Part.j0 k a0 false)
theorem toponymref04_Part.mono_l : ∀ k, (∀ y0 y1, LeO (toponymref04_Part.j0 k y0 y1) (toponymref04_Part.j0 (k + 1) y0 y1)) ∧ (∀ y0 y1, LeO (toponymref04_Part.j1 k y0 y1) (toponymref04_Part.j1 (k + 1) y0 y1)) ∧ (∀ y0 y1, LeO (toponymref04_Part.j2 k y0 y1) (toponymref04_Part.j2 (k + 1) y0 y1))
 | 0 => ⟨fun _ _ r h => by simp [toponymref04_Part.j0] at h, fun _ _ r h => by simp [toponymref04_Part.j1] at h, fun _ _ r h => by simp [toponymref04_Part.j2] at h⟩
 | k + 1 => by
  obtain ⟨ih0, ih1, ih2⟩ := toponymref04_Part.mono_l k
  refine ⟨?_, ?_, ?_⟩
  ·intro y0 y1
   unfold toponymref04_Part.j0
   repeat' first
   | (with_reducible exact ih0 _ _)
   | (with_reducible exact ih1 _ _)
   | (with_reducible exact ih2 _ _)
   | (with_reducible exact LeO.refl _)
   | exact ih0 _ _
   | exact ih1 _ _
   | exact ih2 _ _
   | exact LeO.none _
   | refine LeO.ite ?_ ?_
   | refine LeO.bind ?_ (fun _ => ?_)
  ·intro y0 y1
   unfold toponymref04_Part.j1
   repeat' first
   | (with_reducible exact ih0 _ _)
   | (with_reducible exact ih1 _ _)
   | (with_reducible exact ih2 _ _)
   | (with_reducible exact LeO.refl _)
   | exact ih0 _ _
   | exact ih1 _ _
   | exact ih2 _ _
   | exact LeO.none _
   | refine LeO.ite ?_ ?_
   | refine LeO.bind ?_ (fun _ => ?_)
  ·intro y0 y1
   unfold toponymref04_Part.j2
   repeat' first
   | (with_reducible exact ih0 _ _)
   | (with_reducible exact ih1 _ _)
   | (with_reducible exact ih2 _ _)
   | (with_reducible exact LeO.refl _)
   | exact ih0 _ _
   | exact ih1 _ _
   | exact ih2 _ _
   | exact LeO.none _
   | refine LeO.ite ?_ ?_
   | refine LeO.bind ?_ (fun _ => ?_)
theorem toponymref04_Part.mono : ∀ a0 k, LeO (toponymref04_Part.f k a0) (toponymref04_Part.f (k + 1) a0) := by
 intro a0 k
 obtain ⟨ih0, ih1, ih2⟩ := toponymref04_Part.mono_l k
 unfold toponymref04_Part.f
 repeat' first
   | (with_reducible exact ih0 _ _)
   | (with_reducible exact ih1 _ _)
   | (with_reducible exact ih2 _ _)
   | (with_reducible exact LeO.refl _)
   | exact ih0 _ _
   | exact ih1 _ _
   | exact ih2 _ _
   | exact LeO.none _
   | refine LeO.ite ?_ ?_
   | refine LeO.bind ?_ (fun _ => ?_)
set_option maxHeartbeats 8000000 in
set_option maxRecDepth 100000 in
theorem toponymref04_Part.calls (k : Nat) (a0 : Int) (r : Int) (w : World) (h : toponymref04_Part.f k a0 = some r) :
  Calls Try.prog 74 #[.int .i32 a0] w fun e w' => e = .returned (.int .i64 r) ∧ Drawn0 w w' := by
 have H : (if a0 ≥ 4352 then (toponymref04_Part.j0 k a0 (decide (a0 ≤ 4370))) else (toponymref04_Part.j0 k a0 false)) = some r := h
 clear h
 have HC2 := aM H
 clear H
 go_enter Try.func74, Try.ntmps74
 go_upto_region 1 with (fail)
 go_cut [8] (fun v8 wc => ∃ (kq : Nat) (x8_1 : Bool), v8 = .bool x8_1 ∧ Aside0 (toponymref04_Part.j0 kq a0 x8_1 = some r) ∧ Aside0 (kq ≤ k) ∧ Drawn0 w wc)
 case first =>
  have H := HC2.out
  clear HC2
  by_cases c3 : a0 ≥ 4352
  ·rw [if_pos c3] at H
   have c3b0 : decide (4352 ≤ a0) = true := decide_eq_true c3
   clear c3
   (first | rw [c3b0] | (simp only [i64_w, i32_w]; rw [c3b0]) | skip)
   have H' := aM H
   clear H
   go_wp2
   go_meet
   case rel => exact ⟨_, (decide (a0 ≤ 4370)), zP, H', ⟨by first | omega | exact Nat.le_refl _⟩, zD⟩
  ·rw [if_neg c3] at H
   have c3b0 : decide (4352 ≤ a0) = false := decide_eq_false c3
   clear c3
   (first | rw [c3b0] | (simp only [i64_w, i32_w]; rw [c3b0]) | skip)
   have H' := aM H
   clear H
   go_wp2
   go_meet
   case rel => exact ⟨_, (false), zP, H', ⟨by first | omega | exact Nat.le_refl _⟩, zD⟩
 case rest =>
  clear HC2
  try clear p2
  try clear c3
  try clear c3b0
  obtain ⟨kq, x8_1, rfl, HA, HJ1, ⟨mc1, rfl⟩⟩ := hcut
  cases kq with
  | zero => exact absurd HA.out (by simp [toponymref04_Part.j0])
  | succ kj1 =>
   have H := HA.out
   clear HA
   simp only [toponymref04_Part.j0] at H
   by_cases c4 : x8_1 = true
   ·subst c4
    rw [if_pos rfl] at H
    obtain rfl := sI H
    go_wp2
    go_ret
    exact ⟨zP, zD⟩
   ·replace c4 := Bool.eq_false_iff.mpr c4
    subst c4
    rw [if_neg (show ¬ (false = true) by decide)] at H
    have HC5 := aM H
    clear H
    go_upto_region 3 with (fail)
    go_cut [14] (fun v14 wc => ∃ (kq : Nat) (x14_4 : Bool), v14 = .bool x14_4 ∧ Aside0 (toponymref04_Part.j1 kq a0 x14_4 = some r) ∧ Aside0 (kq ≤ kj1) ∧ Drawn0 w wc)
    case first =>
     have H := HC5.out
     clear HC5
     by_cases c6 : a0 ≥ 4449
     ·rw [if_pos c6] at H
      have c6b0 : decide (4449 ≤ a0) = true := decide_eq_true c6
      clear c6
      (first | rw [c6b0] | (simp only [i64_w, i32_w]; rw [c6b0]) | skip)
      have H' := aM H
      clear H
      go_wp2
      go_meet
      case rel => exact ⟨_, (decide (a0 ≤ 4469)), zP, H', ⟨by have := HJ1.out; first | omega | exact Nat.le_refl _⟩, zD⟩
     ·rw [if_neg c6] at H
      have c6b0 : decide (4449 ≤ a0) = false := decide_eq_false c6
      clear c6
      (first | rw [c6b0] | (simp only [i64_w, i32_w]; rw [c6b0]) | skip)
      have H' := aM H
      clear H
      go_wp2
      go_meet
      case rel => exact ⟨_, (false), zP, H', ⟨by have := HJ1.out; first | omega | exact Nat.le_refl _⟩, zD⟩
    case rest =>
     clear HC5
     try clear c1
     try clear p2
     try clear c3
     try clear c3b0
     try clear c4
     try clear c6
     try clear c6b0
     try clear p2
     obtain ⟨kq, x14_4, rfl, HA, HJ4, ⟨mc4, rfl⟩⟩ := hcut
     cases kq with
     | zero => exact absurd HA.out (by simp [toponymref04_Part.j1])
     | succ kj4 =>
      have H := HA.out
      clear HA
      simp only [toponymref04_Part.j1] at H
      by_cases c7 : x14_4 = true
      ·subst c7
       rw [if_pos rfl] at H
       obtain rfl := sI H
       go_wp2
       go_ret
       exact ⟨zP, zD⟩
      ·replace c7 := Bool.eq_false_iff.mpr c7
       subst c7
       rw [if_neg (show ¬ (false = true) by decide)] at H
       have HC8 := aM H
       clear H
       go_upto_region 5 with (fail)
       go_cut [20] (fun v20 wc => ∃ (kq : Nat) (x20_7 : Bool), v20 = .bool x20_7 ∧ Aside0 (toponymref04_Part.j2 kq a0 x20_7 = some r) ∧ Aside0 (kq ≤ kj4) ∧ Drawn0 w wc)
       case first =>
        have H := HC8.out
        clear HC8
        by_cases c9 : a0 ≥ 4520
        ·rw [if_pos c9] at H
         have c9b0 : decide (4520 ≤ a0) = true := decide_eq_true c9
         clear c9
         (first | rw [c9b0] | (simp only [i64_w, i32_w]; rw [c9b0]) | skip)
         have H' := aM H
         clear H
         go_wp2
         go_meet
         case rel => exact ⟨_, (decide (a0 ≤ 4546)), zP, H', ⟨by have := HJ1.out; have := HJ4.out; first | omega | exact Nat.le_refl _⟩, zD⟩
        ·rw [if_neg c9] at H
         have c9b0 : decide (4520 ≤ a0) = false := decide_eq_false c9
         clear c9
         (first | rw [c9b0] | (simp only [i64_w, i32_w]; rw [c9b0]) | skip)
         have H' := aM H
         clear H
         go_wp2
         go_meet
         case rel => exact ⟨_, (false), zP, H', ⟨by have := HJ1.out; have := HJ4.out; first | omega | exact Nat.le_refl _⟩, zD⟩
       case rest =>
        clear HC8
        try clear c1
        try clear p2
        try clear c3
        try clear c3b0
        try clear c4
        try clear c6
        try clear c6b0
        try clear c7
        try clear c9
        try clear c9b0
        try clear p2
        obtain ⟨kq, x20_7, rfl, HA, HJ7, ⟨mc7, rfl⟩⟩ := hcut
        cases kq with
        | zero => exact absurd HA.out (by simp [toponymref04_Part.j2])
        | succ kj7 =>
         have H := HA.out
         clear HA
         simp only [toponymref04_Part.j2] at H
         by_cases c10 : x20_7 = true
         ·subst c10
          rw [if_pos rfl] at H
          obtain rfl := sI H
          go_wp2
          go_ret
          exact ⟨zP, zD⟩
         ·replace c10 := Bool.eq_false_iff.mpr c10
          subst c10
          rw [if_neg (show ¬ (false = true) by decide)] at H
          obtain ⟨t324, A11, H⟩ := zO H
          by_cases c12 : t324 = true
          ·subst c12
           rw [if_pos rfl] at H
           by_cases c13 : (Int.tmod (wrap32 (a0 - 44032)) 28) = 0
           ·rw [if_pos c13] at H
            have c13b0 : ((Int.tmod (wrap32 (a0 - 44032)) 28) == 0) = true := beq_iff_eq.mpr c13
            have c13b1 : ((Int.tmod (wrap32 (a0 - 44032)) 28) != 0) = false := bne_eq_false_iff_eq.mpr c13
            clear c13
            obtain rfl := sI H
            go_wp2_with (first | ((with_reducible refine gate_callee (f := 57) rfl ?_); refine goesL_ (some 22) rfl rfl Try.func57 zK rfl #[.int .i32 a0] rfl zM ?_; (with_reducible refine (toponymref04_Syllable.calls a0 true _ A11.out).mono ?_); rintro e w' ⟨rfl, ⟨nd, rfl⟩⟩; refine ⟨_, rfl, ?_⟩))
            go_ret
            exact ⟨zP, zD⟩
           ·rw [if_neg c13] at H
            have c13b0 : ((Int.tmod (wrap32 (a0 - 44032)) 28) == 0) = false := beq_eq_false_iff_ne.mpr c13
            have c13b1 : ((Int.tmod (wrap32 (a0 - 44032)) 28) != 0) = true := bne_iff_ne.mpr c13
            obtain rfl := sI H
            go_wp2_with (first | ((with_reducible refine gate_callee (f := 57) rfl ?_); refine goesL_ (some 22) rfl rfl Try.func57 zK rfl #[.int .i32 a0] rfl zM ?_; (with_reducible refine (toponymref04_Syllable.calls a0 true _ A11.out).mono ?_); rintro e w' ⟨rfl, ⟨nd, rfl⟩⟩; refine ⟨_, rfl, ?_⟩))
            go_ret
            exact ⟨zP, zD⟩
          ·replace c12 := Bool.eq_false_iff.mpr c12
           subst c12
           rw [if_neg (show ¬ (false = true) by decide)] at H
           obtain rfl := sI H
           go_wp2_with (first | ((with_reducible refine gate_callee (f := 57) rfl ?_); refine goesL_ (some 22) rfl rfl Try.func57 zK rfl #[.int .i32 a0] rfl zM ?_; (with_reducible refine (toponymref04_Syllable.calls a0 false _ A11.out).mono ?_); rintro e w' ⟨rfl, ⟨nd, rfl⟩⟩; refine ⟨_, rfl, ?_⟩))
           go_ret
           exact ⟨zP, zD⟩

end Go.Proofs.Ytpihglokjcbjkaa.P
