-- Printed by wip/mk.py (this session's driver over the kit's print) and from wip/manual.
import Derived.Test.YthlejpbdmgcgbaaP0
namespace Go.Proofs.Ythlejpbdmgcgbaa.P
open Go.RowKit Go.Proofs.YthlejpbdmgcgbaaW.PrintWords Go.Proofs.YthlejpbdmgcgbaaW.PrintLast Go.Proofs.YthlejpbdmgcgbaaW.PrintMore
attribute [local go_sem] max2_int min2_int max_two min_two max_three min_three max_four min_four   -- for this text's walks alone
set_option linter.unusedVariables false
set_option linter.unusedSimpArgs false

/-! ### toponymref03_ascii: function 27 -/
mutual
def toponymref03_ascii.j0 : Nat → Int → Bool → Option (Int)
  | 0, _, _ => none
  | k + 1, x0, x3 => if x3 = true then (some 1) else (if x0 ≥ 48 then (toponymref03_ascii.j1 k x0 (decide (x0 ≤ 57))) else (toponymref03_ascii.j1 k x0 false))
def toponymref03_ascii.j1 : Nat → Int → Bool → Option (Int)
  | 0, _, _ => none
  | k + 1, x0, x18 => if x18 = true then (some 2) else (if x0 = 32 then (toponymref03_ascii.j2 k x0 true) else (if x0 ≥ 9 then (toponymref03_ascii.j2 k x0 (decide (x0 ≤ 13))) else (toponymref03_ascii.j2 k x0 false)))
def toponymref03_ascii.j2 : Nat → Int → Bool → Option (Int)
  | 0, _, _ => none
  | k + 1, x0, x25 => if x25 = true then (some 5) else (if x0 < 32 then (some 6) else (if x0 = 127 then (some 6) else (some 4)))
end
def toponymref03_ascii.f (k : Nat) (a0 : Int) : Option (Int) := if a0 ≥ 97 then (if a0 ≤ 122 then (toponymref03_ascii.j0 k a0 true) else (if a0 ≥ 65 then (toponymref03_ascii.j0 k a0 (decide (a0 ≤ 90))) else (toponymref03_ascii.j0 k a0 false))) else (if a0 ≥ 65 then (toponymref03_ascii.j0 k a0 (decide (a0 ≤ 90))) else (toponymref03_ascii.j0 k a0 false))
theorem toponymref03_ascii.mono_l : ∀ k, (∀ y0 y1, LeO (toponymref03_ascii.j0 k y0 y1) (toponymref03_ascii.j0 (k + 1) y0 y1)) ∧ (∀ y0 y1, LeO (toponymref03_ascii.j1 k y0 y1) (toponymref03_ascii.j1 (k + 1) y0 y1)) ∧ (∀ y0 y1, LeO (toponymref03_ascii.j2 k y0 y1) (toponymref03_ascii.j2 (k + 1) y0 y1))
  | 0 => ⟨fun _ _ r h => by simp [toponymref03_ascii.j0] at h, fun _ _ r h => by simp [toponymref03_ascii.j1] at h, fun _ _ r h => by simp [toponymref03_ascii.j2] at h⟩
  | k + 1 => by
    obtain ⟨ih0, ih1, ih2⟩ := toponymref03_ascii.mono_l k
    refine ⟨?_, ?_, ?_⟩
    · intro y0 y1
      unfold toponymref03_ascii.j0
      repeat' first
      | (with_reducible exact ih0 _ _)
      | (with_reducible exact ih1 _ _)
      | (with_reducible exact ih2 _ _)
      | (with_reducible exact LeO.refl _)
      | (with_reducible exact LeO.none _)
      | (with_reducible refine LeO.ite ?_ ?_)
      | (with_reducible refine LeO.bind ?_ (fun _ => ?_))
      | exact ih0 _ _
      | exact ih1 _ _
      | exact ih2 _ _
      | exact LeO.none _
      | refine LeO.ite ?_ ?_
      | refine LeO.bind ?_ (fun _ => ?_)
    · intro y0 y1
      unfold toponymref03_ascii.j1
      repeat' first
      | (with_reducible exact ih0 _ _)
      | (with_reducible exact ih1 _ _)
      | (with_reducible exact ih2 _ _)
      | (with_reducible exact LeO.refl _)
      | (with_reducible exact LeO.none _)
      | (with_reducible refine LeO.ite ?_ ?_)
      | (with_reducible refine LeO.bind ?_ (fun _ => ?_))
      | exact ih0 _ _
      | exact ih1 _ _
      | exact ih2 _ _
      | exact LeO.none _
      | refine LeO.ite ?_ ?_
      | refine LeO.bind ?_ (fun _ => ?_)
    · intro y0 y1
      unfold toponymref03_ascii.j2
      repeat' first
      | (with_reducible exact ih0 _ _)
      | (with_reducible exact ih1 _ _)
      | (with_reducible exact ih2 _ _)
      | (with_reducible exact LeO.refl _)
      | (with_reducible exact LeO.none _)
      | (with_reducible refine LeO.ite ?_ ?_)
      | (with_reducible refine LeO.bind ?_ (fun _ => ?_))
      | exact ih0 _ _
      | exact ih1 _ _
      | exact ih2 _ _
      | exact LeO.none _
      | refine LeO.ite ?_ ?_
      | refine LeO.bind ?_ (fun _ => ?_)
theorem toponymref03_ascii.mono : ∀ a0 k, LeO (toponymref03_ascii.f k a0) (toponymref03_ascii.f (k + 1) a0) := by
  intro a0 k
  obtain ⟨ih0, ih1, ih2⟩ := toponymref03_ascii.mono_l k
  unfold toponymref03_ascii.f
  repeat' first
      | (with_reducible exact ih0 _ _)
      | (with_reducible exact ih1 _ _)
      | (with_reducible exact ih2 _ _)
      | (with_reducible exact LeO.refl _)
      | (with_reducible exact LeO.none _)
      | (with_reducible refine LeO.ite ?_ ?_)
      | (with_reducible refine LeO.bind ?_ (fun _ => ?_))
      | exact ih0 _ _
      | exact ih1 _ _
      | exact ih2 _ _
      | exact LeO.none _
      | refine LeO.ite ?_ ?_
      | refine LeO.bind ?_ (fun _ => ?_)
set_option maxHeartbeats 8000000 in
set_option maxRecDepth 100000 in
theorem toponymref03_ascii.calls (k : Nat) (a0 : Int) (r : Int) (w : World) (h : toponymref03_ascii.f k a0 = some r) :
    Calls Try.prog 27 #[.int .i32 a0] w fun e w' => e = .returned (.int .i64 r) ∧ Drawn0 w w' := by
  have H : (if a0 ≥ 97 then (if a0 ≤ 122 then (toponymref03_ascii.j0 k a0 true) else (if a0 ≥ 65 then (toponymref03_ascii.j0 k a0 (decide (a0 ≤ 90))) else (toponymref03_ascii.j0 k a0 false))) else (if a0 ≥ 65 then (toponymref03_ascii.j0 k a0 (decide (a0 ≤ 90))) else (toponymref03_ascii.j0 k a0 false))) = some r := h
  clear h
  have HC2 := Aside0.mk H
  clear H
  go_enter Try.func27, Try.ntmps27
  go_upto_region 1 with (fail)
  go_cut [3] (fun v3 wc => ∃ (kq : Nat) (x3_1 : Bool), v3 = .bool x3_1 ∧ Aside0 (toponymref03_ascii.j0 kq a0 x3_1 = some r) ∧ Aside0 (kq ≤ k) ∧ Drawn0 w wc)
  case first =>
    have H := HC2.out
    clear HC2
    by_cases c3 : a0 ≥ 97
    · rw [if_pos c3] at H
      have c3b0 : decide (97 ≤ a0) = true := decide_eq_true c3
      clear c3
      (first | rw [c3b0] | (simp only [i64_w, i32_w]; rw [c3b0]) | skip)
      by_cases c4 : a0 ≤ 122
      · rw [if_pos c4] at H
        have c4b0 : decide (a0 ≤ 122) = true := decide_eq_true c4
        clear c4
        have H' := Aside0.mk H
        clear H
        go_wp2
        go_meet
        case rel => exact ⟨_, (true), (by first | rfl | (simp; done) | (simp [*]; done)), H', ⟨by first | omega | exact Nat.le_refl _⟩, by repeat (first | exact Drawn0.refl _ | apply Drawn0.step)⟩
      · rw [if_neg c4] at H
        have c4b0 : decide (a0 ≤ 122) = false := decide_eq_false c4
        clear c4
        by_cases c5 : a0 ≥ 65
        · rw [if_pos c5] at H
          have c5b0 : decide (65 ≤ a0) = true := decide_eq_true c5
          clear c5
          have H' := Aside0.mk H
          clear H
          go_wp2
          go_meet
          case rel => exact ⟨_, (decide (a0 ≤ 90)), (by first | rfl | (simp; done) | (simp [*]; done)), H', ⟨by first | omega | exact Nat.le_refl _⟩, by repeat (first | exact Drawn0.refl _ | apply Drawn0.step)⟩
        · rw [if_neg c5] at H
          have c5b0 : decide (65 ≤ a0) = false := decide_eq_false c5
          clear c5
          have H' := Aside0.mk H
          clear H
          go_wp2
          go_meet
          case rel => exact ⟨_, (false), (by first | rfl | (simp; done) | (simp [*]; done)), H', ⟨by first | omega | exact Nat.le_refl _⟩, by repeat (first | exact Drawn0.refl _ | apply Drawn0.step)⟩
    · rw [if_neg c3] at H
      have c3b0 : decide (97 ≤ a0) = false := decide_eq_false c3
      clear c3
      (first | rw [c3b0] | (simp only [i64_w, i32_w]; rw [c3b0]) | skip)
      by_cases c6 : a0 ≥ 65
      · rw [if_pos c6] at H
        have c6b0 : decide (65 ≤ a0) = true := decide_eq_true c6
        clear c6
        have H' := Aside0.mk H
        clear H
        go_wp2
        go_meet
        case rel => exact ⟨_, (decide (a0 ≤ 90)), (by first | rfl | (simp; done) | (simp [*]; done)), H', ⟨by first | omega | exact Nat.le_refl _⟩, by repeat (first | exact Drawn0.refl _ | apply Drawn0.step)⟩
      · rw [if_neg c6] at H
        have c6b0 : decide (65 ≤ a0) = false := decide_eq_false c6
        clear c6
        have H' := Aside0.mk H
        clear H
        go_wp2
        go_meet
        case rel => exact ⟨_, (false), (by first | rfl | (simp; done) | (simp [*]; done)), H', ⟨by first | omega | exact Nat.le_refl _⟩, by repeat (first | exact Drawn0.refl _ | apply Drawn0.step)⟩
  case rest =>
    clear HC2
    try clear c2
    try clear p2
    try clear c3
    try clear c3b0
    try clear c4
    try clear c4b0
    try clear c5
    try clear c5b0
    try clear c6
    try clear c6b0
    obtain ⟨kq, x3_1, rfl, HA, HJ1, ⟨mc1, rfl⟩⟩ := hcut
    cases kq with
    | zero => exact absurd HA.out (by simp [toponymref03_ascii.j0])
    | succ kj1 =>
      have H := HA.out
      clear HA
      simp only [toponymref03_ascii.j0] at H
      by_cases c7 : x3_1 = true
      · subst c7
        have H1 : (some 1) = some r := by rw [if_pos rfl] at H; exact H
        clear H
        have H := H1
        clear H1
        obtain rfl := Option.some.inj H
        go_wp2
        go_ret
        exact ⟨by first | rfl | (simp; done) | (simp [*]; done), by repeat (first | exact Drawn0.refl _ | apply Drawn0.step)⟩
      · replace c7 := Bool.eq_false_iff.mpr c7
        subst c7
        have H1 : (if a0 ≥ 48 then (toponymref03_ascii.j1 kj1 a0 (decide (a0 ≤ 57))) else (toponymref03_ascii.j1 kj1 a0 false)) = some r := by rw [if_neg (show ¬ (false = true) by decide)] at H; exact H
        clear H
        have H := H1
        clear H1
        have HC8 := Aside0.mk H
        clear H
        go_upto_region 3 with (fail)
        go_cut [18] (fun v18 wc => ∃ (kq : Nat) (x18_7 : Bool), v18 = .bool x18_7 ∧ Aside0 (toponymref03_ascii.j1 kq a0 x18_7 = some r) ∧ Aside0 (kq ≤ kj1) ∧ Drawn0 w wc)
        case first =>
          have H := HC8.out
          clear HC8
          by_cases c9 : a0 ≥ 48
          · rw [if_pos c9] at H
            have c9b0 : decide (48 ≤ a0) = true := decide_eq_true c9
            clear c9
            (first | rw [c9b0] | (simp only [i64_w, i32_w]; rw [c9b0]) | skip)
            have H' := Aside0.mk H
            clear H
            go_wp2
            go_meet
            case rel => exact ⟨_, (decide (a0 ≤ 57)), (by first | rfl | (simp; done) | (simp [*]; done)), H', ⟨by have := HJ1.out; first | omega | exact Nat.le_refl _⟩, by repeat (first | exact Drawn0.refl _ | apply Drawn0.step)⟩
          · rw [if_neg c9] at H
            have c9b0 : decide (48 ≤ a0) = false := decide_eq_false c9
            clear c9
            (first | rw [c9b0] | (simp only [i64_w, i32_w]; rw [c9b0]) | skip)
            have H' := Aside0.mk H
            clear H
            go_wp2
            go_meet
            case rel => exact ⟨_, (false), (by first | rfl | (simp; done) | (simp [*]; done)), H', ⟨by have := HJ1.out; first | omega | exact Nat.le_refl _⟩, by repeat (first | exact Drawn0.refl _ | apply Drawn0.step)⟩
        case rest =>
          clear HC8
          try clear c1
          try clear c2
          try clear p2
          try clear c3
          try clear c3b0
          try clear c4
          try clear c4b0
          try clear c5
          try clear c5b0
          try clear c6
          try clear c6b0
          try clear c7
          try clear c9
          try clear c9b0
          try clear p2
          obtain ⟨kq, x18_7, rfl, HA, HJ7, ⟨mc7, rfl⟩⟩ := hcut
          cases kq with
          | zero => exact absurd HA.out (by simp [toponymref03_ascii.j1])
          | succ kj7 =>
            have H := HA.out
            clear HA
            simp only [toponymref03_ascii.j1] at H
            by_cases c10 : x18_7 = true
            · subst c10
              have H1 : (some 2) = some r := by rw [if_pos rfl] at H; exact H
              clear H
              have H := H1
              clear H1
              obtain rfl := Option.some.inj H
              go_wp2
              go_ret
              exact ⟨by first | rfl | (simp; done) | (simp [*]; done), by repeat (first | exact Drawn0.refl _ | apply Drawn0.step)⟩
            · replace c10 := Bool.eq_false_iff.mpr c10
              subst c10
              have H1 : (if a0 = 32 then (toponymref03_ascii.j2 kj7 a0 true) else (if a0 ≥ 9 then (toponymref03_ascii.j2 kj7 a0 (decide (a0 ≤ 13))) else (toponymref03_ascii.j2 kj7 a0 false))) = some r := by rw [if_neg (show ¬ (false = true) by decide)] at H; exact H
              clear H
              have H := H1
              clear H1
              have HC11 := Aside0.mk H
              clear H
              go_upto_region 5 with (fail)
              go_cut [25] (fun v25 wc => ∃ (kq : Nat) (x25_10 : Bool), v25 = .bool x25_10 ∧ Aside0 (toponymref03_ascii.j2 kq a0 x25_10 = some r) ∧ Aside0 (kq ≤ kj7) ∧ Drawn0 w wc)
              case first =>
                have H := HC11.out
                clear HC11
                by_cases c12 : a0 = 32
                · rw [if_pos c12] at H
                  have c12b0 : (a0 == 32) = true := beq_iff_eq.mpr c12
                  have c12b1 : (a0 != 32) = false := bne_eq_false_iff_eq.mpr c12
                  clear c12
                  (first | rw [c12b0] | (simp only [i64_w, i32_w]; rw [c12b0]) | skip)
                  have H' := Aside0.mk H
                  clear H
                  go_wp2
                  go_meet
                  case rel => exact ⟨_, (true), (by first | rfl | (simp; done) | (simp [*]; done)), H', ⟨by have := HJ1.out; have := HJ7.out; first | omega | exact Nat.le_refl _⟩, by repeat (first | exact Drawn0.refl _ | apply Drawn0.step)⟩
                · rw [if_neg c12] at H
                  have c12b0 : (a0 == 32) = false := beq_eq_false_iff_ne.mpr c12
                  have c12b1 : (a0 != 32) = true := bne_iff_ne.mpr c12
                  (first | rw [c12b0] | (simp only [i64_w, i32_w]; rw [c12b0]) | skip)
                  by_cases c13 : a0 ≥ 9
                  · rw [if_pos c13] at H
                    have c13b0 : decide (9 ≤ a0) = true := decide_eq_true c13
                    clear c13
                    have H' := Aside0.mk H
                    clear H
                    go_wp2
                    go_meet
                    case rel => exact ⟨_, (decide (a0 ≤ 13)), (by first | rfl | (simp; done) | (simp [*]; done)), H', ⟨by have := HJ1.out; have := HJ7.out; first | omega | exact Nat.le_refl _⟩, by repeat (first | exact Drawn0.refl _ | apply Drawn0.step)⟩
                  · rw [if_neg c13] at H
                    have c13b0 : decide (9 ≤ a0) = false := decide_eq_false c13
                    clear c13
                    have H' := Aside0.mk H
                    clear H
                    go_wp2
                    go_meet
                    case rel => exact ⟨_, (false), (by first | rfl | (simp; done) | (simp [*]; done)), H', ⟨by have := HJ1.out; have := HJ7.out; first | omega | exact Nat.le_refl _⟩, by repeat (first | exact Drawn0.refl _ | apply Drawn0.step)⟩
              case rest =>
                clear HC11
                try clear c1
                try clear c2
                try clear p2
                try clear c3
                try clear c3b0
                try clear c4
                try clear c4b0
                try clear c5
                try clear c5b0
                try clear c6
                try clear c6b0
                try clear c7
                try clear c9
                try clear c9b0
                try clear c10
                try clear c12
                try clear c12b0
                try clear c12b1
                try clear c13
                try clear c13b0
                try clear p2
                obtain ⟨kq, x25_10, rfl, HA, HJ10, ⟨mc10, rfl⟩⟩ := hcut
                cases kq with
                | zero => exact absurd HA.out (by simp [toponymref03_ascii.j2])
                | succ kj10 =>
                  have H := HA.out
                  clear HA
                  simp only [toponymref03_ascii.j2] at H
                  by_cases c14 : x25_10 = true
                  · subst c14
                    have H1 : (some 5) = some r := by rw [if_pos rfl] at H; exact H
                    clear H
                    have H := H1
                    clear H1
                    obtain rfl := Option.some.inj H
                    go_wp2
                    go_ret
                    exact ⟨by first | rfl | (simp; done) | (simp [*]; done), by repeat (first | exact Drawn0.refl _ | apply Drawn0.step)⟩
                  · replace c14 := Bool.eq_false_iff.mpr c14
                    subst c14
                    have H1 : (if a0 < 32 then (some 6) else (if a0 = 127 then (some 6) else (some 4))) = some r := by rw [if_neg (show ¬ (false = true) by decide)] at H; exact H
                    clear H
                    have H := H1
                    clear H1
                    by_cases c15 : a0 < 32
                    · rw [if_pos c15] at H
                      have c15b0 : decide (a0 < 32) = true := decide_eq_true c15
                      clear c15
                      obtain rfl := Option.some.inj H
                      go_wp2
                      go_ret
                      exact ⟨by first | rfl | (simp; done) | (simp [*]; done), by repeat (first | exact Drawn0.refl _ | apply Drawn0.step)⟩
                    · rw [if_neg c15] at H
                      have c15b0 : decide (a0 < 32) = false := decide_eq_false c15
                      clear c15
                      by_cases c16 : a0 = 127
                      · rw [if_pos c16] at H
                        have c16b0 : (a0 == 127) = true := beq_iff_eq.mpr c16
                        have c16b1 : (a0 != 127) = false := bne_eq_false_iff_eq.mpr c16
                        clear c16
                        obtain rfl := Option.some.inj H
                        go_wp2
                        go_ret
                        exact ⟨by first | rfl | (simp; done) | (simp [*]; done), by repeat (first | exact Drawn0.refl _ | apply Drawn0.step)⟩
                      · rw [if_neg c16] at H
                        have c16b0 : (a0 == 127) = false := beq_eq_false_iff_ne.mpr c16
                        have c16b1 : (a0 != 127) = true := bne_iff_ne.mpr c16
                        obtain rfl := Option.some.inj H
                        go_wp2
                        go_ret
                        exact ⟨by first | rfl | (simp; done) | (simp [*]; done), by repeat (first | exact Drawn0.refl _ | apply Drawn0.step)⟩

/-! ### toponymref03_lower: function 42 -/
def toponymref03_lower.f  : Option ((List (S54))) := some (([(⟨0, 8, 6⟩ : S54), (⟨9, 13, 5⟩ : S54), (⟨14, 31, 6⟩ : S54), (⟨32, 32, 5⟩ : S54), (⟨33, 47, 4⟩ : S54), (⟨48, 57, 2⟩ : S54), (⟨58, 64, 4⟩ : S54), (⟨65, 90, 1⟩ : S54), (⟨91, 96, 4⟩ : S54), (⟨97, 122, 1⟩ : S54), (⟨123, 126, 4⟩ : S54), (⟨127, 132, 6⟩ : S54), (⟨133, 133, 5⟩ : S54), (⟨134, 159, 6⟩ : S54), (⟨160, 160, 5⟩ : S54), (⟨161, 169, 4⟩ : S54), (⟨170, 170, 1⟩ : S54), (⟨171, 172, 4⟩ : S54), (⟨173, 173, 6⟩ : S54), (⟨174, 177, 4⟩ : S54), (⟨178, 179, 2⟩ : S54), (⟨180, 180, 4⟩ : S54), (⟨181, 181, 1⟩ : S54), (⟨182, 184, 4⟩ : S54), (⟨185, 185, 2⟩ : S54), (⟨186, 186, 1⟩ : S54), (⟨187, 191, 4⟩ : S54), (⟨192, 214, 1⟩ : S54), (⟨215, 215, 4⟩ : S54), (⟨216, 246, 1⟩ : S54), (⟨247, 247, 4⟩ : S54), (⟨248, 383, 1⟩ : S54), (⟨700, 700, 1⟩ : S54), (⟨768, 772, 3⟩ : S54), (⟨774, 776, 3⟩ : S54), (⟨778, 780, 3⟩ : S54), (⟨803, 803, 3⟩ : S54), (⟨807, 808, 3⟩ : S54), (⟨832, 833, 7⟩ : S54), (⟨847, 847, 6⟩ : S54), (⟨902, 902, 1⟩ : S54), (⟨904, 906, 1⟩ : S54), (⟨908, 908, 1⟩ : S54), (⟨910, 929, 1⟩ : S54), (⟨931, 974, 1⟩ : S54)] : List (S54)))
set_option maxHeartbeats 8000000 in
set_option maxRecDepth 100000 in
theorem toponymref03_lower.calls  (r : List (S54)) (w : World) (h : toponymref03_lower.f  = some r) :
    Calls Try.prog 42 #[] w fun e w' => ∃ v0_ : Value, e = .returned (v0_) ∧ Kd.R k54 54 w' w.heap.size (fun _ => True) v0_ r ∧ Below w.heap.size w w' := by
  have hu54 := Try.underlying54
  have HB := Aside0.mk (Below.refl w.heap.size w)
  have H : (some (([(⟨0, 8, 6⟩ : S54), (⟨9, 13, 5⟩ : S54), (⟨14, 31, 6⟩ : S54), (⟨32, 32, 5⟩ : S54), (⟨33, 47, 4⟩ : S54), (⟨48, 57, 2⟩ : S54), (⟨58, 64, 4⟩ : S54), (⟨65, 90, 1⟩ : S54), (⟨91, 96, 4⟩ : S54), (⟨97, 122, 1⟩ : S54), (⟨123, 126, 4⟩ : S54), (⟨127, 132, 6⟩ : S54), (⟨133, 133, 5⟩ : S54), (⟨134, 159, 6⟩ : S54), (⟨160, 160, 5⟩ : S54), (⟨161, 169, 4⟩ : S54), (⟨170, 170, 1⟩ : S54), (⟨171, 172, 4⟩ : S54), (⟨173, 173, 6⟩ : S54), (⟨174, 177, 4⟩ : S54), (⟨178, 179, 2⟩ : S54), (⟨180, 180, 4⟩ : S54), (⟨181, 181, 1⟩ : S54), (⟨182, 184, 4⟩ : S54), (⟨185, 185, 2⟩ : S54), (⟨186, 186, 1⟩ : S54), (⟨187, 191, 4⟩ : S54), (⟨192, 214, 1⟩ : S54), (⟨215, 215, 4⟩ : S54), (⟨216, 246, 1⟩ : S54), (⟨247, 247, 4⟩ : S54), (⟨248, 383, 1⟩ : S54), (⟨700, 700, 1⟩ : S54), (⟨768, 772, 3⟩ : S54), (⟨774, 776, 3⟩ : S54), (⟨778, 780, 3⟩ : S54), (⟨803, 803, 3⟩ : S54), (⟨807, 808, 3⟩ : S54), (⟨832, 833, 7⟩ : S54), (⟨847, 847, 6⟩ : S54), (⟨902, 902, 1⟩ : S54), (⟨904, 906, 1⟩ : S54), (⟨908, 908, 1⟩ : S54), (⟨910, 929, 1⟩ : S54), (⟨931, 974, 1⟩ : S54)] : List (S54)))) = some r := h
  clear h
  obtain ⟨y164, hy164⟩ : ∃ y_ : List (S54), y_ = (([(⟨0, 8, 6⟩ : S54), (⟨9, 13, 5⟩ : S54), (⟨14, 31, 6⟩ : S54), (⟨32, 32, 5⟩ : S54), (⟨33, 47, 4⟩ : S54), (⟨48, 57, 2⟩ : S54), (⟨58, 64, 4⟩ : S54), (⟨65, 90, 1⟩ : S54), (⟨91, 96, 4⟩ : S54), (⟨97, 122, 1⟩ : S54), (⟨123, 126, 4⟩ : S54), (⟨127, 132, 6⟩ : S54), (⟨133, 133, 5⟩ : S54), (⟨134, 159, 6⟩ : S54), (⟨160, 160, 5⟩ : S54), (⟨161, 169, 4⟩ : S54), (⟨170, 170, 1⟩ : S54), (⟨171, 172, 4⟩ : S54), (⟨173, 173, 6⟩ : S54), (⟨174, 177, 4⟩ : S54), (⟨178, 179, 2⟩ : S54), (⟨180, 180, 4⟩ : S54), (⟨181, 181, 1⟩ : S54), (⟨182, 184, 4⟩ : S54), (⟨185, 185, 2⟩ : S54), (⟨186, 186, 1⟩ : S54), (⟨187, 191, 4⟩ : S54), (⟨192, 214, 1⟩ : S54), (⟨215, 215, 4⟩ : S54), (⟨216, 246, 1⟩ : S54), (⟨247, 247, 4⟩ : S54), (⟨248, 383, 1⟩ : S54), (⟨700, 700, 1⟩ : S54), (⟨768, 772, 3⟩ : S54), (⟨774, 776, 3⟩ : S54), (⟨778, 780, 3⟩ : S54), (⟨803, 803, 3⟩ : S54), (⟨807, 808, 3⟩ : S54), (⟨832, 833, 7⟩ : S54), (⟨847, 847, 6⟩ : S54), (⟨902, 902, 1⟩ : S54), (⟨904, 906, 1⟩ : S54), (⟨908, 908, 1⟩ : S54), (⟨910, 929, 1⟩ : S54), (⟨931, 974, 1⟩ : S54)] : List (S54))) := ⟨_, rfl⟩
  replace H : (some y164) = some r := by first | (rw [hy164]; with_reducible exact H) | (have H2_ := (Option.bind_some _ _).symm.trans H; rw [hy164]; with_reducible exact H2_) | (have H2_ := (Option.bind_some _ _).symm.trans H; with_reducible exact H2_) | with_reducible exact H | (rw [hy164]; exact H) | exact H
  have Ny164 := Aside0.mk hy164
  clear hy164
  obtain rfl := Option.some.inj H
  go_enter Try.func42, Try.ntmps42
  go_wp2_with (first | ((with_reducible refine gate_dst (N := 46) rfl ?_); refine Kd.R_lit k54 _ 54 ?hg (N := 46) ?hd (xs := ([(⟨0, 8, 6⟩ : S54), (⟨9, 13, 5⟩ : S54), (⟨14, 31, 6⟩ : S54), (⟨32, 32, 5⟩ : S54), (⟨33, 47, 4⟩ : S54), (⟨48, 57, 2⟩ : S54), (⟨58, 64, 4⟩ : S54), (⟨65, 90, 1⟩ : S54), (⟨91, 96, 4⟩ : S54), (⟨97, 122, 1⟩ : S54), (⟨123, 126, 4⟩ : S54), (⟨127, 132, 6⟩ : S54), (⟨133, 133, 5⟩ : S54), (⟨134, 159, 6⟩ : S54), (⟨160, 160, 5⟩ : S54), (⟨161, 169, 4⟩ : S54), (⟨170, 170, 1⟩ : S54), (⟨171, 172, 4⟩ : S54), (⟨173, 173, 6⟩ : S54), (⟨174, 177, 4⟩ : S54), (⟨178, 179, 2⟩ : S54), (⟨180, 180, 4⟩ : S54), (⟨181, 181, 1⟩ : S54), (⟨182, 184, 4⟩ : S54), (⟨185, 185, 2⟩ : S54), (⟨186, 186, 1⟩ : S54), (⟨187, 191, 4⟩ : S54), (⟨192, 214, 1⟩ : S54), (⟨215, 215, 4⟩ : S54), (⟨216, 246, 1⟩ : S54), (⟨247, 247, 4⟩ : S54), (⟨248, 383, 1⟩ : S54), (⟨700, 700, 1⟩ : S54), (⟨768, 772, 3⟩ : S54), (⟨774, 776, 3⟩ : S54), (⟨778, 780, 3⟩ : S54), (⟨803, 803, 3⟩ : S54), (⟨807, 808, 3⟩ : S54), (⟨832, 833, 7⟩ : S54), (⟨847, 847, 6⟩ : S54), (⟨902, 902, 1⟩ : S54), (⟨904, 906, 1⟩ : S54), (⟨908, 908, 1⟩ : S54), (⟨910, 929, 1⟩ : S54), (⟨931, 974, 1⟩ : S54)] : List (S54))) (inner := [.int .i32 0, .int .i32 8, .int .i64 6, .int .i32 9, .int .i32 13, .int .i64 5, .int .i32 14, .int .i32 31, .int .i64 6, .int .i32 32, .int .i32 32, .int .i64 5, .int .i32 33, .int .i32 47, .int .i64 4, .int .i32 48, .int .i32 57, .int .i64 2, .int .i32 58, .int .i32 64, .int .i64 4, .int .i32 65, .int .i32 90, .int .i64 1, .int .i32 91, .int .i32 96, .int .i64 4, .int .i32 97, .int .i32 122, .int .i64 1, .int .i32 123, .int .i32 126, .int .i64 4, .int .i32 127, .int .i32 132, .int .i64 6, .int .i32 133, .int .i32 133, .int .i64 5, .int .i32 134, .int .i32 159, .int .i64 6, .int .i32 160, .int .i32 160, .int .i64 5, .int .i32 161, .int .i32 169, .int .i64 4, .int .i32 170, .int .i32 170, .int .i64 1, .int .i32 171, .int .i32 172, .int .i64 4, .int .i32 173, .int .i32 173, .int .i64 6, .int .i32 174, .int .i32 177, .int .i64 4, .int .i32 178, .int .i32 179, .int .i64 2, .int .i32 180, .int .i32 180, .int .i64 4, .int .i32 181, .int .i32 181, .int .i64 1, .int .i32 182, .int .i32 184, .int .i64 4, .int .i32 185, .int .i32 185, .int .i64 2, .int .i32 186, .int .i32 186, .int .i64 1, .int .i32 187, .int .i32 191, .int .i64 4, .int .i32 192, .int .i32 214, .int .i64 1, .int .i32 215, .int .i32 215, .int .i64 4, .int .i32 216, .int .i32 246, .int .i64 1, .int .i32 247, .int .i32 247, .int .i64 4, .int .i32 248, .int .i32 383, .int .i64 1, .int .i32 700, .int .i32 700, .int .i64 1, .int .i32 768, .int .i32 772, .int .i64 3, .int .i32 774, .int .i32 776, .int .i64 3, .int .i32 778, .int .i32 780, .int .i64 3, .int .i32 803, .int .i32 803, .int .i64 3, .int .i32 807, .int .i32 808, .int .i64 3, .int .i32 832, .int .i32 833, .int .i64 7, .int .i32 847, .int .i32 847, .int .i64 6, .int .i32 902, .int .i32 902, .int .i64 1, .int .i32 904, .int .i32 906, .int .i64 1, .int .i32 908, .int .i32 908, .int .i64 1, .int .i32 910, .int .i32 929, .int .i64 1, .int .i32 931, .int .i32 974, .int .i64 1]) (ok := fun _ => True) (okp := fun _ => True) ?hr ?hp (fun _ hk => hk) trivial (Below.refl _ _) (Nat.le_refl _) (by simp) ?_; (case hd => rfl); (case hg => rfl); (case hr => kernel_rfl); (case hp => exact (Reps.c3 (show Kd.M k54 _ _ _ (⟨0, 8, 6⟩ : S54) [.int .i32 0, .int .i32 8, .int .i64 6] from (k54_mkM _ _ _ (⟨0, 8, 6⟩ : S54) )) (Reps.c3 (show Kd.M k54 _ _ _ (⟨9, 13, 5⟩ : S54) [.int .i32 9, .int .i32 13, .int .i64 5] from (k54_mkM _ _ _ (⟨9, 13, 5⟩ : S54) )) (Reps.c3 (show Kd.M k54 _ _ _ (⟨14, 31, 6⟩ : S54) [.int .i32 14, .int .i32 31, .int .i64 6] from (k54_mkM _ _ _ (⟨14, 31, 6⟩ : S54) )) (Reps.c3 (show Kd.M k54 _ _ _ (⟨32, 32, 5⟩ : S54) [.int .i32 32, .int .i32 32, .int .i64 5] from (k54_mkM _ _ _ (⟨32, 32, 5⟩ : S54) )) (Reps.c3 (show Kd.M k54 _ _ _ (⟨33, 47, 4⟩ : S54) [.int .i32 33, .int .i32 47, .int .i64 4] from (k54_mkM _ _ _ (⟨33, 47, 4⟩ : S54) )) (Reps.c3 (show Kd.M k54 _ _ _ (⟨48, 57, 2⟩ : S54) [.int .i32 48, .int .i32 57, .int .i64 2] from (k54_mkM _ _ _ (⟨48, 57, 2⟩ : S54) )) (Reps.c3 (show Kd.M k54 _ _ _ (⟨58, 64, 4⟩ : S54) [.int .i32 58, .int .i32 64, .int .i64 4] from (k54_mkM _ _ _ (⟨58, 64, 4⟩ : S54) )) (Reps.c3 (show Kd.M k54 _ _ _ (⟨65, 90, 1⟩ : S54) [.int .i32 65, .int .i32 90, .int .i64 1] from (k54_mkM _ _ _ (⟨65, 90, 1⟩ : S54) )) (Reps.c3 (show Kd.M k54 _ _ _ (⟨91, 96, 4⟩ : S54) [.int .i32 91, .int .i32 96, .int .i64 4] from (k54_mkM _ _ _ (⟨91, 96, 4⟩ : S54) )) (Reps.c3 (show Kd.M k54 _ _ _ (⟨97, 122, 1⟩ : S54) [.int .i32 97, .int .i32 122, .int .i64 1] from (k54_mkM _ _ _ (⟨97, 122, 1⟩ : S54) )) (Reps.c3 (show Kd.M k54 _ _ _ (⟨123, 126, 4⟩ : S54) [.int .i32 123, .int .i32 126, .int .i64 4] from (k54_mkM _ _ _ (⟨123, 126, 4⟩ : S54) )) (Reps.c3 (show Kd.M k54 _ _ _ (⟨127, 132, 6⟩ : S54) [.int .i32 127, .int .i32 132, .int .i64 6] from (k54_mkM _ _ _ (⟨127, 132, 6⟩ : S54) )) (Reps.c3 (show Kd.M k54 _ _ _ (⟨133, 133, 5⟩ : S54) [.int .i32 133, .int .i32 133, .int .i64 5] from (k54_mkM _ _ _ (⟨133, 133, 5⟩ : S54) )) (Reps.c3 (show Kd.M k54 _ _ _ (⟨134, 159, 6⟩ : S54) [.int .i32 134, .int .i32 159, .int .i64 6] from (k54_mkM _ _ _ (⟨134, 159, 6⟩ : S54) )) (Reps.c3 (show Kd.M k54 _ _ _ (⟨160, 160, 5⟩ : S54) [.int .i32 160, .int .i32 160, .int .i64 5] from (k54_mkM _ _ _ (⟨160, 160, 5⟩ : S54) )) (Reps.c3 (show Kd.M k54 _ _ _ (⟨161, 169, 4⟩ : S54) [.int .i32 161, .int .i32 169, .int .i64 4] from (k54_mkM _ _ _ (⟨161, 169, 4⟩ : S54) )) (Reps.c3 (show Kd.M k54 _ _ _ (⟨170, 170, 1⟩ : S54) [.int .i32 170, .int .i32 170, .int .i64 1] from (k54_mkM _ _ _ (⟨170, 170, 1⟩ : S54) )) (Reps.c3 (show Kd.M k54 _ _ _ (⟨171, 172, 4⟩ : S54) [.int .i32 171, .int .i32 172, .int .i64 4] from (k54_mkM _ _ _ (⟨171, 172, 4⟩ : S54) )) (Reps.c3 (show Kd.M k54 _ _ _ (⟨173, 173, 6⟩ : S54) [.int .i32 173, .int .i32 173, .int .i64 6] from (k54_mkM _ _ _ (⟨173, 173, 6⟩ : S54) )) (Reps.c3 (show Kd.M k54 _ _ _ (⟨174, 177, 4⟩ : S54) [.int .i32 174, .int .i32 177, .int .i64 4] from (k54_mkM _ _ _ (⟨174, 177, 4⟩ : S54) )) (Reps.c3 (show Kd.M k54 _ _ _ (⟨178, 179, 2⟩ : S54) [.int .i32 178, .int .i32 179, .int .i64 2] from (k54_mkM _ _ _ (⟨178, 179, 2⟩ : S54) )) (Reps.c3 (show Kd.M k54 _ _ _ (⟨180, 180, 4⟩ : S54) [.int .i32 180, .int .i32 180, .int .i64 4] from (k54_mkM _ _ _ (⟨180, 180, 4⟩ : S54) )) (Reps.c3 (show Kd.M k54 _ _ _ (⟨181, 181, 1⟩ : S54) [.int .i32 181, .int .i32 181, .int .i64 1] from (k54_mkM _ _ _ (⟨181, 181, 1⟩ : S54) )) (Reps.c3 (show Kd.M k54 _ _ _ (⟨182, 184, 4⟩ : S54) [.int .i32 182, .int .i32 184, .int .i64 4] from (k54_mkM _ _ _ (⟨182, 184, 4⟩ : S54) )) (Reps.c3 (show Kd.M k54 _ _ _ (⟨185, 185, 2⟩ : S54) [.int .i32 185, .int .i32 185, .int .i64 2] from (k54_mkM _ _ _ (⟨185, 185, 2⟩ : S54) )) (Reps.c3 (show Kd.M k54 _ _ _ (⟨186, 186, 1⟩ : S54) [.int .i32 186, .int .i32 186, .int .i64 1] from (k54_mkM _ _ _ (⟨186, 186, 1⟩ : S54) )) (Reps.c3 (show Kd.M k54 _ _ _ (⟨187, 191, 4⟩ : S54) [.int .i32 187, .int .i32 191, .int .i64 4] from (k54_mkM _ _ _ (⟨187, 191, 4⟩ : S54) )) (Reps.c3 (show Kd.M k54 _ _ _ (⟨192, 214, 1⟩ : S54) [.int .i32 192, .int .i32 214, .int .i64 1] from (k54_mkM _ _ _ (⟨192, 214, 1⟩ : S54) )) (Reps.c3 (show Kd.M k54 _ _ _ (⟨215, 215, 4⟩ : S54) [.int .i32 215, .int .i32 215, .int .i64 4] from (k54_mkM _ _ _ (⟨215, 215, 4⟩ : S54) )) (Reps.c3 (show Kd.M k54 _ _ _ (⟨216, 246, 1⟩ : S54) [.int .i32 216, .int .i32 246, .int .i64 1] from (k54_mkM _ _ _ (⟨216, 246, 1⟩ : S54) )) (Reps.c3 (show Kd.M k54 _ _ _ (⟨247, 247, 4⟩ : S54) [.int .i32 247, .int .i32 247, .int .i64 4] from (k54_mkM _ _ _ (⟨247, 247, 4⟩ : S54) )) (Reps.c3 (show Kd.M k54 _ _ _ (⟨248, 383, 1⟩ : S54) [.int .i32 248, .int .i32 383, .int .i64 1] from (k54_mkM _ _ _ (⟨248, 383, 1⟩ : S54) )) (Reps.c3 (show Kd.M k54 _ _ _ (⟨700, 700, 1⟩ : S54) [.int .i32 700, .int .i32 700, .int .i64 1] from (k54_mkM _ _ _ (⟨700, 700, 1⟩ : S54) )) (Reps.c3 (show Kd.M k54 _ _ _ (⟨768, 772, 3⟩ : S54) [.int .i32 768, .int .i32 772, .int .i64 3] from (k54_mkM _ _ _ (⟨768, 772, 3⟩ : S54) )) (Reps.c3 (show Kd.M k54 _ _ _ (⟨774, 776, 3⟩ : S54) [.int .i32 774, .int .i32 776, .int .i64 3] from (k54_mkM _ _ _ (⟨774, 776, 3⟩ : S54) )) (Reps.c3 (show Kd.M k54 _ _ _ (⟨778, 780, 3⟩ : S54) [.int .i32 778, .int .i32 780, .int .i64 3] from (k54_mkM _ _ _ (⟨778, 780, 3⟩ : S54) )) (Reps.c3 (show Kd.M k54 _ _ _ (⟨803, 803, 3⟩ : S54) [.int .i32 803, .int .i32 803, .int .i64 3] from (k54_mkM _ _ _ (⟨803, 803, 3⟩ : S54) )) (Reps.c3 (show Kd.M k54 _ _ _ (⟨807, 808, 3⟩ : S54) [.int .i32 807, .int .i32 808, .int .i64 3] from (k54_mkM _ _ _ (⟨807, 808, 3⟩ : S54) )) (Reps.c3 (show Kd.M k54 _ _ _ (⟨832, 833, 7⟩ : S54) [.int .i32 832, .int .i32 833, .int .i64 7] from (k54_mkM _ _ _ (⟨832, 833, 7⟩ : S54) )) (Reps.c3 (show Kd.M k54 _ _ _ (⟨847, 847, 6⟩ : S54) [.int .i32 847, .int .i32 847, .int .i64 6] from (k54_mkM _ _ _ (⟨847, 847, 6⟩ : S54) )) (Reps.c3 (show Kd.M k54 _ _ _ (⟨902, 902, 1⟩ : S54) [.int .i32 902, .int .i32 902, .int .i64 1] from (k54_mkM _ _ _ (⟨902, 902, 1⟩ : S54) )) (Reps.c3 (show Kd.M k54 _ _ _ (⟨904, 906, 1⟩ : S54) [.int .i32 904, .int .i32 906, .int .i64 1] from (k54_mkM _ _ _ (⟨904, 906, 1⟩ : S54) )) (Reps.c3 (show Kd.M k54 _ _ _ (⟨908, 908, 1⟩ : S54) [.int .i32 908, .int .i32 908, .int .i64 1] from (k54_mkM _ _ _ (⟨908, 908, 1⟩ : S54) )) (Reps.c3 (show Kd.M k54 _ _ _ (⟨910, 929, 1⟩ : S54) [.int .i32 910, .int .i32 929, .int .i64 1] from (k54_mkM _ _ _ (⟨910, 929, 1⟩ : S54) )) (Reps.c3 (show Kd.M k54 _ _ _ (⟨931, 974, 1⟩ : S54) [.int .i32 931, .int .i32 974, .int .i64 1] from (k54_mkM _ _ _ (⟨931, 974, 1⟩ : S54) )) (Reps.none _ _))))))))))))))))))))))))))))))))))))))))))))))); intro v165 w1 ho2 hb hg_ hnew_; clear hg_ hnew_; (first | rw [← Ny164.out] at ho2 | (simp only [Int.reduceToNat] at ho2; rw [← Ny164.out] at ho2)); have n0_ := Aside0.mk (Kd.R_lower ho2 (below_size (by repeat (first | (with_reducible first | exact HB.out | apply below_alloc | apply pw_below_drewN | apply below_drew1) | exact HB.out)))); have n1_ := Aside0.mk (below_step (by repeat (first | (with_reducible first | exact HB.out | apply below_alloc | apply pw_below_drewN | apply below_drew1) | exact HB.out)) hb); clear HB; have HO166 := n0_; have HB := n1_; clear n0_ n1_; clear hb ho2))
  go_ret
  exact ⟨_, by first | rfl | (simp [errW_none, errW_some] <;> rfl) | (simp [*, errW_none, errW_some] <;> rfl), by (with_reducible repeat (first | apply Kd.R_alloc | apply Kd.R_drewN | apply Kd.R_drew)); exact HO166.out, by repeat (first | (with_reducible first | exact HB.out | apply below_alloc | apply pw_below_drewN | apply below_drew1) | exact HB.out)⟩

/-! ### toponymref03_upper: function 43 -/
def toponymref03_upper.f  : Option ((List (S54))) := some (([(⟨1025, 1025, 1⟩ : S54), (⟨1040, 1103, 1⟩ : S54), (⟨1105, 1105, 1⟩ : S54), (⟨1488, 1514, 1⟩ : S54), (⟨1632, 1641, 2⟩ : S54), (⟨4352, 4370, 1⟩ : S54), (⟨4449, 4469, 1⟩ : S54), (⟨4520, 4546, 1⟩ : S54), (⟨8192, 8202, 5⟩ : S54), (⟨8203, 8207, 6⟩ : S54), (⟨8208, 8209, 4⟩ : S54), (⟨8232, 8233, 5⟩ : S54), (⟨8234, 8238, 6⟩ : S54), (⟨8239, 8239, 5⟩ : S54), (⟨8260, 8260, 4⟩ : S54), (⟨8287, 8287, 5⟩ : S54), (⟨8288, 8291, 6⟩ : S54), (⟨8298, 8303, 6⟩ : S54), (⟨8304, 8304, 2⟩ : S54), (⟨8308, 8313, 2⟩ : S54), (⟨8320, 8329, 2⟩ : S54), (⟨8486, 8486, 1⟩ : S54), (⟨8490, 8491, 1⟩ : S54), (⟨8544, 8555, 1⟩ : S54), (⟨8560, 8571, 1⟩ : S54), (⟨8722, 8722, 4⟩ : S54), (⟨12288, 12288, 5⟩ : S54), (⟨12353, 12436, 1⟩ : S54), (⟨12441, 12442, 3⟩ : S54), (⟨19968, 20223, 1⟩ : S54), (⟨44032, 55203, 1⟩ : S54), (⟨57344, 63743, 7⟩ : S54), (⟨64256, 64261, 1⟩ : S54), (⟨64976, 65007, 7⟩ : S54), (⟨65024, 65039, 6⟩ : S54), (⟨65279, 65279, 6⟩ : S54), (⟨65281, 65295, 4⟩ : S54), (⟨65296, 65305, 2⟩ : S54), (⟨65306, 65312, 4⟩ : S54), (⟨65313, 65338, 1⟩ : S54), (⟨65339, 65344, 4⟩ : S54), (⟨65345, 65370, 1⟩ : S54), (⟨65371, 65374, 4⟩ : S54), (⟨65529, 65532, 6⟩ : S54), (⟨65533, 65535, 7⟩ : S54)] : List (S54)))
set_option maxHeartbeats 8000000 in
set_option maxRecDepth 100000 in
theorem toponymref03_upper.calls  (r : List (S54)) (w : World) (h : toponymref03_upper.f  = some r) :
    Calls Try.prog 43 #[] w fun e w' => ∃ v0_ : Value, e = .returned (v0_) ∧ Kd.R k54 54 w' w.heap.size (fun _ => True) v0_ r ∧ Below w.heap.size w w' := by
  have hu54 := Try.underlying54
  have HB := Aside0.mk (Below.refl w.heap.size w)
  have H : (some (([(⟨1025, 1025, 1⟩ : S54), (⟨1040, 1103, 1⟩ : S54), (⟨1105, 1105, 1⟩ : S54), (⟨1488, 1514, 1⟩ : S54), (⟨1632, 1641, 2⟩ : S54), (⟨4352, 4370, 1⟩ : S54), (⟨4449, 4469, 1⟩ : S54), (⟨4520, 4546, 1⟩ : S54), (⟨8192, 8202, 5⟩ : S54), (⟨8203, 8207, 6⟩ : S54), (⟨8208, 8209, 4⟩ : S54), (⟨8232, 8233, 5⟩ : S54), (⟨8234, 8238, 6⟩ : S54), (⟨8239, 8239, 5⟩ : S54), (⟨8260, 8260, 4⟩ : S54), (⟨8287, 8287, 5⟩ : S54), (⟨8288, 8291, 6⟩ : S54), (⟨8298, 8303, 6⟩ : S54), (⟨8304, 8304, 2⟩ : S54), (⟨8308, 8313, 2⟩ : S54), (⟨8320, 8329, 2⟩ : S54), (⟨8486, 8486, 1⟩ : S54), (⟨8490, 8491, 1⟩ : S54), (⟨8544, 8555, 1⟩ : S54), (⟨8560, 8571, 1⟩ : S54), (⟨8722, 8722, 4⟩ : S54), (⟨12288, 12288, 5⟩ : S54), (⟨12353, 12436, 1⟩ : S54), (⟨12441, 12442, 3⟩ : S54), (⟨19968, 20223, 1⟩ : S54), (⟨44032, 55203, 1⟩ : S54), (⟨57344, 63743, 7⟩ : S54), (⟨64256, 64261, 1⟩ : S54), (⟨64976, 65007, 7⟩ : S54), (⟨65024, 65039, 6⟩ : S54), (⟨65279, 65279, 6⟩ : S54), (⟨65281, 65295, 4⟩ : S54), (⟨65296, 65305, 2⟩ : S54), (⟨65306, 65312, 4⟩ : S54), (⟨65313, 65338, 1⟩ : S54), (⟨65339, 65344, 4⟩ : S54), (⟨65345, 65370, 1⟩ : S54), (⟨65371, 65374, 4⟩ : S54), (⟨65529, 65532, 6⟩ : S54), (⟨65533, 65535, 7⟩ : S54)] : List (S54)))) = some r := h
  clear h
  obtain ⟨y167, hy167⟩ : ∃ y_ : List (S54), y_ = (([(⟨1025, 1025, 1⟩ : S54), (⟨1040, 1103, 1⟩ : S54), (⟨1105, 1105, 1⟩ : S54), (⟨1488, 1514, 1⟩ : S54), (⟨1632, 1641, 2⟩ : S54), (⟨4352, 4370, 1⟩ : S54), (⟨4449, 4469, 1⟩ : S54), (⟨4520, 4546, 1⟩ : S54), (⟨8192, 8202, 5⟩ : S54), (⟨8203, 8207, 6⟩ : S54), (⟨8208, 8209, 4⟩ : S54), (⟨8232, 8233, 5⟩ : S54), (⟨8234, 8238, 6⟩ : S54), (⟨8239, 8239, 5⟩ : S54), (⟨8260, 8260, 4⟩ : S54), (⟨8287, 8287, 5⟩ : S54), (⟨8288, 8291, 6⟩ : S54), (⟨8298, 8303, 6⟩ : S54), (⟨8304, 8304, 2⟩ : S54), (⟨8308, 8313, 2⟩ : S54), (⟨8320, 8329, 2⟩ : S54), (⟨8486, 8486, 1⟩ : S54), (⟨8490, 8491, 1⟩ : S54), (⟨8544, 8555, 1⟩ : S54), (⟨8560, 8571, 1⟩ : S54), (⟨8722, 8722, 4⟩ : S54), (⟨12288, 12288, 5⟩ : S54), (⟨12353, 12436, 1⟩ : S54), (⟨12441, 12442, 3⟩ : S54), (⟨19968, 20223, 1⟩ : S54), (⟨44032, 55203, 1⟩ : S54), (⟨57344, 63743, 7⟩ : S54), (⟨64256, 64261, 1⟩ : S54), (⟨64976, 65007, 7⟩ : S54), (⟨65024, 65039, 6⟩ : S54), (⟨65279, 65279, 6⟩ : S54), (⟨65281, 65295, 4⟩ : S54), (⟨65296, 65305, 2⟩ : S54), (⟨65306, 65312, 4⟩ : S54), (⟨65313, 65338, 1⟩ : S54), (⟨65339, 65344, 4⟩ : S54), (⟨65345, 65370, 1⟩ : S54), (⟨65371, 65374, 4⟩ : S54), (⟨65529, 65532, 6⟩ : S54), (⟨65533, 65535, 7⟩ : S54)] : List (S54))) := ⟨_, rfl⟩
  replace H : (some y167) = some r := by first | (rw [hy167]; with_reducible exact H) | (have H2_ := (Option.bind_some _ _).symm.trans H; rw [hy167]; with_reducible exact H2_) | (have H2_ := (Option.bind_some _ _).symm.trans H; with_reducible exact H2_) | with_reducible exact H | (rw [hy167]; exact H) | exact H
  have Ny167 := Aside0.mk hy167
  clear hy167
  obtain rfl := Option.some.inj H
  go_enter Try.func43, Try.ntmps43
  go_wp2_with (first | ((with_reducible refine gate_dst (N := 46) rfl ?_); refine Kd.R_lit k54 _ 54 ?hg (N := 46) ?hd (xs := ([(⟨1025, 1025, 1⟩ : S54), (⟨1040, 1103, 1⟩ : S54), (⟨1105, 1105, 1⟩ : S54), (⟨1488, 1514, 1⟩ : S54), (⟨1632, 1641, 2⟩ : S54), (⟨4352, 4370, 1⟩ : S54), (⟨4449, 4469, 1⟩ : S54), (⟨4520, 4546, 1⟩ : S54), (⟨8192, 8202, 5⟩ : S54), (⟨8203, 8207, 6⟩ : S54), (⟨8208, 8209, 4⟩ : S54), (⟨8232, 8233, 5⟩ : S54), (⟨8234, 8238, 6⟩ : S54), (⟨8239, 8239, 5⟩ : S54), (⟨8260, 8260, 4⟩ : S54), (⟨8287, 8287, 5⟩ : S54), (⟨8288, 8291, 6⟩ : S54), (⟨8298, 8303, 6⟩ : S54), (⟨8304, 8304, 2⟩ : S54), (⟨8308, 8313, 2⟩ : S54), (⟨8320, 8329, 2⟩ : S54), (⟨8486, 8486, 1⟩ : S54), (⟨8490, 8491, 1⟩ : S54), (⟨8544, 8555, 1⟩ : S54), (⟨8560, 8571, 1⟩ : S54), (⟨8722, 8722, 4⟩ : S54), (⟨12288, 12288, 5⟩ : S54), (⟨12353, 12436, 1⟩ : S54), (⟨12441, 12442, 3⟩ : S54), (⟨19968, 20223, 1⟩ : S54), (⟨44032, 55203, 1⟩ : S54), (⟨57344, 63743, 7⟩ : S54), (⟨64256, 64261, 1⟩ : S54), (⟨64976, 65007, 7⟩ : S54), (⟨65024, 65039, 6⟩ : S54), (⟨65279, 65279, 6⟩ : S54), (⟨65281, 65295, 4⟩ : S54), (⟨65296, 65305, 2⟩ : S54), (⟨65306, 65312, 4⟩ : S54), (⟨65313, 65338, 1⟩ : S54), (⟨65339, 65344, 4⟩ : S54), (⟨65345, 65370, 1⟩ : S54), (⟨65371, 65374, 4⟩ : S54), (⟨65529, 65532, 6⟩ : S54), (⟨65533, 65535, 7⟩ : S54)] : List (S54))) (inner := [.int .i32 1025, .int .i32 1025, .int .i64 1, .int .i32 1040, .int .i32 1103, .int .i64 1, .int .i32 1105, .int .i32 1105, .int .i64 1, .int .i32 1488, .int .i32 1514, .int .i64 1, .int .i32 1632, .int .i32 1641, .int .i64 2, .int .i32 4352, .int .i32 4370, .int .i64 1, .int .i32 4449, .int .i32 4469, .int .i64 1, .int .i32 4520, .int .i32 4546, .int .i64 1, .int .i32 8192, .int .i32 8202, .int .i64 5, .int .i32 8203, .int .i32 8207, .int .i64 6, .int .i32 8208, .int .i32 8209, .int .i64 4, .int .i32 8232, .int .i32 8233, .int .i64 5, .int .i32 8234, .int .i32 8238, .int .i64 6, .int .i32 8239, .int .i32 8239, .int .i64 5, .int .i32 8260, .int .i32 8260, .int .i64 4, .int .i32 8287, .int .i32 8287, .int .i64 5, .int .i32 8288, .int .i32 8291, .int .i64 6, .int .i32 8298, .int .i32 8303, .int .i64 6, .int .i32 8304, .int .i32 8304, .int .i64 2, .int .i32 8308, .int .i32 8313, .int .i64 2, .int .i32 8320, .int .i32 8329, .int .i64 2, .int .i32 8486, .int .i32 8486, .int .i64 1, .int .i32 8490, .int .i32 8491, .int .i64 1, .int .i32 8544, .int .i32 8555, .int .i64 1, .int .i32 8560, .int .i32 8571, .int .i64 1, .int .i32 8722, .int .i32 8722, .int .i64 4, .int .i32 12288, .int .i32 12288, .int .i64 5, .int .i32 12353, .int .i32 12436, .int .i64 1, .int .i32 12441, .int .i32 12442, .int .i64 3, .int .i32 19968, .int .i32 20223, .int .i64 1, .int .i32 44032, .int .i32 55203, .int .i64 1, .int .i32 57344, .int .i32 63743, .int .i64 7, .int .i32 64256, .int .i32 64261, .int .i64 1, .int .i32 64976, .int .i32 65007, .int .i64 7, .int .i32 65024, .int .i32 65039, .int .i64 6, .int .i32 65279, .int .i32 65279, .int .i64 6, .int .i32 65281, .int .i32 65295, .int .i64 4, .int .i32 65296, .int .i32 65305, .int .i64 2, .int .i32 65306, .int .i32 65312, .int .i64 4, .int .i32 65313, .int .i32 65338, .int .i64 1, .int .i32 65339, .int .i32 65344, .int .i64 4, .int .i32 65345, .int .i32 65370, .int .i64 1, .int .i32 65371, .int .i32 65374, .int .i64 4, .int .i32 65529, .int .i32 65532, .int .i64 6, .int .i32 65533, .int .i32 65535, .int .i64 7]) (ok := fun _ => True) (okp := fun _ => True) ?hr ?hp (fun _ hk => hk) trivial (Below.refl _ _) (Nat.le_refl _) (by simp) ?_; (case hd => rfl); (case hg => rfl); (case hr => kernel_rfl); (case hp => exact (Reps.c3 (show Kd.M k54 _ _ _ (⟨1025, 1025, 1⟩ : S54) [.int .i32 1025, .int .i32 1025, .int .i64 1] from (k54_mkM _ _ _ (⟨1025, 1025, 1⟩ : S54) )) (Reps.c3 (show Kd.M k54 _ _ _ (⟨1040, 1103, 1⟩ : S54) [.int .i32 1040, .int .i32 1103, .int .i64 1] from (k54_mkM _ _ _ (⟨1040, 1103, 1⟩ : S54) )) (Reps.c3 (show Kd.M k54 _ _ _ (⟨1105, 1105, 1⟩ : S54) [.int .i32 1105, .int .i32 1105, .int .i64 1] from (k54_mkM _ _ _ (⟨1105, 1105, 1⟩ : S54) )) (Reps.c3 (show Kd.M k54 _ _ _ (⟨1488, 1514, 1⟩ : S54) [.int .i32 1488, .int .i32 1514, .int .i64 1] from (k54_mkM _ _ _ (⟨1488, 1514, 1⟩ : S54) )) (Reps.c3 (show Kd.M k54 _ _ _ (⟨1632, 1641, 2⟩ : S54) [.int .i32 1632, .int .i32 1641, .int .i64 2] from (k54_mkM _ _ _ (⟨1632, 1641, 2⟩ : S54) )) (Reps.c3 (show Kd.M k54 _ _ _ (⟨4352, 4370, 1⟩ : S54) [.int .i32 4352, .int .i32 4370, .int .i64 1] from (k54_mkM _ _ _ (⟨4352, 4370, 1⟩ : S54) )) (Reps.c3 (show Kd.M k54 _ _ _ (⟨4449, 4469, 1⟩ : S54) [.int .i32 4449, .int .i32 4469, .int .i64 1] from (k54_mkM _ _ _ (⟨4449, 4469, 1⟩ : S54) )) (Reps.c3 (show Kd.M k54 _ _ _ (⟨4520, 4546, 1⟩ : S54) [.int .i32 4520, .int .i32 4546, .int .i64 1] from (k54_mkM _ _ _ (⟨4520, 4546, 1⟩ : S54) )) (Reps.c3 (show Kd.M k54 _ _ _ (⟨8192, 8202, 5⟩ : S54) [.int .i32 8192, .int .i32 8202, .int .i64 5] from (k54_mkM _ _ _ (⟨8192, 8202, 5⟩ : S54) )) (Reps.c3 (show Kd.M k54 _ _ _ (⟨8203, 8207, 6⟩ : S54) [.int .i32 8203, .int .i32 8207, .int .i64 6] from (k54_mkM _ _ _ (⟨8203, 8207, 6⟩ : S54) )) (Reps.c3 (show Kd.M k54 _ _ _ (⟨8208, 8209, 4⟩ : S54) [.int .i32 8208, .int .i32 8209, .int .i64 4] from (k54_mkM _ _ _ (⟨8208, 8209, 4⟩ : S54) )) (Reps.c3 (show Kd.M k54 _ _ _ (⟨8232, 8233, 5⟩ : S54) [.int .i32 8232, .int .i32 8233, .int .i64 5] from (k54_mkM _ _ _ (⟨8232, 8233, 5⟩ : S54) )) (Reps.c3 (show Kd.M k54 _ _ _ (⟨8234, 8238, 6⟩ : S54) [.int .i32 8234, .int .i32 8238, .int .i64 6] from (k54_mkM _ _ _ (⟨8234, 8238, 6⟩ : S54) )) (Reps.c3 (show Kd.M k54 _ _ _ (⟨8239, 8239, 5⟩ : S54) [.int .i32 8239, .int .i32 8239, .int .i64 5] from (k54_mkM _ _ _ (⟨8239, 8239, 5⟩ : S54) )) (Reps.c3 (show Kd.M k54 _ _ _ (⟨8260, 8260, 4⟩ : S54) [.int .i32 8260, .int .i32 8260, .int .i64 4] from (k54_mkM _ _ _ (⟨8260, 8260, 4⟩ : S54) )) (Reps.c3 (show Kd.M k54 _ _ _ (⟨8287, 8287, 5⟩ : S54) [.int .i32 8287, .int .i32 8287, .int .i64 5] from (k54_mkM _ _ _ (⟨8287, 8287, 5⟩ : S54) )) (Reps.c3 (show Kd.M k54 _ _ _ (⟨8288, 8291, 6⟩ : S54) [.int .i32 8288, .int .i32 8291, .int .i64 6] from (k54_mkM _ _ _ (⟨8288, 8291, 6⟩ : S54) )) (Reps.c3 (show Kd.M k54 _ _ _ (⟨8298, 8303, 6⟩ : S54) [.int .i32 8298, .int .i32 8303, .int .i64 6] from (k54_mkM _ _ _ (⟨8298, 8303, 6⟩ : S54) )) (Reps.c3 (show Kd.M k54 _ _ _ (⟨8304, 8304, 2⟩ : S54) [.int .i32 8304, .int .i32 8304, .int .i64 2] from (k54_mkM _ _ _ (⟨8304, 8304, 2⟩ : S54) )) (Reps.c3 (show Kd.M k54 _ _ _ (⟨8308, 8313, 2⟩ : S54) [.int .i32 8308, .int .i32 8313, .int .i64 2] from (k54_mkM _ _ _ (⟨8308, 8313, 2⟩ : S54) )) (Reps.c3 (show Kd.M k54 _ _ _ (⟨8320, 8329, 2⟩ : S54) [.int .i32 8320, .int .i32 8329, .int .i64 2] from (k54_mkM _ _ _ (⟨8320, 8329, 2⟩ : S54) )) (Reps.c3 (show Kd.M k54 _ _ _ (⟨8486, 8486, 1⟩ : S54) [.int .i32 8486, .int .i32 8486, .int .i64 1] from (k54_mkM _ _ _ (⟨8486, 8486, 1⟩ : S54) )) (Reps.c3 (show Kd.M k54 _ _ _ (⟨8490, 8491, 1⟩ : S54) [.int .i32 8490, .int .i32 8491, .int .i64 1] from (k54_mkM _ _ _ (⟨8490, 8491, 1⟩ : S54) )) (Reps.c3 (show Kd.M k54 _ _ _ (⟨8544, 8555, 1⟩ : S54) [.int .i32 8544, .int .i32 8555, .int .i64 1] from (k54_mkM _ _ _ (⟨8544, 8555, 1⟩ : S54) )) (Reps.c3 (show Kd.M k54 _ _ _ (⟨8560, 8571, 1⟩ : S54) [.int .i32 8560, .int .i32 8571, .int .i64 1] from (k54_mkM _ _ _ (⟨8560, 8571, 1⟩ : S54) )) (Reps.c3 (show Kd.M k54 _ _ _ (⟨8722, 8722, 4⟩ : S54) [.int .i32 8722, .int .i32 8722, .int .i64 4] from (k54_mkM _ _ _ (⟨8722, 8722, 4⟩ : S54) )) (Reps.c3 (show Kd.M k54 _ _ _ (⟨12288, 12288, 5⟩ : S54) [.int .i32 12288, .int .i32 12288, .int .i64 5] from (k54_mkM _ _ _ (⟨12288, 12288, 5⟩ : S54) )) (Reps.c3 (show Kd.M k54 _ _ _ (⟨12353, 12436, 1⟩ : S54) [.int .i32 12353, .int .i32 12436, .int .i64 1] from (k54_mkM _ _ _ (⟨12353, 12436, 1⟩ : S54) )) (Reps.c3 (show Kd.M k54 _ _ _ (⟨12441, 12442, 3⟩ : S54) [.int .i32 12441, .int .i32 12442, .int .i64 3] from (k54_mkM _ _ _ (⟨12441, 12442, 3⟩ : S54) )) (Reps.c3 (show Kd.M k54 _ _ _ (⟨19968, 20223, 1⟩ : S54) [.int .i32 19968, .int .i32 20223, .int .i64 1] from (k54_mkM _ _ _ (⟨19968, 20223, 1⟩ : S54) )) (Reps.c3 (show Kd.M k54 _ _ _ (⟨44032, 55203, 1⟩ : S54) [.int .i32 44032, .int .i32 55203, .int .i64 1] from (k54_mkM _ _ _ (⟨44032, 55203, 1⟩ : S54) )) (Reps.c3 (show Kd.M k54 _ _ _ (⟨57344, 63743, 7⟩ : S54) [.int .i32 57344, .int .i32 63743, .int .i64 7] from (k54_mkM _ _ _ (⟨57344, 63743, 7⟩ : S54) )) (Reps.c3 (show Kd.M k54 _ _ _ (⟨64256, 64261, 1⟩ : S54) [.int .i32 64256, .int .i32 64261, .int .i64 1] from (k54_mkM _ _ _ (⟨64256, 64261, 1⟩ : S54) )) (Reps.c3 (show Kd.M k54 _ _ _ (⟨64976, 65007, 7⟩ : S54) [.int .i32 64976, .int .i32 65007, .int .i64 7] from (k54_mkM _ _ _ (⟨64976, 65007, 7⟩ : S54) )) (Reps.c3 (show Kd.M k54 _ _ _ (⟨65024, 65039, 6⟩ : S54) [.int .i32 65024, .int .i32 65039, .int .i64 6] from (k54_mkM _ _ _ (⟨65024, 65039, 6⟩ : S54) )) (Reps.c3 (show Kd.M k54 _ _ _ (⟨65279, 65279, 6⟩ : S54) [.int .i32 65279, .int .i32 65279, .int .i64 6] from (k54_mkM _ _ _ (⟨65279, 65279, 6⟩ : S54) )) (Reps.c3 (show Kd.M k54 _ _ _ (⟨65281, 65295, 4⟩ : S54) [.int .i32 65281, .int .i32 65295, .int .i64 4] from (k54_mkM _ _ _ (⟨65281, 65295, 4⟩ : S54) )) (Reps.c3 (show Kd.M k54 _ _ _ (⟨65296, 65305, 2⟩ : S54) [.int .i32 65296, .int .i32 65305, .int .i64 2] from (k54_mkM _ _ _ (⟨65296, 65305, 2⟩ : S54) )) (Reps.c3 (show Kd.M k54 _ _ _ (⟨65306, 65312, 4⟩ : S54) [.int .i32 65306, .int .i32 65312, .int .i64 4] from (k54_mkM _ _ _ (⟨65306, 65312, 4⟩ : S54) )) (Reps.c3 (show Kd.M k54 _ _ _ (⟨65313, 65338, 1⟩ : S54) [.int .i32 65313, .int .i32 65338, .int .i64 1] from (k54_mkM _ _ _ (⟨65313, 65338, 1⟩ : S54) )) (Reps.c3 (show Kd.M k54 _ _ _ (⟨65339, 65344, 4⟩ : S54) [.int .i32 65339, .int .i32 65344, .int .i64 4] from (k54_mkM _ _ _ (⟨65339, 65344, 4⟩ : S54) )) (Reps.c3 (show Kd.M k54 _ _ _ (⟨65345, 65370, 1⟩ : S54) [.int .i32 65345, .int .i32 65370, .int .i64 1] from (k54_mkM _ _ _ (⟨65345, 65370, 1⟩ : S54) )) (Reps.c3 (show Kd.M k54 _ _ _ (⟨65371, 65374, 4⟩ : S54) [.int .i32 65371, .int .i32 65374, .int .i64 4] from (k54_mkM _ _ _ (⟨65371, 65374, 4⟩ : S54) )) (Reps.c3 (show Kd.M k54 _ _ _ (⟨65529, 65532, 6⟩ : S54) [.int .i32 65529, .int .i32 65532, .int .i64 6] from (k54_mkM _ _ _ (⟨65529, 65532, 6⟩ : S54) )) (Reps.c3 (show Kd.M k54 _ _ _ (⟨65533, 65535, 7⟩ : S54) [.int .i32 65533, .int .i32 65535, .int .i64 7] from (k54_mkM _ _ _ (⟨65533, 65535, 7⟩ : S54) )) (Reps.none _ _))))))))))))))))))))))))))))))))))))))))))))))); intro v168 w1 ho2 hb hg_ hnew_; clear hg_ hnew_; (first | rw [← Ny167.out] at ho2 | (simp only [Int.reduceToNat] at ho2; rw [← Ny167.out] at ho2)); have n0_ := Aside0.mk (Kd.R_lower ho2 (below_size (by repeat (first | (with_reducible first | exact HB.out | apply below_alloc | apply pw_below_drewN | apply below_drew1) | exact HB.out)))); have n1_ := Aside0.mk (below_step (by repeat (first | (with_reducible first | exact HB.out | apply below_alloc | apply pw_below_drewN | apply below_drew1) | exact HB.out)) hb); clear HB; have HO169 := n0_; have HB := n1_; clear n0_ n1_; clear hb ho2))
  go_ret
  exact ⟨_, by first | rfl | (simp [errW_none, errW_some] <;> rfl) | (simp [*, errW_none, errW_some] <;> rfl), by (with_reducible repeat (first | apply Kd.R_alloc | apply Kd.R_drewN | apply Kd.R_drew)); exact HO169.out, by repeat (first | (with_reducible first | exact HB.out | apply below_alloc | apply pw_below_drewN | apply below_drew1) | exact HB.out)⟩

/-! ### toponymref03_planes: function 44 -/
def toponymref03_planes.l0 : Nat → List (S54) → Int → Option ((List (S54)))
  | 0, _, _ => none
  | k + 1, x1, x2 => if x2 ≤ 16 then (if x1.length < 8796093022208 then (toponymref03_planes.l0 k (x1 ++ [(⟨wrap32 (wrap64 ((wrap64 (65536 * x2)) + 65534)), wrap32 ((wrap32 (wrap64 ((wrap64 (65536 * x2)) + 65534))) + 1), 7⟩ : S54)]) (wrap64 (x2 + 1))) else (none)) else (some x1)
def toponymref03_planes.f (k : Nat)  : Option ((List (S54))) := toponymref03_planes.l0 k ([] : List (S54)) 1
theorem toponymref03_planes.mono_l : ∀ k, (∀ y0 y1, LeO (toponymref03_planes.l0 k y0 y1) (toponymref03_planes.l0 (k + 1) y0 y1))
  | 0 => fun _ _ r h => by simp [toponymref03_planes.l0] at h
  | k + 1 => by
    have ih0 := toponymref03_planes.mono_l k
    · intro y0 y1
      unfold toponymref03_planes.l0
      repeat' first
      | (with_reducible exact ih0 _ _)
      | (with_reducible exact LeO.refl _)
      | (with_reducible exact LeO.none _)
      | (with_reducible refine LeO.ite ?_ ?_)
      | (with_reducible refine LeO.bind ?_ (fun _ => ?_))
      | exact ih0 _ _
      | exact LeO.none _
      | refine LeO.ite ?_ ?_
      | refine LeO.bind ?_ (fun _ => ?_)
theorem toponymref03_planes.mono : ∀ k, LeO (toponymref03_planes.f k ) (toponymref03_planes.f (k + 1) ) := by
  intro  k
  have ih0 := toponymref03_planes.mono_l k
  unfold toponymref03_planes.f
  repeat' first
      | (with_reducible exact ih0 _ _)
      | (with_reducible exact LeO.refl _)
      | (with_reducible exact LeO.none _)
      | (with_reducible refine LeO.ite ?_ ?_)
      | (with_reducible refine LeO.bind ?_ (fun _ => ?_))
      | exact ih0 _ _
      | exact LeO.none _
      | refine LeO.ite ?_ ?_
      | refine LeO.bind ?_ (fun _ => ?_)
set_option maxHeartbeats 8000000 in
set_option maxRecDepth 100000 in
theorem toponymref03_planes.calls (k : Nat)  (r : List (S54)) (w : World) (h : toponymref03_planes.f k  = some r) :
    Calls Try.prog 44 #[] w fun e w' => ∃ v0_ : Value, e = .returned (v0_) ∧ Kd.R k54 54 w' w.heap.size (fun _ => True) v0_ r ∧ Below w.heap.size w w' := by
  have hu54 := Try.underlying54
  have HB := Aside0.mk (Below.refl w.heap.size w)
  have H : (toponymref03_planes.l0 k ([] : List (S54)) 1) = some r := h
  clear h
  have H' := Aside0.mk H
  clear H
  go_enter Try.func44, Try.ntmps44
  go_wp2
  go_loopg [1, 2] k (fun kq v1 v2 w' => ∃ (x1_1 : List (S54)) (x2_1 : Int), v2 = .int .i64 x2_1 ∧ Aside0 (toponymref03_planes.l0 kq x1_1 x2_1 = some r) ∧ Aside0 (kq ≤ k) ∧ Aside0 (Kd.R k54 54 w' w.heap.size (fun _ => True) v1 x1_1) ∧ Aside0 (Below w.heap.size w w'))
  case atStart => exact ⟨(([] : List (S54))), (1), (by first | rfl | (simp; done) | (simp [*]; done)), H', ⟨Nat.le_refl _⟩, ⟨by first | exact Kd.R_nil _ _ _ _ _ | exact Kd.N_nil _ _ _ _ _ | exact Kd.V_nil _ _ _ _ _ | exact Kd.Q_nil _ _ _ _ _ | exact Kd.S_nil _ _ _ _ _⟩, ⟨by repeat (first | (with_reducible first | exact HB.out | apply below_alloc | apply pw_below_drewN | apply below_drew1) | exact HB.out)⟩⟩
  case round =>
    clear H'
    obtain ⟨x1_1, x2_1, rfl, HA, HK1, HO_1, HB⟩ := hrel
    cases gk with
    | zero => exact absurd HA.out (by simp [toponymref03_planes.l0])
    | succ k1 =>
      have H := HA.out
      clear HA
      simp only [toponymref03_planes.l0] at H
      by_cases c1 : x2_1 ≤ 16
      · rw [if_pos c1] at H
        have c1b0 : decide (x2_1 ≤ 16) = true := decide_eq_true c1
        clear c1
        by_cases c2 : x1_1.length < 8796093022208
        · rw [if_pos c2] at H
          have LMc2 := Aside0.mk c2
          clear c2
          obtain ⟨y170, hy170⟩ : ∃ y_ : List (S54), y_ = (x1_1 ++ [(⟨wrap32 (wrap64 ((wrap64 (65536 * x2_1)) + 65534)), wrap32 ((wrap32 (wrap64 ((wrap64 (65536 * x2_1)) + 65534))) + 1), 7⟩ : S54)]) := ⟨_, rfl⟩
          replace H : (toponymref03_planes.l0 k1 y170 (wrap64 (x2_1 + 1))) = some r := by first | (rw [hy170]; with_reducible exact H) | (have H2_ := (Option.bind_some _ _).symm.trans H; rw [hy170]; with_reducible exact H2_) | (have H2_ := (Option.bind_some _ _).symm.trans H; with_reducible exact H2_) | with_reducible exact H | (rw [hy170]; exact H) | exact H
          have Ny170 := Aside0.mk hy170
          clear hy170
          have H' := Aside0.mk H
          clear H
          go_wp2_with (first | ((with_reducible refine gate_builtin (b := .append) (xs := #[.tmp 12, .tmp 17]) rfl ?_); at_builtin; refine Kd.R_append k54 (w0 := w) w.heap.size rfl (.tmp 12) (.tmp 17) 51 54 (.agg #[(.int .i32 0), (.int .i32 0), (.int .i64 0)]) 16 rfl Try.underlying51 info54 rfl (by decide) (by omega) u1 x1_1 (⟨wrap32 (wrap64 ((wrap64 (65536 * x2_1)) + 65534)), wrap32 ((wrap32 (wrap64 ((wrap64 (65536 * x2_1)) + 65534))) + 1), 7⟩ : S54) [.int .i32 (wrap32 (wrap64 ((wrap64 (65536 * x2_1)) + 65534))), .int .i32 (wrap32 ((wrap32 (wrap64 ((wrap64 (65536 * x2_1)) + 65534))) + 1)), .int .i64 7] (fun _ => True) (fun _ => False) rfl rfl ?aP (fun _ hk => hk.elim) ?aF ?aO ?aB ?aS ?aL ?_; (case aP => exact k54_mkM _ _ _ (⟨wrap32 (wrap64 ((wrap64 (65536 * x2_1)) + 65534)), wrap32 ((wrap32 (wrap64 ((wrap64 (65536 * x2_1)) + 65534))) + 1), 7⟩ : S54)); (case aB => exact (by repeat (first | (with_reducible first | exact HB.out | apply below_alloc | apply pw_below_drewN | apply below_drew1) | exact HB.out))); (case aF => exact (fun _ _ => trivial)); (case aO => exact (by (with_reducible repeat (first | apply Kd.R_alloc | apply Kd.R_drewN | apply Kd.R_drew)); exact HO_1.out)); (case aS => exact (below_size (by repeat (first | (with_reducible first | exact HB.out | apply below_alloc | apply pw_below_drewN | apply below_drew1) | exact HB.out)))); (case aL => have := LMc2.out; omega); intro v171 w3 ho hb hg hat; rw [← Ny170.out] at ho; have n0_ := Aside0.mk (hb); have n1_ := Aside0.mk (ho); clear HB; clear HO_1; have HB := n0_; have HO172 := n1_; clear n0_ n1_; clear ho hb hg hat))
          go_roundg k1
          case measure => have := HK1.out; omega
          case rel => exact ⟨(y170), (wrap64 (x2_1 + 1)), (by first | rfl | (simp; done) | (simp [*]; done)), H', ⟨by have := HK1.out; omega⟩, ⟨by (with_reducible repeat (first | apply Kd.R_alloc | apply Kd.R_drewN | apply Kd.R_drew)); exact HO172.out⟩, ⟨by repeat (first | (with_reducible first | exact HB.out | apply below_alloc | apply pw_below_drewN | apply below_drew1) | exact HB.out)⟩⟩
        · rw [if_neg c2] at H
          exact absurd H (by simp)
      · rw [if_neg c1] at H
        have c1b0 : decide (x2_1 ≤ 16) = false := decide_eq_false c1
        clear c1
        obtain rfl := Option.some.inj H
        go_wp2
        go_ret
        exact ⟨_, by first | rfl | (simp [errW_none, errW_some] <;> rfl) | (simp [*, errW_none, errW_some] <;> rfl), by (with_reducible repeat (first | apply Kd.R_alloc | apply Kd.R_drewN | apply Kd.R_drew)); exact HO_1.out, by repeat (first | (with_reducible first | exact HB.out | apply below_alloc | apply pw_below_drewN | apply below_drew1) | exact HB.out)⟩

/-! ### toponymref03_Rows: function 28 -/
def toponymref03_Rows.f (k : Nat)  : Option ((List (S54))) := (toponymref03_lower.f).bind fun t173 => ((toponymref03_upper.f).bind fun t176 => (if t173.length + t176.length < 8796093022208 then ((some (t173 ++ t176 : List (S54))).bind fun y179 => ((toponymref03_planes.f k).bind fun t182 => (if y179.length + t182.length < 8796093022208 then (some (y179 ++ t182)) else (none)))) else (none)))
theorem toponymref03_Rows.mono : ∀ k, LeO (toponymref03_Rows.f k ) (toponymref03_Rows.f (k + 1) ) := by
  intro  k
  unfold toponymref03_Rows.f
  repeat' first
      | (with_reducible exact toponymref03_planes.mono _)
      | (with_reducible exact LeO.refl _)
      | (with_reducible exact LeO.none _)
      | (with_reducible refine LeO.ite ?_ ?_)
      | (with_reducible refine LeO.bind ?_ (fun _ => ?_))
      | exact toponymref03_planes.mono _
      | exact LeO.none _
      | refine LeO.ite ?_ ?_
      | refine LeO.bind ?_ (fun _ => ?_)
set_option maxHeartbeats 8000000 in
set_option maxRecDepth 100000 in
theorem toponymref03_Rows.calls (k : Nat)  (r : List (S54)) (w : World) (h : toponymref03_Rows.f k  = some r) :
    Calls Try.prog 28 #[] w fun e w' => ∃ v0_ : Value, e = .returned (v0_) ∧ Kd.R k54 54 w' w.heap.size (fun _ => True) v0_ r ∧ Below w.heap.size w w' := by
  have HB := Aside0.mk (Below.refl w.heap.size w)
  have H : ((toponymref03_lower.f).bind fun t173 => ((toponymref03_upper.f).bind fun t176 => (if t173.length + t176.length < 8796093022208 then ((some (t173 ++ t176 : List (S54))).bind fun y179 => ((toponymref03_planes.f k).bind fun t182 => (if y179.length + t182.length < 8796093022208 then (some (y179 ++ t182)) else (none)))) else (none)))) = some r := h
  clear h
  replace H := Option.bind_eq_some_iff.mp H
  obtain ⟨t173, A10, H⟩ := H
  replace H : ((toponymref03_upper.f).bind fun t176 => (if t173.length + t176.length < 8796093022208 then ((some (t173 ++ t176 : List (S54))).bind fun y179 => ((toponymref03_planes.f k).bind fun t182 => (if y179.length + t182.length < 8796093022208 then (some (y179 ++ t182)) else (none)))) else (none))) = some r := H
  have A1 := Aside0.mk A10
  clear A10
  replace H := Option.bind_eq_some_iff.mp H
  obtain ⟨t176, A20, H⟩ := H
  replace H : (if t173.length + t176.length < 8796093022208 then ((some (t173 ++ t176 : List (S54))).bind fun y179 => ((toponymref03_planes.f k).bind fun t182 => (if y179.length + t182.length < 8796093022208 then (some (y179 ++ t182)) else (none)))) else (none)) = some r := H
  have A2 := Aside0.mk A20
  clear A20
  by_cases c3 : t173.length + t176.length < 8796093022208
  · rw [if_pos c3] at H
    have LMc3 := Aside0.mk c3
    clear c3
    obtain ⟨y179, hy179⟩ : ∃ y_ : List (S54), y_ = (t173 ++ t176) := ⟨_, rfl⟩
    replace H : ((toponymref03_planes.f k).bind fun t182 => (if y179.length + t182.length < 8796093022208 then (some (y179 ++ t182)) else (none))) = some r := by first | (rw [hy179]; with_reducible exact H) | (have H2_ := (Option.bind_some _ _).symm.trans H; rw [hy179]; with_reducible exact H2_) | (have H2_ := (Option.bind_some _ _).symm.trans H; with_reducible exact H2_) | with_reducible exact H | (rw [hy179]; exact H) | exact H
    have Ny179 := Aside0.mk hy179
    clear hy179
    replace H := Option.bind_eq_some_iff.mp H
    obtain ⟨t182, A40, H⟩ := H
    replace H : (if y179.length + t182.length < 8796093022208 then (some (y179 ++ t182)) else (none)) = some r := H
    have A4 := Aside0.mk A40
    clear A40
    by_cases c5 : y179.length + t182.length < 8796093022208
    · rw [if_pos c5] at H
      have LMc5 := Aside0.mk c5
      clear c5
      obtain ⟨y185, hy185⟩ : ∃ y_ : List (S54), y_ = (y179 ++ t182) := ⟨_, rfl⟩
      replace H : (some y185) = some r := by first | (rw [hy185]; with_reducible exact H) | (have H2_ := (Option.bind_some _ _).symm.trans H; rw [hy185]; with_reducible exact H2_) | (have H2_ := (Option.bind_some _ _).symm.trans H; with_reducible exact H2_) | with_reducible exact H | (rw [hy185]; exact H) | exact H
      have Ny185 := Aside0.mk hy185
      clear hy185
      obtain rfl := Option.some.inj H
      go_enter Try.func28, Try.ntmps28
      go_wp2_with (first | ((with_reducible refine gate_callee (f := 42) rfl ?_); refine goesL_ (some 1) rfl rfl Try.func42 (by kernel_rfl) rfl #[] rfl (by (try simp only [List.map_toArray, List.map_cons, List.map_nil]); first | done | rfl | (simp only [List.length_drop, List.length_take]; rfl)) ?_; (with_reducible refine (toponymref03_lower.calls  t173 _ A1.out).mono ?_); rintro e w6 ⟨v174, rfl, ho0, hb⟩; refine ⟨_, rfl, ?_⟩; have n0_ := Aside0.mk (Kd.R_lower ho0 (below_size (by repeat (first | (with_reducible first | exact HB.out | apply below_alloc | apply pw_below_drewN | apply below_drew1) | exact HB.out)))); have n1_ := Aside0.mk (below_step (by repeat (first | (with_reducible first | exact HB.out | apply below_alloc | apply pw_below_drewN | apply below_drew1) | exact HB.out)) hb); clear HB; have HO175 := n0_; have HB := n1_; clear n0_ n1_; (try clear hb); (try clear hb2); (try clear hk); (try clear hi); (try clear ho0)) | ((with_reducible refine gate_callee (f := 43) rfl ?_); refine goesL_ (some 2) rfl rfl Try.func43 (by kernel_rfl) rfl #[] rfl (by (try simp only [List.map_toArray, List.map_cons, List.map_nil]); first | done | rfl | (simp only [List.length_drop, List.length_take]; rfl)) ?_; (with_reducible refine (toponymref03_upper.calls  t176 _ A2.out).mono ?_); rintro e w7 ⟨v177, rfl, ho0, hb⟩; refine ⟨_, rfl, ?_⟩; have n0_ := Aside0.mk (Kd.R_elder' (by (with_reducible repeat (first | apply Kd.R_alloc | apply Kd.R_drewN | apply Kd.R_drew)); exact HO175.out) (Kd.R_base ho0) hb); have n1_ := Aside0.mk (Kd.R_lower (Kd.R_new' ho0 (Kd.R_lt (by (with_reducible repeat (first | apply Kd.R_alloc | apply Kd.R_drewN | apply Kd.R_drew)); exact HO175.out))) (below_size (by repeat (first | (with_reducible first | exact HB.out | apply below_alloc | apply pw_below_drewN | apply below_drew1) | exact HB.out)))); have n2_ := Aside0.mk (below_step (by repeat (first | (with_reducible first | exact HB.out | apply below_alloc | apply pw_below_drewN | apply below_drew1) | exact HB.out)) hb); clear HO175; clear HB; have HO175 := n0_; have HO178 := n1_; have HB := n2_; clear n0_ n1_ n2_; (try clear hb); (try clear hb2); (try clear hk); (try clear hi); (try clear ho0); obtain ⟨Ao9, co9, eo9⟩ := Kd.R_slice HO178.out; subst eo9) | ((with_reducible refine gate_builtin (b := .append) (xs := #[.tmp 1, .tmp 2]) rfl ?_); at_builtin; refine Kd.R_append_rows k54 (w0 := w) w.heap.size rfl (.tmp 1) (.tmp 2) 51 54 (.agg #[(.int .i32 0), (.int .i32 0), (.int .i64 0)]) 16 rfl Try.underlying51 info54 rfl (by decide) (by omega) v174 t173 t176 _ _ _ (fun k_ => some k_ ≠ (.slice Ao9 t176.length co9 : Value).ownBlock) (fun _ => False) rfl rfl ?aO ?aR (fun _ _ h => h) (fun _ h => h.elim) ?aF ?aB ?aS ?aL ?_; (case aR => repeat (first | exact (Kd.R_reads' HO178.out).2.2 | (with_reducible refine Kd.C_alloc ?_ _) | (with_reducible refine Kd.C_drewN ?_ _) | (with_reducible refine Kd.C_drew ?_))); (case aB => exact (by repeat (first | (with_reducible first | exact HB.out | apply below_alloc | apply pw_below_drewN | apply below_drew1) | exact HB.out))); (case aF => exact (fun k_ hk => Kd.fresh' (Kd.R_lt (by (with_reducible repeat (first | apply Kd.R_alloc | apply Kd.R_drewN | apply Kd.R_drew)); exact HO178.out)) k_ hk)); (case aO => exact (by (with_reducible repeat (first | apply Kd.R_alloc | apply Kd.R_drewN | apply Kd.R_drew)); exact Kd.R_mono HO175.out (fun _ hk => hk.2))); (case aS => exact (below_size (by repeat (first | (with_reducible first | exact HB.out | apply below_alloc | apply pw_below_drewN | apply below_drew1) | exact HB.out)))); (case aL => have := LMc3.out; omega); intro v180 w8 ho hb hg hat; rw [← Ny179.out] at ho; have n0_ := Aside0.mk (Kd.R_after (ok := (fun _ => True)) (by (with_reducible repeat (first | apply Kd.R_alloc | apply Kd.R_drewN | apply Kd.R_drew)); exact HO178.out) hg hat); have n1_ := Aside0.mk (hb); have n2_ := Aside0.mk (ho); clear HO178; clear HB; clear HO175; have HO178 := n0_; have HB := n1_; have HO181 := n2_; clear n0_ n1_ n2_; clear ho hb hg hat) | ((with_reducible refine gate_callee (f := 44) rfl ?_); refine goesL_ (some 4) rfl rfl Try.func44 (by kernel_rfl) rfl #[] rfl (by (try simp only [List.map_toArray, List.map_cons, List.map_nil]); first | done | rfl | (simp only [List.length_drop, List.length_take]; rfl)) ?_; (with_reducible refine (toponymref03_planes.calls k  t182 _ A4.out).mono ?_); rintro e w10 ⟨v183, rfl, ho0, hb⟩; refine ⟨_, rfl, ?_⟩; have n0_ := Aside0.mk (Kd.R_elder' (by (with_reducible repeat (first | apply Kd.R_alloc | apply Kd.R_drewN | apply Kd.R_drew)); exact HO178.out) (Kd.R_base ho0) hb); have n1_ := Aside0.mk (Kd.R_elder' (by (with_reducible repeat (first | apply Kd.R_alloc | apply Kd.R_drewN | apply Kd.R_drew)); exact HO181.out) (Kd.R_base ho0) hb); have n2_ := Aside0.mk (Kd.R_lower (Kd.R_new' (Kd.R_new' ho0 (Kd.R_lt (by (with_reducible repeat (first | apply Kd.R_alloc | apply Kd.R_drewN | apply Kd.R_drew)); exact HO178.out))) (Kd.R_lt (by (with_reducible repeat (first | apply Kd.R_alloc | apply Kd.R_drewN | apply Kd.R_drew)); exact HO181.out))) (below_size (by repeat (first | (with_reducible first | exact HB.out | apply below_alloc | apply pw_below_drewN | apply below_drew1) | exact HB.out)))); have n3_ := Aside0.mk (below_step (by repeat (first | (with_reducible first | exact HB.out | apply below_alloc | apply pw_below_drewN | apply below_drew1) | exact HB.out)) hb); clear HO178; clear HO181; clear HB; have HO178 := n0_; have HO181 := n1_; have HO184 := n2_; have HB := n3_; clear n0_ n1_ n2_ n3_; (try clear hb); (try clear hb2); (try clear hk); (try clear hi); (try clear ho0); obtain ⟨Ao12, co12, eo12⟩ := Kd.R_slice HO184.out; subst eo12) | ((with_reducible refine gate_builtin (b := .append) (xs := #[.tmp 3, .tmp 4]) rfl ?_); at_builtin; refine Kd.R_append_rows k54 (w0 := w) w.heap.size rfl (.tmp 3) (.tmp 4) 51 54 (.agg #[(.int .i32 0), (.int .i32 0), (.int .i64 0)]) 16 rfl Try.underlying51 info54 rfl (by decide) (by omega) v180 y179 t182 _ _ _ (fun k_ => some k_ ≠ (.slice Ao9 t176.length co9 : Value).ownBlock ∧ some k_ ≠ (.slice Ao12 t182.length co12 : Value).ownBlock) (fun _ => False) rfl rfl ?aO ?aR (fun _ _ h => h) (fun _ h => h.elim) ?aF ?aB ?aS ?aL ?_; (case aR => repeat (first | exact (Kd.R_reads' HO184.out).2.2 | (with_reducible refine Kd.C_alloc ?_ _) | (with_reducible refine Kd.C_drewN ?_ _) | (with_reducible refine Kd.C_drew ?_))); (case aB => exact (by repeat (first | (with_reducible first | exact HB.out | apply below_alloc | apply pw_below_drewN | apply below_drew1) | exact HB.out))); (case aF => exact (fun k_ hk => ⟨Kd.fresh' (Kd.R_lt (by (with_reducible repeat (first | apply Kd.R_alloc | apply Kd.R_drewN | apply Kd.R_drew)); exact HO178.out)) k_ hk, Kd.fresh' (Kd.R_lt (by (with_reducible repeat (first | apply Kd.R_alloc | apply Kd.R_drewN | apply Kd.R_drew)); exact HO184.out)) k_ hk⟩)); (case aO => exact (by (with_reducible repeat (first | apply Kd.R_alloc | apply Kd.R_drewN | apply Kd.R_drew)); exact HO181.out)); (case aS => exact (below_size (by repeat (first | (with_reducible first | exact HB.out | apply below_alloc | apply pw_below_drewN | apply below_drew1) | exact HB.out)))); (case aL => have := LMc5.out; omega); intro v186 w11 ho hb hg hat; rw [← Ny185.out] at ho; have n0_ := Aside0.mk (Kd.R_after (ok := (fun k_ => some k_ ≠ (.slice Ao12 t182.length co12 : Value).ownBlock)) (by (with_reducible repeat (first | apply Kd.R_alloc | apply Kd.R_drewN | apply Kd.R_drew)); exact Kd.R_mono HO178.out (fun _ hk => ⟨hk.2, hk.1.2⟩)) hg hat); have n1_ := Aside0.mk (Kd.R_after (ok := (fun k_ => some k_ ≠ (.slice Ao9 t176.length co9 : Value).ownBlock)) (by (with_reducible repeat (first | apply Kd.R_alloc | apply Kd.R_drewN | apply Kd.R_drew)); exact Kd.R_mono HO184.out (fun _ hk => ⟨hk.1.2, hk.2⟩)) hg hat); have n2_ := Aside0.mk (hb); have n3_ := Aside0.mk (ho); clear HO178; clear HO184; clear HB; clear HO181; have HO178 := n0_; have HO184 := n1_; have HB := n2_; have HO187 := n3_; clear n0_ n1_ n2_ n3_; clear ho hb hg hat))
      go_ret
      exact ⟨_, by first | rfl | (simp [errW_none, errW_some] <;> rfl) | (simp [*, errW_none, errW_some] <;> rfl), by (with_reducible repeat (first | apply Kd.R_alloc | apply Kd.R_drewN | apply Kd.R_drew)); exact Kd.R_mono HO187.out (fun _ hk => trivial), by repeat (first | (with_reducible first | exact HB.out | apply below_alloc | apply pw_below_drewN | apply below_drew1) | exact HB.out)⟩
    · rw [if_neg c5] at H
      exact absurd H (by simp)
  · rw [if_neg c3] at H
    exact absurd H (by simp)

/-! ### toponymref03_Kind: function 18 -/
mutual
def toponymref03_Kind.j0 : Nat → Int → Bool → Option (Int)
  | 0, _, _ => none
  | k + 1, x0, x10 => if x10 = true then ((toponymref03_ascii.f k x0).bind fun t188 => (some t188)) else ((toponymref03_Rows.f k).bind fun t189 => (toponymref03_Kind.l0 k x0 t189 0))
def toponymref03_Kind.l0 : Nat → Int → List (S54) → Int → Option (Int)
  | 0, _, _, _ => none
  | k + 1, x0, x3, x4 => if x4 < (x3.length : Int) then (if 0 ≤ x4 then (if x0 ≥ ((rd_T54 x3 x4).f0) then (if x0 ≤ ((rd_T54 x3 x4).f1) then (some ((rd_T54 x3 x4).f2)) else (toponymref03_Kind.l0 k x0 x3 (wrap64 (x4 + 1)))) else (toponymref03_Kind.l0 k x0 x3 (wrap64 (x4 + 1)))) else (none)) else (some 0)
end
def toponymref03_Kind.f (k : Nat) (a0 : Int) : Option (Int) := if a0 ≥ 0 then (toponymref03_Kind.j0 k a0 (decide (a0 < 128))) else (toponymref03_Kind.j0 k a0 false)
theorem toponymref03_Kind.mono_l : ∀ k, (∀ y0 y1, LeO (toponymref03_Kind.j0 k y0 y1) (toponymref03_Kind.j0 (k + 1) y0 y1)) ∧ (∀ y0 y1 y2, LeO (toponymref03_Kind.l0 k y0 y1 y2) (toponymref03_Kind.l0 (k + 1) y0 y1 y2))
  | 0 => ⟨fun _ _ r h => by simp [toponymref03_Kind.j0] at h, fun _ _ _ r h => by simp [toponymref03_Kind.l0] at h⟩
  | k + 1 => by
    obtain ⟨ih0, ih1⟩ := toponymref03_Kind.mono_l k
    refine ⟨?_, ?_⟩
    · intro y0 y1
      unfold toponymref03_Kind.j0
      repeat' first
      | (with_reducible exact ih0 _ _)
      | (with_reducible exact ih1 _ _ _)
      | (with_reducible exact toponymref03_Rows.mono _)
      | (with_reducible exact toponymref03_ascii.mono _ _)
      | (with_reducible exact LeO.refl _)
      | (with_reducible exact LeO.none _)
      | (with_reducible refine LeO.ite ?_ ?_)
      | (with_reducible refine LeO.bind ?_ (fun _ => ?_))
      | exact ih0 _ _
      | exact ih1 _ _ _
      | exact toponymref03_Rows.mono _
      | exact toponymref03_ascii.mono _ _
      | exact LeO.none _
      | refine LeO.ite ?_ ?_
      | refine LeO.bind ?_ (fun _ => ?_)
    · intro y0 y1 y2
      unfold toponymref03_Kind.l0
      repeat' first
      | (with_reducible exact ih0 _ _)
      | (with_reducible exact ih1 _ _ _)
      | (with_reducible exact toponymref03_Rows.mono _)
      | (with_reducible exact toponymref03_ascii.mono _ _)
      | (with_reducible exact LeO.refl _)
      | (with_reducible exact LeO.none _)
      | (with_reducible refine LeO.ite ?_ ?_)
      | (with_reducible refine LeO.bind ?_ (fun _ => ?_))
      | exact ih0 _ _
      | exact ih1 _ _ _
      | exact toponymref03_Rows.mono _
      | exact toponymref03_ascii.mono _ _
      | exact LeO.none _
      | refine LeO.ite ?_ ?_
      | refine LeO.bind ?_ (fun _ => ?_)
theorem toponymref03_Kind.mono : ∀ a0 k, LeO (toponymref03_Kind.f k a0) (toponymref03_Kind.f (k + 1) a0) := by
  intro a0 k
  obtain ⟨ih0, ih1⟩ := toponymref03_Kind.mono_l k
  unfold toponymref03_Kind.f
  repeat' first
      | (with_reducible exact ih0 _ _)
      | (with_reducible exact ih1 _ _ _)
      | (with_reducible exact toponymref03_Rows.mono _)
      | (with_reducible exact toponymref03_ascii.mono _ _)
      | (with_reducible exact LeO.refl _)
      | (with_reducible exact LeO.none _)
      | (with_reducible refine LeO.ite ?_ ?_)
      | (with_reducible refine LeO.bind ?_ (fun _ => ?_))
      | exact ih0 _ _
      | exact ih1 _ _ _
      | exact toponymref03_Rows.mono _
      | exact toponymref03_ascii.mono _ _
      | exact LeO.none _
      | refine LeO.ite ?_ ?_
      | refine LeO.bind ?_ (fun _ => ?_)
set_option maxHeartbeats 8000000 in
set_option maxRecDepth 100000 in
theorem toponymref03_Kind.calls (k : Nat) (a0 : Int) (r : Int) (w : World) (h : toponymref03_Kind.f k a0 = some r) :
    Calls Try.prog 18 #[.int .i32 a0] w fun e w' => e = .returned (.int .i64 r) ∧ Below w.heap.size w w' := by
  have HB := Aside0.mk (Below.refl w.heap.size w)
  have H : (if a0 ≥ 0 then (toponymref03_Kind.j0 k a0 (decide (a0 < 128))) else (toponymref03_Kind.j0 k a0 false)) = some r := h
  clear h
  have HC2 := Aside0.mk H
  clear H
  go_enter Try.func18, Try.ntmps18
  go_upto_region 1 with (fail)
  go_cut [10] (fun v10 wc => ∃ (kq : Nat) (x10_1 : Bool), v10 = .bool x10_1 ∧ Aside0 (toponymref03_Kind.j0 kq a0 x10_1 = some r) ∧ Aside0 (kq ≤ k) ∧ Aside0 (Below w.heap.size w wc))
  case first =>
    have H := HC2.out
    clear HC2
    by_cases c3 : a0 ≥ 0
    · rw [if_pos c3] at H
      have c3b0 : decide (0 ≤ a0) = true := decide_eq_true c3
      clear c3
      (first | rw [c3b0] | (simp only [i64_w, i32_w]; rw [c3b0]) | skip)
      have H' := Aside0.mk H
      clear H
      go_wp2
      go_meet
      case rel => exact ⟨_, (decide (a0 < 128)), (by first | rfl | (simp; done) | (simp [*]; done)), H', ⟨by first | omega | exact Nat.le_refl _⟩, ⟨by repeat (first | (with_reducible first | exact HB.out | apply below_alloc | apply pw_below_drewN | apply below_drew1) | exact HB.out)⟩⟩
    · rw [if_neg c3] at H
      have c3b0 : decide (0 ≤ a0) = false := decide_eq_false c3
      clear c3
      (first | rw [c3b0] | (simp only [i64_w, i32_w]; rw [c3b0]) | skip)
      have H' := Aside0.mk H
      clear H
      go_wp2
      go_meet
      case rel => exact ⟨_, (false), (by first | rfl | (simp; done) | (simp [*]; done)), H', ⟨by first | omega | exact Nat.le_refl _⟩, ⟨by repeat (first | (with_reducible first | exact HB.out | apply below_alloc | apply pw_below_drewN | apply below_drew1) | exact HB.out)⟩⟩
  case rest =>
    clear HC2
    try clear c1
    try clear p2
    try clear c3
    try clear c3b0
    obtain ⟨kq, x10_1, rfl, HA, HJ1, HB⟩ := hcut
    cases kq with
    | zero => exact absurd HA.out (by simp [toponymref03_Kind.j0])
    | succ kj1 =>
      have H := HA.out
      clear HA
      simp only [toponymref03_Kind.j0] at H
      by_cases c4 : x10_1 = true
      · subst c4
        have H1 : ((toponymref03_ascii.f kj1 a0).bind fun t188 => (some t188)) = some r := by rw [if_pos rfl] at H; exact H
        clear H
        have H := H1
        clear H1
        replace H := Option.bind_eq_some_iff.mp H
        obtain ⟨t188, A50, H⟩ := H
        replace H : (some t188) = some r := H
        have A5 := Aside0.mk A50
        clear A50
        obtain rfl := Option.some.inj H
        go_wp2_with (first | ((with_reducible refine gate_callee (f := 27) rfl ?_); refine goesL_ (some 12) rfl rfl Try.func27 (by kernel_rfl) rfl #[.int .i32 a0] rfl (by (try simp only [List.map_toArray, List.map_cons, List.map_nil]); first | done | rfl | (simp only [List.length_drop, List.length_take]; rfl)) ?_; (with_reducible refine (toponymref03_ascii.calls kj1 a0 t188 _ A5.out).mono ?_); rintro e w' ⟨rfl, ⟨nd, rfl⟩⟩; refine ⟨_, rfl, ?_⟩))
        go_ret
        exact ⟨by first | rfl | (simp [errW_none, errW_some] <;> rfl) | (simp [*, errW_none, errW_some] <;> rfl), by repeat (first | (with_reducible first | exact HB.out | apply below_alloc | apply pw_below_drewN | apply below_drew1) | exact HB.out)⟩
      · replace c4 := Bool.eq_false_iff.mpr c4
        subst c4
        have H1 : ((toponymref03_Rows.f kj1).bind fun t189 => (toponymref03_Kind.l0 kj1 a0 t189 0)) = some r := by rw [if_neg (show ¬ (false = true) by decide)] at H; exact H
        clear H
        have H := H1
        clear H1
        replace H := Option.bind_eq_some_iff.mp H
        obtain ⟨t189, A60, H⟩ := H
        replace H : (toponymref03_Kind.l0 kj1 a0 t189 0) = some r := H
        have A6 := Aside0.mk A60
        clear A60
        have H' := Aside0.mk H
        clear H
        go_wp2_with (first | ((with_reducible refine gate_callee (f := 28) rfl ?_); refine goesL_ (some 13) rfl rfl Try.func28 (by kernel_rfl) rfl #[] rfl (by (try simp only [List.map_toArray, List.map_cons, List.map_nil]); first | done | rfl | (simp only [List.length_drop, List.length_take]; rfl)) ?_; (with_reducible refine (toponymref03_Rows.calls kj1  t189 _ A6.out).mono ?_); rintro e w7 ⟨v190, rfl, ho0, hb⟩; refine ⟨_, rfl, ?_⟩; have n0_ := Aside0.mk (Kd.R_lower ho0 (below_size (by repeat (first | (with_reducible first | exact HB.out | apply below_alloc | apply pw_below_drewN | apply below_drew1) | exact HB.out)))); have n1_ := Aside0.mk (below_step (by repeat (first | (with_reducible first | exact HB.out | apply below_alloc | apply pw_below_drewN | apply below_drew1) | exact HB.out)) hb); clear HB; have HO191 := n0_; have HB := n1_; clear n0_ n1_; (try clear hb); (try clear hb2); (try clear hk); (try clear hi); (try clear ho0)))
        go_loopg [4] kj1 (fun kq v4 w' => ∃ (x4_2 : Int), v4 = .int .i64 x4_2 ∧ Aside0 (toponymref03_Kind.l0 kq a0 t189 x4_2 = some r) ∧ Aside0 (kq ≤ kj1) ∧ Aside0 (Kd.R k54 54 w' w.heap.size (fun _ => True) v190 t189) ∧ Aside0 (Below w.heap.size w w'))
        case atStart => exact ⟨(0), (by first | rfl | (simp; done) | (simp [*]; done)), H', ⟨Nat.le_refl _⟩, ⟨by (with_reducible repeat (first | apply Kd.R_alloc | apply Kd.R_drewN | apply Kd.R_drew)); exact HO191.out⟩, ⟨by repeat (first | (with_reducible first | exact HB.out | apply below_alloc | apply pw_below_drewN | apply below_drew1) | exact HB.out)⟩⟩
        case round =>
          clear H'
          try clear c1
          try clear c2
          try clear p2
          try clear c3
          try clear c3b0
          try clear c4
          try clear p2
          obtain ⟨x4_2, rfl, HA, HK2, HO_3, HB⟩ := hrel
          cases gk with
          | zero => exact absurd HA.out (by simp [toponymref03_Kind.l0])
          | succ k2 =>
            have H := HA.out
            clear HA
            simp only [toponymref03_Kind.l0] at H
            by_cases c8 : x4_2 < (t189.length : Int)
            · rw [if_pos c8] at H
              have c8b0 : decide (x4_2 < (t189.length : Int)) = true := decide_eq_true c8
              clear c8
              by_cases c9 : 0 ≤ x4_2
              · rw [if_pos c9] at H
                have c9b0 : decide (0 ≤ x4_2) = true := decide_eq_true c9
                clear c9
                by_cases c10 : a0 ≥ ((rd_T54 t189 x4_2).f0)
                · rw [if_pos c10] at H
                  have c10b0 : decide (((rd_T54 t189 x4_2).f0) ≤ a0) = true := decide_eq_true c10
                  clear c10
                  by_cases c11 : a0 ≤ ((rd_T54 t189 x4_2).f1)
                  · rw [if_pos c11] at H
                    have c11b0 : decide (a0 ≤ ((rd_T54 t189 x4_2).f1)) = true := decide_eq_true c11
                    clear c11
                    obtain rfl := Option.some.inj H
                    obtain ⟨Ao12, co12, eo12⟩ := Kd.R_slice HO_3.out
                    subst eo12
                    have p192 : 0 ≤ (x4_2 : Int) := of_decide_eq_true (by first | (with_reducible assumption) | assumption)
                    have q192 : x4_2 < (t189.length : Int) := of_decide_eq_true (by first | (with_reducible assumption) | assumption)
                    obtain ⟨ad192, e192, hx192_0, hx192_1, hx192_2⟩ := at_T54 (Kd.R_reads' HO_3.out).2.2 x4_2 p192 q192
                    cases e192
                    replace p192 := eq_true p192
                    replace q192 := eq_true q192
                    have p193 : 0 ≤ (x4_2 : Int) := of_decide_eq_true (by first | (with_reducible assumption) | assumption)
                    have q193 : x4_2 < (t189.length : Int) := of_decide_eq_true (by first | (with_reducible assumption) | assumption)
                    obtain ⟨ad193, e193, hx193_0, hx193_1, hx193_2⟩ := at_T54 (Kd.R_reads' HO_3.out).2.2 x4_2 p193 q193
                    obtain rfl : ad192 = ad193 := (by injection e193)
                    replace p193 := eq_true p193
                    replace q193 := eq_true q193
                    have p194 : 0 ≤ (x4_2 : Int) := of_decide_eq_true (by first | (with_reducible assumption) | assumption)
                    have q194 : x4_2 < (t189.length : Int) := of_decide_eq_true (by first | (with_reducible assumption) | assumption)
                    obtain ⟨ad194, e194, hx194_0, hx194_1, hx194_2⟩ := at_T54 (Kd.R_reads' HO_3.out).2.2 x4_2 p194 q194
                    obtain rfl : ad192 = ad194 := (by injection e194)
                    replace p194 := eq_true p194
                    replace q194 := eq_true q194
                    go_wp2
                    go_ret
                    exact ⟨by first | rfl | (simp [errW_none, errW_some] <;> rfl) | (simp [*, errW_none, errW_some] <;> rfl), by repeat (first | (with_reducible first | exact HB.out | apply below_alloc | apply pw_below_drewN | apply below_drew1) | exact HB.out)⟩
                  · rw [if_neg c11] at H
                    have c11b0 : decide (a0 ≤ ((rd_T54 t189 x4_2).f1)) = false := decide_eq_false c11
                    clear c11
                    have H' := Aside0.mk H
                    clear H
                    obtain ⟨Ao13, co13, eo13⟩ := Kd.R_slice HO_3.out
                    subst eo13
                    have p192 : 0 ≤ (x4_2 : Int) := of_decide_eq_true (by first | (with_reducible assumption) | assumption)
                    have q192 : x4_2 < (t189.length : Int) := of_decide_eq_true (by first | (with_reducible assumption) | assumption)
                    obtain ⟨ad192, e192, hx192_0, hx192_1, hx192_2⟩ := at_T54 (Kd.R_reads' HO_3.out).2.2 x4_2 p192 q192
                    cases e192
                    replace p192 := eq_true p192
                    replace q192 := eq_true q192
                    have p193 : 0 ≤ (x4_2 : Int) := of_decide_eq_true (by first | (with_reducible assumption) | assumption)
                    have q193 : x4_2 < (t189.length : Int) := of_decide_eq_true (by first | (with_reducible assumption) | assumption)
                    obtain ⟨ad193, e193, hx193_0, hx193_1, hx193_2⟩ := at_T54 (Kd.R_reads' HO_3.out).2.2 x4_2 p193 q193
                    obtain rfl : ad192 = ad193 := (by injection e193)
                    replace p193 := eq_true p193
                    replace q193 := eq_true q193
                    go_wp2
                    go_roundg k2
                    case measure => have := HJ1.out; have := HK2.out; omega
                    case rel => exact ⟨(wrap64 (x4_2 + 1)), (by first | rfl | (simp; done) | (simp [*]; done)), H', ⟨by have := HJ1.out; have := HK2.out; omega⟩, ⟨by (with_reducible repeat (first | apply Kd.R_alloc | apply Kd.R_drewN | apply Kd.R_drew)); exact HO_3.out⟩, ⟨by repeat (first | (with_reducible first | exact HB.out | apply below_alloc | apply pw_below_drewN | apply below_drew1) | exact HB.out)⟩⟩
                · rw [if_neg c10] at H
                  have c10b0 : decide (((rd_T54 t189 x4_2).f0) ≤ a0) = false := decide_eq_false c10
                  clear c10
                  have H' := Aside0.mk H
                  clear H
                  obtain ⟨Ao14, co14, eo14⟩ := Kd.R_slice HO_3.out
                  subst eo14
                  have p192 : 0 ≤ (x4_2 : Int) := of_decide_eq_true (by first | (with_reducible assumption) | assumption)
                  have q192 : x4_2 < (t189.length : Int) := of_decide_eq_true (by first | (with_reducible assumption) | assumption)
                  obtain ⟨ad192, e192, hx192_0, hx192_1, hx192_2⟩ := at_T54 (Kd.R_reads' HO_3.out).2.2 x4_2 p192 q192
                  cases e192
                  replace p192 := eq_true p192
                  replace q192 := eq_true q192
                  go_wp2
                  go_roundg k2
                  case measure => have := HJ1.out; have := HK2.out; omega
                  case rel => exact ⟨(wrap64 (x4_2 + 1)), (by first | rfl | (simp; done) | (simp [*]; done)), H', ⟨by have := HJ1.out; have := HK2.out; omega⟩, ⟨by (with_reducible repeat (first | apply Kd.R_alloc | apply Kd.R_drewN | apply Kd.R_drew)); exact HO_3.out⟩, ⟨by repeat (first | (with_reducible first | exact HB.out | apply below_alloc | apply pw_below_drewN | apply below_drew1) | exact HB.out)⟩⟩
              · rw [if_neg c9] at H
                exact absurd H (by simp)
            · rw [if_neg c8] at H
              have c8b0 : decide (x4_2 < (t189.length : Int)) = false := decide_eq_false c8
              clear c8
              obtain rfl := Option.some.inj H
              obtain ⟨Ao15, co15, eo15⟩ := Kd.R_slice HO_3.out
              subst eo15
              go_wp2
              go_ret
              exact ⟨by first | rfl | (simp [errW_none, errW_some] <;> rfl) | (simp [*, errW_none, errW_some] <;> rfl), by repeat (first | (with_reducible first | exact HB.out | apply below_alloc | apply pw_below_drewN | apply below_drew1) | exact HB.out)⟩

/-! ### toponymref10_Fit: function 11 -/
def toponymref10_Fit.f (k : Nat) (a0 : Int) : Option (Bool) := (toponymref03_Kind.f k a0).bind fun t195 => (if t195 = 0 then (some false) else (some (t195 != 7)))
theorem toponymref10_Fit.mono : ∀ a0 k, LeO (toponymref10_Fit.f k a0) (toponymref10_Fit.f (k + 1) a0) := by
  intro a0 k
  unfold toponymref10_Fit.f
  repeat' first
      | (with_reducible exact toponymref03_Kind.mono _ _)
      | (with_reducible exact LeO.refl _)
      | (with_reducible exact LeO.none _)
      | (with_reducible refine LeO.ite ?_ ?_)
      | (with_reducible refine LeO.bind ?_ (fun _ => ?_))
      | exact toponymref03_Kind.mono _ _
      | exact LeO.none _
      | refine LeO.ite ?_ ?_
      | refine LeO.bind ?_ (fun _ => ?_)
set_option maxHeartbeats 8000000 in
set_option maxRecDepth 100000 in
theorem toponymref10_Fit.calls (k : Nat) (a0 : Int) (r : Bool) (w : World) (h : toponymref10_Fit.f k a0 = some r) :
    Calls Try.prog 11 #[.int .i32 a0] w fun e w' => e = .returned (.bool r) ∧ Below w.heap.size w w' := by
  have HB := Aside0.mk (Below.refl w.heap.size w)
  have H : ((toponymref03_Kind.f k a0).bind fun t195 => (if t195 = 0 then (some false) else (some (t195 != 7)))) = some r := h
  clear h
  replace H := Option.bind_eq_some_iff.mp H
  obtain ⟨t195, A20, H⟩ := H
  replace H : (if t195 = 0 then (some false) else (some (t195 != 7))) = some r := H
  have A2 := Aside0.mk A20
  clear A20
  by_cases c3 : t195 = 0
  · rw [if_pos c3] at H
    have c3b0 : (t195 == 0) = true := beq_iff_eq.mpr c3
    have c3b1 : (t195 != 0) = false := bne_eq_false_iff_eq.mpr c3
    clear c3
    obtain rfl := Option.some.inj H
    go_enter Try.func11, Try.ntmps11
    go_wp2_with (first | ((with_reducible refine gate_callee (f := 18) rfl ?_); refine goesL_ (some 5) rfl rfl Try.func18 (by kernel_rfl) rfl #[.int .i32 a0] rfl (by (try simp only [List.map_toArray, List.map_cons, List.map_nil]); first | done | rfl | (simp only [List.length_drop, List.length_take]; rfl)) ?_; (with_reducible refine (toponymref03_Kind.calls k a0 t195 _ A2.out).mono ?_); rintro e w4 ⟨rfl, hb⟩; refine ⟨_, rfl, ?_⟩; have n0_ := Aside0.mk (below_step (by repeat (first | (with_reducible first | exact HB.out | apply below_alloc | apply pw_below_drewN | apply below_drew1) | exact HB.out)) hb); clear HB; have HB := n0_; clear n0_; (try clear hb); (try clear hb2); (try clear hk); (try clear hi)))
    go_ret
    exact ⟨by first | rfl | (simp [errW_none, errW_some] <;> rfl) | (simp [*, errW_none, errW_some] <;> rfl), by repeat (first | (with_reducible first | exact HB.out | apply below_alloc | apply pw_below_drewN | apply below_drew1) | exact HB.out)⟩
  · rw [if_neg c3] at H
    have c3b0 : (t195 == 0) = false := beq_eq_false_iff_ne.mpr c3
    have c3b1 : (t195 != 0) = true := bne_iff_ne.mpr c3
    obtain rfl := Option.some.inj H
    go_enter Try.func11, Try.ntmps11
    go_wp2_with (first | ((with_reducible refine gate_callee (f := 18) rfl ?_); refine goesL_ (some 5) rfl rfl Try.func18 (by kernel_rfl) rfl #[.int .i32 a0] rfl (by (try simp only [List.map_toArray, List.map_cons, List.map_nil]); first | done | rfl | (simp only [List.length_drop, List.length_take]; rfl)) ?_; (with_reducible refine (toponymref03_Kind.calls k a0 t195 _ A2.out).mono ?_); rintro e w5 ⟨rfl, hb⟩; refine ⟨_, rfl, ?_⟩; have n0_ := Aside0.mk (below_step (by repeat (first | (with_reducible first | exact HB.out | apply below_alloc | apply pw_below_drewN | apply below_drew1) | exact HB.out)) hb); clear HB; have HB := n0_; clear n0_; (try clear hb); (try clear hb2); (try clear hk); (try clear hi)))
    go_ret
    exact ⟨by first | rfl | (simp [errW_none, errW_some] <;> rfl) | (simp [*, errW_none, errW_some] <;> rfl), by repeat (first | (with_reducible first | exact HB.out | apply below_alloc | apply pw_below_drewN | apply below_drew1) | exact HB.out)⟩

end Go.Proofs.Ythlejpbdmgcgbaa.P
